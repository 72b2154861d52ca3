/- A pack of texts: RowKit OpenRows InfOpen SepRegion2. -/
import Derived.ChangeSame
import Derived.Deep.Fields
import Derived.Deep.Slices
import Derived.Laws.BitsAllLaws
import Derived.OpenShut
import Derived.ProofKit
import Derived.Test.YtiogaejfcenooaaDoorPk01
import Derived.Test.YtiogaejfcenooaaDoorPk02
import Derived.Test.YtiogaejfcenooaaDoorPk12
import Derived.Test.YtiogaejfcenooaaDoorPk13
import Derived.Test.YtiogaejfcenooaaDoorPk16
namespace Go.Proofs.YtiogaejfcenooaaDoor
open Go.ChangeShapes Go.WideShapes Go.ChangeAt Go.RowKit

/-- A slice of integers that came in: nil, or a row of 'cap' cells. -/
def IsRow (k : IntKind) (w : World) (a : Option Addr) (len cap : Nat) (zs : List Int) : Prop :=
  (a = none ∧ len = 0 ∧ cap = 0 ∧ zs = []) ∨
  ∃ x, a = some x ∧ len ≤ cap ∧ cap ≤ maxLen ∧ zs.length = cap ∧ (∀ i, i < zs.length → w.cell? (x.add i) = some (.int k (zs.getD i 0))) ∧ ∀ n ∈ zs, (Lit.int k n).wf = true
theorem wf_u8 {n : Int} (h : (Lit.int .u8 n).wf = true) : 0 ≤ n ∧ n < 256 := by
  have := bounds_u8 h; omega
theorem IsRow.byt {w : World} {a : Option Addr} {len cap : Nat} {zs : List Int} (h : IsRow .u8 w a len cap zs) : ∃ l : List UInt8, len = l.length ∧ Byt w (.slice a len cap) l := by
  rcases h with ⟨rfl, rfl, rfl, rfl⟩ | ⟨x, rfl, hl, hm, hz, hc, hw⟩
  · exact ⟨[], rfl, Byt.nil w⟩
  · refine ⟨(zs.take len).map fun n => UInt8.ofNat n.toNat, by simp; omega, some x, cap, by simp; omega, fun _ => ⟨x, rfl, fun j u hu => ?_⟩, by simp; omega, hm⟩
    unfold cells8 at hu
    rw [List.map_map, List.getElem?_map, List.getElem?_take] at hu
    split at hu
    · rename_i hj
      have hjz : j < zs.length := by omega
      rw [List.getElem?_eq_getElem hjz] at hu
      simp only [Option.map_some, Function.comp_apply, Option.some.injEq] at hu
      rw [hc j hjz, ← hu, List.getD_eq_getElem?_getD, List.getElem?_eq_getElem hjz]
      have hb := wf_u8 (hw _ (List.getElem_mem hjz))
      simp only [Option.getD_some]
      congr 2
      rw [UInt8.toNat_ofNat']
      omega
    · simp at hu
/-- An array by value is an aggregate of its cells. -/
theorem okWide_array {P : Program} {w : World} {r : Reach} {base : Nat} {t e : TypeId} {n : Nat} {v : Value} (ht : P.underlying t = some (.array n e)) (h : Value.okWide P w r base t v) : ∃ cs, v = .agg cs ∧ cs.size = P.cellsOf t := by
  cases v <;> simp [Value.okWide, ht] at h
  exact ⟨_, rfl, h.1⟩
/-- Four bytes by value. -/
theorem open_arr4 {H : Type} {enc : TypeId × Value → H} {P : Program} {w : World} {r : Reach} {base b0 : Nat} {spare : Nat → Bool} {held : Bool} {t e : TypeId} {v : Value} {d : DataW H} {p : List MemPlace}
    (ht : P.underlying t = some (.array 4 e)) (he : P.underlying e = some (.int .u8)) (hce : P.cellsOf e = 1) (hct : P.cellsOf t = 4)
    (hv : Value.okWide P w r base t v) (h : DataW.Trod enc P w b0 spare held t v d p) :
    ∃ a b c d' : UInt8, v = .agg #[.int .u8 (a.toNat : Int), .int .u8 (b.toNat : Int), .int .u8 (c.toNat : Int), .int .u8 (d'.toNat : Int)] := by
  obtain ⟨cs, rfl, hsz⟩ := okWide_array ht hv
  obtain ⟨l⟩ := cs
  rw [hct] at hsz
  match l, hsz with
  | [c0, c1, c2, c3], _ =>
    obtain ⟨fuel, hf⟩ := h
    obtain ⟨xs, m, _, _, _, hn, hg⟩ := DataW.trod_array ht hf
    have one : ∀ (c : Value) (x : DataW H × List MemPlace), DataW.trod enc P w b0 spare held m e [c] = some x → ∃ u : UInt8, c = .int .u8 (u.toNat : Int) := by
      intro c x hx
      obtain ⟨k, e1, _, wk⟩ := DataW.trod_int he hx
      have hb := wf_u8 wk
      refine ⟨UInt8.ofNat k.toNat, ?_⟩
      have e2 : c = .int .u8 k := by simpa using e1
      rw [e2, UInt8.toNat_ofNat']
      congr 1
      omega
    match xs, hn with
    | [x0, x1, x2, x3], _ =>
      have g0 := hg 0 (by omega)
      have g1 := hg 1 (by omega)
      have g2 := hg 2 (by omega)
      have g3 := hg 3 (by omega)
      rw [hce] at g0 g1 g2 g3
      obtain ⟨u0, rfl⟩ := one c0 x0 (by simpa [Value.cells] using g0)
      obtain ⟨u1, rfl⟩ := one c1 x1 (by simpa [Value.cells] using g1)
      obtain ⟨u2, rfl⟩ := one c2 x2 (by simpa [Value.cells] using g2)
      obtain ⟨u3, rfl⟩ := one c3 x3 (by simpa [Value.cells] using g3)
      exact ⟨u0, u1, u2, u3, rfl⟩
end Go.Proofs.YtiogaejfcenooaaDoor

namespace Go.Proofs.YtiogaejfcenooaaDoor
set_option linter.unusedVariables false
open Go.ChangeShapes Go.WideShapes Go.ChangeAt Go.RowKit Go.Deep
section
variable {H : Type} {enc : TypeId × Value → H} {P : Program} {w : World} {base : Nat} {spare : Nat → Bool} {held : Bool}
theorem open_row1 {α : Type} [Inhabited α] (f : α → Value) (Good : α → Prop) {t e : TypeId} {A : Option Addr} {len cap : Nat} {fuel : Nat} {x : DataW H × List MemPlace} (ht : P.underlying t = some (.slice e)) (hC : P.cellsOf e = 1)
    (hel : ∀ n c y, DataW.trod enc P w base (fun _ => true) held n e [c] = some y → ∃ p, c = f p ∧ Good p)
    (h : DataW.trod enc P w base (fun _ => true) held fuel t [.slice A len cap] = some x) : ∃ ps : List α, Rd w A (ps.map f) ∧ len = ps.length ∧ len ≤ cap ∧ cap ≤ maxLen ∧ ∀ p ∈ ps, Good p := by
  rcases open_slice ht h with ⟨hcs, _⟩ | ⟨a, l, c, m, n, D, Pl, hcs, hb, hl, hm, hmm, _, hi⟩
  · have : A = none ∧ len = 0 ∧ cap = 0 := by simpa using hcs
    obtain ⟨rfl, rfl, rfl⟩ := this
    exact ⟨[], Rd.nil, rfl, Nat.le_refl _, by simp [maxLen], fun p h => by cases h⟩
  · have : A = some a ∧ len = l ∧ cap = c := by simpa using hcs
    obtain ⟨rfl, rfl, rfl⟩ := this
    rw [if_pos rfl] at hmm
    have key : ∀ i, i < len → ∃ p : α, w.cell? (a.add i) = some (f p) ∧ Good p := by
      intro i hil
      obtain ⟨cs', hc, htr⟩ := hi i (by omega)
      rw [hC, Nat.mul_one] at hc
      obtain ⟨_, hlen, hat⟩ := World.cells?_some hc
      match cs', hlen with
      | [c0], _ =>
        obtain ⟨p, rfl, hg⟩ := hel _ _ _ htr
        have c0 := hat 0 (by simp)
        rw [Go.Addr.add_add] at c0
        exact ⟨p, by simpa using c0, hg⟩
    obtain ⟨g, hg⟩ := choose_lt key
    refine ⟨(List.range len).map g, fun _ => ⟨a, rfl, fun j u hu => ?_⟩, by simp, hl, hm, fun p hp => ?_⟩
    · rw [List.map_map, List.getElem?_map] at hu
      have hj : j < len := by
        rcases Nat.lt_or_ge j len with h | h
        · exact h
        · rw [List.getElem?_eq_none (by simp; omega)] at hu; simp at hu
      rw [List.getElem?_range hj] at hu
      simp only [Option.map_some, Function.comp_apply, Option.some.injEq] at hu
      rw [← hu]
      exact (hg j hj).1
    · obtain ⟨j, hj, rfl⟩ := List.mem_map.1 hp
      exact (hg j (List.mem_range.1 hj)).2
theorem el_i64 {e : TypeId} (he : P.underlying e = some (.int .i64)) (n : Nat) (c : Value) (y : DataW H × List MemPlace) (h : DataW.trod enc P w base (fun _ => true) held n e [c] = some y) : ∃ p : Int, c = .int .i64 p ∧ (-9223372036854775808 ≤ p ∧ p ≤ 9223372036854775807) := by
  obtain ⟨k, e1, _, wk⟩ := DataW.trod_int he h
  exact ⟨k, by simpa using e1, bounds_i64 wk⟩
theorem el_u32 {e : TypeId} (he : P.underlying e = some (.int .u32)) (n : Nat) (c : Value) (y : DataW H × List MemPlace) (h : DataW.trod enc P w base (fun _ => true) held n e [c] = some y) : ∃ p : Nat, c = .int .u32 (p : Int) ∧ p < 4294967296 := by
  obtain ⟨k, e1, _, wk⟩ := DataW.trod_int he h
  have hb := bounds_u32 wk
  obtain ⟨q, rfl⟩ := Int.eq_ofNat_of_zero_le hb.1
  exact ⟨q, by simpa using e1, by have := hb.2; omega⟩
theorem el_bool {e : TypeId} (he : P.underlying e = some .bool) (n : Nat) (c : Value) (y : DataW H × List MemPlace) (h : DataW.trod enc P w base (fun _ => true) held n e [c] = some y) : ∃ p : Bool, c = .bool p ∧ True := by
  obtain ⟨r, er, _⟩ := DataW.trod_bool he h
  exact ⟨r, by simpa using er, trivial⟩
end
theorem Rd.same {W : World} {A : Option Addr} {xs : List Value} (h : Rd W A xs) {L : List Pr} (k : Nat) (hk : L[k]? = some (Same W)) : Ent L (fun w => Rd w A xs) :=
  Ent.of_same k hk fun _ hs => h.keep fun p _ _ hp => World.cell?_of_block (hs p.block (cell_lt hp))
end Go.Proofs.YtiogaejfcenooaaDoor

namespace Go.Proofs.YtiogaejfcenooaaDoor
set_option linter.unusedVariables false
set_option linter.unusedSimpArgs false
open Go.ChangeShapes Go.WideShapes Go.ChangeAt Go.RowKit Go.Deep
/-- A part as it lies in memory. -/
structure PartV where
  p : PI.WPart
  bv : Value
  cv : Value
instance : Inhabited PartV := ⟨⟨⟨0, [], []⟩, undef, undef⟩⟩
def cellsPr (l : List (Nat × Nat)) : List Value := l.flatMap fun c => [.int .u16 (c.1 : Int), .int .u16 (c.2 : Int)]
def PartV.cells (x : PartV) : List Value := [.int .u8 (x.p.kind : Int), x.bv, x.cv]
def PartV.Ok (w : World) (x : PartV) : Prop := x.p.kind < 256 ∧ Byt w x.bv x.p.bytes ∧ (∃ A c, x.cv = .slice A x.p.copies.length c ∧ Rd w A (cellsPr x.p.copies) ∧ x.p.copies.length ≤ c ∧ c ≤ maxLen) ∧ ∀ c ∈ x.p.copies, c.1 < 65536 ∧ c.2 < 65536
theorem flat_get {α β : Type} (f : α → List β) (z : Nat) (hf : ∀ p, (f p).length = z) : ∀ (ps : List α) (i j : Nat), j < z → i < ps.length → ∃ p, ps[i]? = some p ∧ (ps.flatMap f)[i * z + j]? = (f p)[j]? := by
  intro ps
  induction ps with
  | nil => intro i j _ h; cases h
  | cons p ps ih =>
    intro i j hj hi
    rw [List.flatMap_cons]
    cases i with
    | zero => exact ⟨p, rfl, by rw [Nat.zero_mul, Nat.zero_add, List.getElem?_append_left (by rw [hf]; exact hj)]⟩
    | succ i =>
      obtain ⟨q, h1, h2⟩ := ih i j hj (by simpa using hi)
      refine ⟨q, h1, ?_⟩
      rw [List.getElem?_append_right (by rw [hf, Nat.succ_mul]; omega), hf, show (i + 1) * z + j - z = i * z + j by rw [Nat.succ_mul]; omega]
      exact h2
theorem flat_len {α β : Type} (f : α → List β) (z : Nat) (hf : ∀ p, (f p).length = z) (ps : List α) : (ps.flatMap f).length = ps.length * z := by
  induction ps with
  | nil => simp
  | cons p ps ih => rw [List.flatMap_cons, List.length_append, hf, ih, List.length_cons, Nat.succ_mul, Nat.add_comm]
section
variable {H : Type} {enc : TypeId × Value → H} {P : Program} {w : World} {base : Nat} {spare : Nat → Bool} {held : Bool}
theorem open_rowN {α : Type} [Inhabited α] (z : Nat) (hz : 0 < z) (f : α → List Value) (hf : ∀ p, (f p).length = z) (Good : α → Prop) {t e : TypeId} {A : Option Addr} {len cap : Nat} {fuel : Nat} {x : DataW H × List MemPlace} (ht : P.underlying t = some (.slice e)) (hC : P.cellsOf e = z)
    (hel : ∀ n cs y, cs.length = z → DataW.trod enc P w base (fun _ => true) held n e cs = some y → ∃ p, cs = f p ∧ Good p)
    (h : DataW.trod enc P w base (fun _ => true) held fuel t [.slice A len cap] = some x) : ∃ ps : List α, Rd w A (ps.flatMap f) ∧ len = ps.length ∧ len ≤ cap ∧ cap ≤ maxLen ∧ ∀ p ∈ ps, Good p := by
  rcases open_slice ht h with ⟨hcs, _⟩ | ⟨a, l, c, m, n, D, Pl, hcs, hb, hl, hm, hmm, _, hi⟩
  · have : A = none ∧ len = 0 ∧ cap = 0 := by simpa using hcs
    obtain ⟨rfl, rfl, rfl⟩ := this
    exact ⟨[], Rd.nil, rfl, Nat.le_refl _, by simp [maxLen], fun p h => by cases h⟩
  · have : A = some a ∧ len = l ∧ cap = c := by simpa using hcs
    obtain ⟨rfl, rfl, rfl⟩ := this
    rw [if_pos rfl] at hmm
    have key : ∀ i, i < len → ∃ p : α, (∀ j, j < z → w.cell? (a.add (i * z + j)) = (f p)[j]?) ∧ Good p := by
      intro i hil
      obtain ⟨cs', hc, htr⟩ := hi i (by omega)
      rw [hC] at hc
      obtain ⟨_, hlen, hat⟩ := World.cells?_some hc
      obtain ⟨p, rfl, hg⟩ := hel _ _ _ hlen htr
      refine ⟨p, fun j hj => ?_, hg⟩
      have := hat j hj
      rw [Go.Addr.add_add] at this
      exact this
    obtain ⟨g, hg⟩ := choose_lt key
    refine ⟨(List.range len).map g, fun _ => ⟨a, rfl, fun k u hu => ?_⟩, by simp, hl, hm, fun p hp => ?_⟩
    · have hk : k < len * z := by
        have h1 := (List.getElem?_eq_some_iff.1 hu).1
        rw [flat_len f z hf] at h1
        simpa using h1
      have hq : k / z < len := (Nat.div_lt_iff_lt_mul hz).2 hk
      have hr : k % z < z := Nat.mod_lt _ hz
      have hkz : k / z * z + k % z = k := by rw [Nat.mul_comm]; exact Nat.div_add_mod k z
      obtain ⟨p, h1, h2⟩ := flat_get f z hf ((List.range len).map g) (k / z) (k % z) hr (by simpa using hq)
      rw [hkz, hu] at h2
      have h3 : p = g (k / z) := by
        rw [List.getElem?_map, List.getElem?_range hq] at h1
        exact (Option.some.inj h1).symm
      have h4 := (hg (k / z) hq).1 (k % z) hr
      rw [hkz] at h4
      rw [h4, h2, h3]
    · obtain ⟨j, hj, rfl⟩ := List.mem_map.1 hp
      exact (hg j (List.mem_range.1 hj)).2
theorem el_pair {e eu : TypeId} (he : P.underlying e = some (.array 2 eu)) (h2 : P.cellsOf eu = 1) (hu : P.underlying eu = some (.int .u16)) (n : Nat) (cs : List Value) (y : DataW H × List MemPlace) (hl : cs.length = 2) (h : DataW.trod enc P w base (fun _ => true) held n e cs = some y) :
    ∃ p : Nat × Nat, cs = [.int .u16 (p.1 : Int), .int .u16 (p.2 : Int)] ∧ p.1 < 65536 ∧ p.2 < 65536 := by
  obtain ⟨xs, m, _, rfl, _, hlen, hf⟩ := DataW.trod_array he h
  match cs, hl, xs, hlen with
  | [c0, c1], _, [y0, y1], _ =>
    have g0 := hf 0 (by omega)
    have g1 := hf 1 (by omega)
    rw [h2] at g0 g1
    replace g0 : DataW.trod enc P w base (fun _ => true) held m eu [c0] = some y0 := g0
    replace g1 : DataW.trod enc P w base (fun _ => true) held m eu [c1] = some y1 := g1
    obtain ⟨a, q0, _, wa⟩ := DataW.trod_int hu g0
    obtain ⟨b, q1, _, wb⟩ := DataW.trod_int hu g1
    replace q0 : c0 = .int .u16 a := by simpa using q0
    replace q1 : c1 = .int .u16 b := by simpa using q1
    subst q0 q1
    have ba := bounds_u16 wa
    have bb := bounds_u16 wb
    obtain ⟨a', rfl⟩ := Int.eq_ofNat_of_zero_le ba.1
    obtain ⟨b', rfl⟩ := Int.eq_ofNat_of_zero_le bb.1
    exact ⟨(a', b'), rfl, by have := ba.2; simp only; omega, by have := bb.2; simp only; omega⟩
theorem cells1 {c : Value} {t : TypeId} {e : TypeId} {n : Nat} {y : DataW H × List MemPlace} (ht : P.underlying t = some (.slice e)) (h : DataW.trod enc P w base (fun _ => true) held n t [c] = some y) : ∃ A l k, c = .slice A l k := by
  rcases open_slice ht h with ⟨hcs, _⟩ | ⟨a, l, c', m, n, D, Pl, hcs, _⟩
  · exact ⟨none, 0, 0, by simpa using hcs⟩
  · exact ⟨some a, l, c', by simpa using hcs⟩
theorem el_part {e eb eb1 ec ec1 eu : TypeId} {f0 f1 f2 : Field} (he : P.underlying e = some (.struct #[f0, f1, f2])) (hone : oneCellFields P #[f0, f1, f2] = true) (h0 : P.underlying f0.type = some (.int .u8))
    (h1 : P.underlying f1.type = some (.slice eb1)) (h1b : P.underlying eb1 = some (.int .u8)) (h1c : P.cellsOf eb1 = 1) (h2 : P.underlying f2.type = some (.slice ec1)) (h2b : P.underlying ec1 = some (.array 2 eu)) (h2c : P.cellsOf ec1 = 2) (h2d : P.cellsOf eu = 1) (h2e : P.underlying eu = some (.int .u16))
    (n : Nat) (cs : List Value) (y : DataW H × List MemPlace) (hl : cs.length = 3) (h : DataW.trod enc P w base (fun _ => true) held n e cs = some y) : ∃ p : PartV, cs = p.cells ∧ p.Ok w := by
  obtain ⟨xs, m, _, rfl, _, hlen, hf⟩ := DataW.trod_struct he h
  match cs, hl, xs, hlen with
  | [c0, c1, c2], _, [y0, y1, y2], _ =>
    have g0 := hf 0 f0 rfl
    have g1 := hf 1 f1 rfl
    have g2 := hf 2 f2 rfl
    obtain ⟨o0, k0⟩ := hone_of hone 0 f0 rfl
    obtain ⟨o1, k1⟩ := hone_of hone 1 f1 rfl
    obtain ⟨o2, k2⟩ := hone_of hone 2 f2 rfl
    rw [o0, k0] at g0
    rw [o1, k1] at g1
    rw [o2, k2] at g2
    replace g0 : DataW.trod enc P w base (fun _ => true) held m f0.type [c0] = some y0 := g0
    replace g1 : DataW.trod enc P w base (fun _ => true) held m f1.type [c1] = some y1 := g1
    replace g2 : DataW.trod enc P w base (fun _ => true) held m f2.type [c2] = some y2 := g2
    obtain ⟨a, q0, _, wa⟩ := DataW.trod_int h0 g0
    replace q0 : c0 = .int .u8 a := by simpa using q0
    subst q0
    have ba := bounds_u8 wa
    obtain ⟨a', rfl⟩ := Int.eq_ofNat_of_zero_le ba.1
    obtain ⟨B, bl, bk, rfl⟩ := cells1 h1 g1
    obtain ⟨lb, r1, e1, m1, m2, hb⟩ := open_row1 (fun p : Nat => Value.int .u8 (p : Int)) (fun p => p < 256) h1 h1c (fun n c y h => by
      obtain ⟨k, e1, _, wk⟩ := DataW.trod_int h1b h
      have hb := bounds_u8 wk
      obtain ⟨q, rfl⟩ := Int.eq_ofNat_of_zero_le hb.1
      exact ⟨q, by simpa using e1, by have := hb.2; omega⟩) g1
    obtain ⟨C, cl, ck, rfl⟩ := cells1 h2 g2
    obtain ⟨lc, r2, e2, m3, m4, hc⟩ := open_rowN 2 (by decide) (fun p : Nat × Nat => [.int .u16 (p.1 : Int), .int .u16 (p.2 : Int)]) (fun _ => rfl) (fun p => p.1 < 65536 ∧ p.2 < 65536) h2 h2c (fun n cs y hl h => by
      obtain ⟨p, h1, h2⟩ := el_pair h2b h2d h2e n cs y hl h
      exact ⟨p, h1, h2⟩) g2
    subst e1 e2
    refine ⟨⟨⟨a', lb.map UInt8.ofNat, lc⟩, .slice B lb.length bk, .slice C lc.length ck⟩, rfl, by have := ba.2; show a' < 256; omega, ⟨B, bk, by simp, ?_, by simpa using m1, m2⟩, ⟨C, ck, rfl, r2, m3, m4⟩, hc⟩
    have : cells8 (lb.map UInt8.ofNat) = lb.map fun p : Nat => Value.int .u8 (p : Int) := by
      unfold cells8
      rw [List.map_map]
      refine List.map_congr_left fun p hp => ?_
      have := hb p hp
      show Value.int .u8 (((UInt8.ofNat p).toNat : Nat) : Int) = _
      rw [UInt8.toNat_ofNat', Nat.mod_eq_of_lt (by omega)]
    rw [this]
    exact r1
end
theorem PartV.Ok.keep {w w' : World} {x : PartV} (h : x.Ok w) (hs : ∀ b, b < w.heap.size → w'.heap[b]? = w.heap[b]?) : x.Ok w' := by
  obtain ⟨h1, h2, ⟨A, c, h3, h4, h5⟩, h6⟩ := h
  exact ⟨h1, h2.keep fun p _ hp => World.cell?_of_block (hs p.block (cell_lt hp)), ⟨A, c, h3, h4.keep fun p _ _ hp => World.cell?_of_block (hs p.block (cell_lt hp)), h5⟩, h6⟩
end Go.Proofs.YtiogaejfcenooaaDoor

namespace Go.Proofs.YtiogaejfcenooaaDoor
open Go.RowKit
/-- The value ahead that operation i speaks of. -/
def up (dp : List (Option Nat)) (x : Nat → Value) (i : Nat) : Value := match dp.getD i none with | some j => x j | none => undef
def depOk (n : Nat) (anc : List (List Nat)) (dp : List (Option Nat)) : Bool := (List.range n).all fun i => match dp.getD i none with | some j => (anc.getD i []).contains j | none => true
/-- What lies in the pool on account of operation i. -/
noncomputable def tok2 (R : Nat → Value → Value → List Pr) (I : Nat → List Pr) (use : List (List Nat)) (dp : List (Option Nat)) (listed : Array Bool) (x : Nat → Value) (i : Nat) : List Pr :=
  if listed.getD i false = true then (if (List.range use.length).any (fun k => listed.getD k false && (use.getD k []).contains i) then [] else R i (up dp x i) (x i)) else I i
section
variable {P : Program} {Q : Exit → Act → World → Prop}
def Gave2 (w0 : World) (S : Nat → Value → Value → Prop) (R : Nat → Value → Value → List Pr) (i : Nat) (u : Value) (A : Act) (d : Option Tmp) (rest : List Pr) (a' : Act) (w' : World) : Prop := ∃ v, a' = A.put d v ∧ S i u v ∧ Sp w0 (R i u v ++ rest) w'
theorem wp_region_dp0 {rid : Nat} {l : List Oper} {a0 : Act} {w w0 : World} {L : List Pr}
    (S : Nat → Value → Value → Prop) (R : Nat → Value → Value → List Pr) (I : Nat → List Pr) (n : Nat)
    (ds : List (Option Tmp)) (pre anc use see : List (List Nat)) (dp : List (Option Nat)) (hdp : depOk n anc dp = true) (hm : P.follows .mixedOrders = true)
    (hds : l.map (·.dst) = ds) (hdist : Distinct ds)
    (hpre : (l.map fun o => (o.after.toList.filter (Region.binds .any ·)).map (·.on)) = pre)
    (hn : pre.length = n) (hanc : ancOk pre anc = true) (hflow : flowOk n anc use see = true)
    (H : Sp w0 ((List.range n).flatMap I ++ L) w)
    (hstep : ∀ (i : Nat) (o : Oper), l[i]? = some o → ∀ (x : Nat → Value) (w : World) (A : Act) (rest : List Pr), A = putAll a0 ds 0 x →
      (∀ j ∈ anc.getD i [], S j (up dp x j) (x j)) → (∀ j, i ∈ anc.getD j [] → x j = base a0 ds j) → (∀ φ, Ent L φ → Ent rest φ) →
      Sp w0 (I i ++ ((use.getD i []).flatMap (fun j => R j (up dp x j) (x j)) ++ ((see.getD i []).flatMap I ++ rest))) w →
      wpList P l.toArray (Exit.then (Gave2 w0 S R i (up dp x i) A o.dst ((see.getD i []).flatMap I ++ rest)) Q) [o] A w)
    (hend : ∀ (x : Nat → Value) (w : World) (A : Act), A = putAll a0 ds 0 x → (∀ i, i < n → S i (up dp x i) (x i)) →
      Sp w0 ((List.range n).flatMap (fun i => if (List.range n).any (fun k => (use.getD k []).contains i) then [] else R i (up dp x i) (x i)) ++ L) w → Q .normal A w) :
    (Code.region rid l.toArray true).wp P Q a0 w := by
  have hdl : ds.length = l.length := by rw [← hds]; simp
  have hpl : pre.length = l.length := by rw [← hpre]; simp
  have hsz : l.toArray.size = l.length := by simp
  have hul : use.length = n := by
    unfold flowOk at hflow
    simp only [Bool.and_eq_true, decide_eq_true_eq] at hflow
    exact hflow.1
  have hpe : ∀ i o, l[i]? = some o → ∀ e ∈ o.after, Region.binds .any e = true → e.on ∈ pre.getD i [] := by
    intro i o ho e he hb
    rw [← hpre, List.getD_eq_getElem?_getD, List.getElem?_map, ho]
    simp only [Option.map_some, Option.getD_some, List.mem_map, List.mem_filter]
    exact ⟨e, ⟨by simpa using he, hb⟩, rfl⟩
  have hpe' : ∀ i o, l[i]? = some o → ∀ j ∈ pre.getD i [], ∃ e ∈ o.after, Region.binds .any e = true ∧ e.on = j := by
    intro i o ho j hj
    rw [← hpre, List.getD_eq_getElem?_getD, List.getElem?_map, ho] at hj
    simp only [Option.map_some, Option.getD_some, List.mem_map, List.mem_filter] at hj
    obtain ⟨e, ⟨he, hb⟩, hj⟩ := hj
    exact ⟨e, by simpa using he, hb, hj⟩
  have hA1 : ∀ i, i < n → ∀ j ∈ pre.getD i [], j < i ∧ j ∈ anc.getD i [] ∧ ∀ k ∈ anc.getD j [], k ∈ anc.getD i [] := by
    intro i hi j hj
    have h := List.all_eq_true.1 hanc i (by simp; omega)
    simp only [Bool.and_eq_true] at h
    have := List.all_eq_true.1 h.1 j hj
    simp only [Bool.and_eq_true, decide_eq_true_eq, List.contains_iff_mem] at this
    refine ⟨this.1.1, this.1.2, fun k hk => ?_⟩
    have := List.all_eq_true.1 this.2 k hk
    simpa using this
  have hA2 : ∀ i, i < n → ∀ k ∈ anc.getD i [], k < i ∧ (k ∈ pre.getD i [] ∨ ∃ j ∈ pre.getD i [], k ∈ anc.getD j []) := by
    intro i hi k hk
    have h := List.all_eq_true.1 hanc i (by simp; omega)
    simp only [Bool.and_eq_true] at h
    have := List.all_eq_true.1 h.2 k hk
    simp only [Bool.and_eq_true, decide_eq_true_eq, Bool.or_eq_true, List.contains_iff_mem, List.any_eq_true] at this
    refine ⟨this.1, this.2.imp id ?_⟩
    rintro ⟨j, hj, hk⟩
    exact ⟨j, hj, by simpa using hk⟩
  have hF : ∀ i, i < n → (∀ j ∈ use.getD i [], j ∈ anc.getD i [] ∧ ∀ k, k < n → j ∈ use.getD k [] → k = i) ∧ (∀ k ∈ see.getD i [], k < n ∧ i ∈ anc.getD k []) ∧ (use.getD i []).Nodup ∧ (see.getD i []).Nodup := by
    intro i hi
    unfold flowOk at hflow
    simp only [Bool.and_eq_true] at hflow
    have h := List.all_eq_true.1 hflow.2 i (by simp; omega)
    simp only [Bool.and_eq_true, decide_eq_true_eq] at h
    obtain ⟨⟨⟨h1, h2⟩, h3⟩, h4⟩ := h
    refine ⟨fun j hj => ?_, fun k hk => ?_, h3, h4⟩
    · have := List.all_eq_true.1 h1 j hj
      simp only [Bool.and_eq_true, List.contains_iff_mem] at this
      refine ⟨this.1, fun k hk hjk => ?_⟩
      have := List.all_eq_true.1 this.2 k (by simp; omega)
      simp only [Bool.or_eq_true, decide_eq_true_eq, Bool.not_eq_true'] at this
      rcases this with h | h
      · exact h
      · have h' : (use.getD k []).contains j = true := by simpa using hjk
        rw [h'] at h; cases h
    · have := List.all_eq_true.1 h2 k hk
      simpa using this
  refine wp_region_any hm ?_
  let Inv : Array Bool → Act → World → Prop := fun listed a w => ∃ x : Nat → Value, a = putAll a0 ds 0 x ∧
    (∀ i, i < n → listed.getD i false = true → S i (up dp x i) (x i) ∧ ∀ j ∈ anc.getD i [], listed.getD j false = true) ∧ (∀ i, listed.getD i false = false → x i = base a0 ds i) ∧
    Sp w0 ((List.range n).flatMap (tok2 R I use dp listed x) ++ L) w
  refine wpAny_inv Inv ?_ ?_ _ _ _ _ (by simp) (by simp) ?_
  · rintro listed a w i hs ⟨x, rfl, hdone, hun, hSp⟩ hi
    obtain ⟨h1, h2, o, ho, haft⟩ := ready_mem hi
    have hil : i < n := by rw [← hn, hpl]; simpa using h1
    have hisz : i < listed.size := by omega
    have ho' : l[i]? = some o := by simpa using ho
    have hli : listed.getD i false = false := by
      rw [Array.getD_eq_getD_getElem?, Array.getElem?_eq_getElem hisz] at h2 ⊢
      simpa using h2
    have hpd : ∀ j ∈ pre.getD i [], listed.getD j false = true := fun j hj => by
      obtain ⟨e, he, hb, rfl⟩ := hpe' i o ho' j hj
      exact haft e he hb
    have had : ∀ j ∈ anc.getD i [], listed.getD j false = true := fun j hj => by
      obtain ⟨_, h | ⟨k, hk, hjk⟩⟩ := hA2 i hil j hj
      · exact hpd j h
      · exact (hdone k (by have := (hA1 i hil k hk).1; omega) (hpd k hk)).2 j hjk
    have hbeh : ∀ k, i ∈ anc.getD k [] → listed.getD k false = false := fun k hk => by
      cases hc : listed.getD k false with
      | false => rfl
      | true =>
        by_cases hkn : k < n
        · have := (hdone k hkn hc).2 i hk
          rw [hli] at this; cases this
        · rw [Array.getD_eq_getD_getElem?, Array.getElem?_eq_none (by omega)] at hc
          simp at hc
    obtain ⟨f1, f2, f3, f4⟩ := hF i hil
    -- the pool, parted
    have hnd : (i :: (use.getD i [] ++ see.getD i [])).Nodup := by
      refine List.nodup_cons.2 ⟨fun h => ?_, List.nodup_append.2 ⟨f3, f4, fun a ha b hb e => ?_⟩⟩
      · rcases List.mem_append.1 h with h | h
        · have := (hA2 i hil i (f1 i h).1).1; omega
        · have := (hA2 i hil i (f2 i h).2).1; omega
      · subst e
        have h5 := had a (f1 a ha).1
        have h6 := hbeh a (f2 a hb).2
        rw [h5] at h6; cases h6
    have hlt : ∀ j ∈ i :: (use.getD i [] ++ see.getD i []), j < n := fun j hj => by
      rcases List.mem_cons.1 hj with rfl | hj
      · exact hil
      · rcases List.mem_append.1 hj with h | h
        · have := (hA2 i hil j (f1 j h).1).1; omega
        · exact (f2 j h).1
    have hp := perm_split n _ hnd hlt
    obtain ⟨oth, hoth⟩ : ∃ oth, oth = (List.range n).filter (fun k => decide (k ∉ i :: (use.getD i [] ++ see.getD i []))) := ⟨_, rfl⟩
    rw [← hoth] at hp
    have hp1 : ∀ f : Nat → List Pr, ((List.range n).flatMap f ++ L).Perm (f i ++ ((use.getD i []).flatMap f ++ ((see.getD i []).flatMap f ++ (oth.flatMap f ++ L)))) := fun f => by
      have := (hp.flatMap_right f).append_right L
      simpa only [List.flatMap_append, List.flatMap_cons, List.append_assoc, List.cons_append] using this
    have hH := hSp.perm (hp1 _)
    have t0 : tok2 R I use dp listed x i = I i := by unfold tok2; rw [hli, if_neg (by simp)]
    have tu : ∀ j ∈ use.getD i [], tok2 R I use dp listed x j = R j (up dp x j) (x j) := fun j hj => by
      unfold tok2
      rw [if_pos (had j (f1 j hj).1), if_neg]
      intro h
      obtain ⟨k, hk, h⟩ := List.any_eq_true.1 h
      simp only [Bool.and_eq_true, List.contains_iff_mem] at h
      have hk' : k < n := by rw [← hul]; simpa using hk
      have := (f1 j hj).2 k hk' (by simpa using h.2)
      subst this
      rw [hli] at h; exact absurd h.1 (by simp)
    have ts : ∀ k ∈ see.getD i [], tok2 R I use dp listed x k = I k := fun k hk => by
      unfold tok2; rw [hbeh k (f2 k hk).2, if_neg (by simp)]
    have eu : (use.getD i []).flatMap (tok2 R I use dp listed x) = (use.getD i []).flatMap (fun j => R j (up dp x j) (x j)) := flatMap_same fun j hj => tu j hj
    have es : (see.getD i []).flatMap (tok2 R I use dp listed x) = (see.getD i []).flatMap I := flatMap_same fun j hj => ts j hj
    rw [t0, eu, es] at hH
    have hent : ∀ φ, Ent L φ → Ent (oth.flatMap (tok2 R I use dp listed x) ++ L) φ := fun φ hφ w0' w' H' => hφ _ _ (by
      have := H'.pick (oth.flatMap (tok2 R I use dp listed x)).length [] ⟨List.nodup_nil, fun _ h => by cases h⟩
      simpa using this)
    have hs1 := hstep i o ho' x w _ (oth.flatMap (tok2 R I use dp listed x) ++ L) rfl (fun j hj => (hdone j (by have := (hA2 i hil j hj).1; omega) (had j hj)).1) (fun j hj => hun j (hbeh j hj)) hent hH
    have key : ∀ a' w', Gave2 w0 S R i (up dp x i) (putAll a0 ds 0 x) o.dst ((see.getD i []).flatMap I ++ (oth.flatMap (tok2 R I use dp listed x) ++ L)) a' w' → Inv (listed.setIfInBounds i true) a' w' := by
      rintro a' w' ⟨v, rfl, hS, hSp'⟩
      have hset := fun j => getD_set listed i j hisz
      have hget : ∀ j, j ≠ i → setX x i v j = x j := fun j hj => by unfold setX; rw [if_neg hj]
      have hgi : setX x i v i = v := by unfold setX; rw [if_pos rfl]
      have hup : ∀ k, k < n → (k = i ∨ listed.getD k false = true) → up dp (setX x i v) k = up dp x k := fun k hk hkl => by
        unfold up
        have hd := List.all_eq_true.1 hdp k (by simp; omega)
        cases hq : dp.getD k none with
        | none => rfl
        | some j =>
          rw [hq] at hd
          have hja : j ∈ anc.getD k [] := by simpa using hd
          show setX x i v j = x j
          refine hget j ?_
          rintro rfl
          rcases hkl with rfl | hkl
          · have := (hA2 k hk k hja).1; omega
          · rw [hbeh k hja] at hkl; cases hkl
      refine ⟨setX x i v, ?_, fun j hj hlj => ?_, fun j hlj => ?_, ?_⟩
      · have hd : o.dst = ds.getD i none := by
          rw [← hds, List.getD_eq_getElem?_getD, List.getElem?_map, ho']; rfl
        rw [hd, putAll_set x v ds 0 a0 i hdist (by omega), Nat.zero_add]
      · by_cases hji : j = i
        · subst hji
          refine ⟨by rw [hgi, hup j hj (.inl rfl)]; exact hS, fun k hk => ?_⟩
          rw [hset]; split
          · rfl
          · exact had k hk
        · rw [hset, if_neg hji] at hlj
          obtain ⟨q1, q2⟩ := hdone j hj hlj
          refine ⟨by rw [hget j hji, hup j hj (.inr hlj)]; exact q1, fun k hk => ?_⟩
          rw [hset]; split
          · rfl
          · exact q2 k hk
      · rw [hset] at hlj
        by_cases hji : j = i
        · rw [if_pos hji] at hlj; cases hlj
        · rw [if_neg hji] at hlj
          rw [hget j hji]; exact hun j hlj
      · refine Sp.perm ?_ (hp1 _).symm
        have n0 : tok2 R I use dp (listed.setIfInBounds i true) (setX x i v) i = R i (up dp x i) v := by
          unfold tok2
          rw [hset, if_pos rfl, if_pos rfl, hgi, hup i hil (.inl rfl), if_neg]
          intro h
          obtain ⟨k, hk, h⟩ := List.any_eq_true.1 h
          simp only [Bool.and_eq_true, List.contains_iff_mem] at h
          have hk' : k < n := by rw [← hul]; simpa using hk
          have h5 := ((hF k hk').1 i (by simpa using h.2)).1
          have h6 := (hA2 k hk' i h5).1
          have h7 := hbeh k h5
          rw [hset, if_neg (by omega), h7] at h
          exact absurd h.1 (by simp)
        have nu : (use.getD i []).flatMap (tok2 R I use dp (listed.setIfInBounds i true) (setX x i v)) = [] := by
          rw [List.flatMap_eq_nil_iff]
          intro j hj
          unfold tok2
          rw [hset, if_pos, if_pos]
          · refine List.any_eq_true.2 ⟨i, by simp; omega, ?_⟩
            rw [hset, if_pos rfl]; simpa using hj
          · split
            · rfl
            · exact had j (f1 j hj).1
        have ns : (see.getD i []).flatMap (tok2 R I use dp (listed.setIfInBounds i true) (setX x i v)) = (see.getD i []).flatMap I := flatMap_same fun k hk => by
          unfold tok2
          have := (hA2 k (f2 k hk).1 i (f2 k hk).2).1
          rw [hset, if_neg (show ¬ k = i by omega), hbeh k (f2 k hk).2, if_neg (by simp)]
        have no : oth.flatMap (tok2 R I use dp (listed.setIfInBounds i true) (setX x i v)) = oth.flatMap (tok2 R I use dp listed x) := flatMap_same fun k hk => by
          have hk2 := (List.mem_filter.1 (hoth ▸ hk)).2
          simp only [List.mem_cons, List.mem_append, not_or, decide_eq_true_eq] at hk2
          unfold tok2
          rw [hset, if_neg hk2.1, hget k hk2.1]
          have hkn : k < n := by
            have := (List.mem_filter.1 (hoth ▸ hk)).1
            simpa using this
          by_cases hkl : listed.getD k false = true
          case neg => rw [if_neg hkl, if_neg hkl]
          rw [hup k hkn (.inr hkl)]
          have e : ((List.range use.length).any fun k_1 => (listed.setIfInBounds i true).getD k_1 false && (use.getD k_1 []).contains k) = ((List.range use.length).any fun k_1 => listed.getD k_1 false && (use.getD k_1 []).contains k) := by
            congr 1
            funext m
            rw [hset]
            by_cases hmi : m = i
            · subst hmi
              have : (use.getD m []).contains k = false := by simpa using hk2.2.1
              rw [this]; simp
            · rw [if_neg hmi]
          rw [e]
        rw [n0, nu, ns, no, List.nil_append]
        exact hSp'
    unfold wpOp
    simp only [ho]
    unfold wpList at hs1
    split at hs1
    · rename_i hw
      rw [if_pos hw]
      rcases hs1 with h | ⟨h, h'⟩
      · exact .inl (Oper.wp_mono (fun a' w' hh => key a' w' hh) (upon_exits h))
      · exact .inr ⟨h, h'⟩
    · rename_i hw
      rw [if_neg hw]
      exact key _ _ hs1
  · rintro listed a w hs ⟨x, rfl, hdone, hun, hSp⟩ hr
    have hall : ∀ i, i < n → listed.getD i false = true := by
      intro i
      induction i using Nat.strongRecOn with
      | _ i ih =>
        intro hi
        cases hc : listed.getD i false with
        | true => rfl
        | false =>
          exfalso
          have hlt : i < l.toArray.size := by omega
          have : i ∈ Region.ready .any l.toArray listed := by
            refine ready_of hlt ?_ fun e he hb => ?_
            · have : i < listed.size := by omega
              rw [Array.getD_eq_getD_getElem?, Array.getElem?_eq_getElem this] at hc ⊢
              simpa using hc
            · have ho' : l[i]? = some l.toArray[i] := by simp
              have hm := hpe i _ ho' e he hb
              have := (hA1 i hi _ hm).1
              exact ih _ this (by omega)
          rw [hr] at this
          cases this
    refine hend x w _ rfl (fun i hi => (hdone i hi (hall i hi)).1) ?_
    refine cast (congrArg (fun M => Sp w0 (M ++ L) w) (flatMap_same fun i hi => ?_)) hSp
    have hi' : i < n := by simpa using hi
    unfold tok2
    rw [if_pos (hall i hi'), hul]
    have e : ((List.range n).any fun k => listed.getD k false && (use.getD k []).contains i) = ((List.range n).any fun k => (use.getD k []).contains i) := by
      rw [Bool.eq_iff_iff, List.any_eq_true, List.any_eq_true]
      constructor
      · rintro ⟨k, hk, h⟩
        exact ⟨k, hk, (Bool.and_eq_true _ _ ▸ h).2⟩
      · rintro ⟨k, hk, h⟩
        exact ⟨k, hk, by rw [hall k (by simpa using hk), h]; rfl⟩
    rw [e]
  · refine ⟨base a0 ds, (putAll_self _ ds 0 a0 fun i _ => by rw [Nat.zero_add]).symm, fun i _ hc => ?_, fun i _ => rfl, ?_⟩
    · exfalso
      rw [Array.getD_eq_getD_getElem?] at hc
      simp [Array.getElem?_replicate] at hc
      split at hc <;> simp at hc
    · have : Sp w0 ((List.range n).flatMap I ++ L) { w with drawn := w.drawn + 1 } := H.drew
      refine cast (congrArg (fun M => Sp w0 (M ++ L) _) (flatMap_same fun i hi => ?_)) this
      unfold tok2
      rw [if_neg]
      rw [Array.getD_eq_getD_getElem?]
      simp only [Array.getElem?_replicate]
      split <;> simp
/-- What is to be shown of each operation, one behind the other: the frame is a letter, of which the slots that are listed are known. -/
def StepsDp (P : Program) (Q : Exit → Act → World → Prop) (S : Nat → Value → Value → Prop) (R : Nat → Value → Value → List Pr) (I : Nat → List Pr) (dp : List (Option Nat)) (ds : List (Option Tmp)) (env : List (Nat × Value)) (w0 : World) (L : List Pr) : Nat → List Oper → List (List Nat) → List (List Nat) → List (List Nat) → Prop
  | i, o :: os, an :: ans, us :: uss, se :: ses => (∀ (x : Nat → Value) (w : World) (A : Act) (rest : List Pr),
      (∀ p, p ∈ env → A.tmps[p.1]?.getD undef = p.2) → (∀ j, j ∈ an → S j (up dp x j) (x j) ∧ ∀ t, ds.getD j none = some t → A.tmps[t]?.getD undef = x j) → (∀ φ, Ent L φ → Ent rest φ) →
      Sp w0 (I i ++ (us.flatMap (fun j => R j (up dp x j) (x j)) ++ (se.flatMap I ++ rest))) w →
      ∀ K : Act → World → Prop, (∀ v w', S i (up dp x i) v → Sp w0 (R i (up dp x i) v ++ (se.flatMap I ++ rest)) w' → K (A.put o.dst v) w') →
      StepOb P Q o x A w K) ∧ StepsDp P Q S R I dp ds env w0 L (i + 1) os ans uss ses
  | _, [], [], [], [] => True
  | _, _, _, _, _ => False
theorem stepsDp_get {S : Nat → Value → Value → Prop} {R : Nat → Value → Value → List Pr} {I : Nat → List Pr} {dp : List (Option Nat)} {ds : List (Option Tmp)} {env : List (Nat × Value)} {w0 : World} {L : List Pr} :
    ∀ (l : List Oper) (k i : Nat) (o : Oper) (ans uss ses : List (List Nat)), StepsDp P Q S R I dp ds env w0 L k l ans uss ses → l[i]? = some o →
    ∀ (x : Nat → Value) (w : World) (A : Act) (rest : List Pr),
      (∀ p, p ∈ env → A.tmps[p.1]?.getD undef = p.2) → (∀ j, j ∈ ans.getD i [] → S j (up dp x j) (x j) ∧ ∀ t, ds.getD j none = some t → A.tmps[t]?.getD undef = x j) → (∀ φ, Ent L φ → Ent rest φ) →
      Sp w0 (I (k + i) ++ ((uss.getD i []).flatMap (fun j => R j (up dp x j) (x j)) ++ ((ses.getD i []).flatMap I ++ rest))) w →
      ∀ K : Act → World → Prop, (∀ v w', S (k + i) (up dp x (k + i)) v → Sp w0 (R (k + i) (up dp x (k + i)) v ++ ((ses.getD i []).flatMap I ++ rest)) w' → K (A.put o.dst v) w') →
      StepOb P Q o x A w K
  | [], _, _, _, _, _, _, _, h => by simp at h
  | o :: os, k, i, o', [], uss, ses, hs, h => by simp [StepsDp] at hs
  | o :: os, k, i, o', an :: ans, [], ses, hs, h => by simp [StepsDp] at hs
  | o :: os, k, i, o', an :: ans, us :: uss, [], hs, h => by simp [StepsDp] at hs
  | o :: os, k, 0, o', an :: ans, us :: uss, se :: ses, hs, h => by
    have : o = o' := by simpa using h
    subst this
    exact hs.1
  | o :: os, k, i + 1, o', an :: ans, us :: uss, se :: ses, hs, h => by
    have := stepsDp_get os (k + 1) i o' ans uss ses hs.2 (by simpa using h)
    rw [show k + 1 + i = k + (i + 1) by omega] at this
    exact this
/-- A region that draws its order, by pieces. S: what an operation leaves; R: the pieces it gives; I: those it has at the beginning; use: whose pieces it takes; see: whose first pieces it looks at; env: slots of old. -/
theorem wp_region_dp {rid : Nat} {l : List Oper} {a0 : Act} {w w0 : World} {L : List Pr}
    (S : Nat → Value → Value → Prop) (R : Nat → Value → Value → List Pr) (I : Nat → List Pr) (n sz : Nat)
    (ds : List (Option Tmp)) (pre anc use see : List (List Nat)) (dp : List (Option Nat)) (hdp : depOk n anc dp = true) (env : List (Nat × Value)) (hm : P.follows .mixedOrders = true)
    (hds : l.map (·.dst) = ds) (hdist : Distinct ds)
    (hpre : (l.map fun o => (o.after.toList.filter (Region.binds .any ·)).map (·.on)) = pre)
    (hn : pre.length = n) (hanc : ancOk pre anc = true) (hflow : flowOk n anc use see = true) (hgu : guardsOk l ds anc = true) (hanl : anc.length = n)
    (hsz : a0.tmps.size = sz) (hlt : ds.all (fun d => match d with | some t => decide (t < sz) | none => true) = true)
    (henv : ∀ p, p ∈ env → a0.tmps[p.1]?.getD undef = p.2) (henv2 : envOk env ds = true)
    (H : Sp w0 ((List.range n).flatMap I ++ L) w)
    (hstep : StepsDp P Q S R I dp ds env w0 L 0 l anc use see)
    (hend : ∀ (x : Nat → Value) (w : World) (A : Act), A = putAll a0 ds 0 x → (∀ i, i < n → S i (up dp x i) (x i)) →
      Sp w0 ((List.range n).flatMap (fun i => if (List.range n).any (fun k => (use.getD k []).contains i) then [] else R i (up dp x i) (x i)) ++ L) w → Q .normal A w) :
    (Code.region rid l.toArray true).wp P Q a0 w := by
  have hdl : ds.length = l.length := by rw [← hds]; simp
  have hpl : pre.length = l.length := by rw [← hpre]; simp
  refine wp_region_dp0 S R I n ds pre anc use see dp hdp hm hds hdist hpre hn hanc hflow H (fun i o ho x w A rest hA hS hu hE hH => ?_) hend
  have hil : i < l.length := (List.getElem?_eq_some_iff.1 ho).1
  have hslot : ∀ j, j < n → ∀ t, ds.getD j none = some t → A.tmps[t]? = some (x j) := fun j hj t ht => by
    have hj' : j < ds.length := by omega
    rw [List.getD_eq_getElem?_getD, List.getElem?_eq_getElem hj'] at ht
    simp only [Option.getD_some] at ht
    have htl := List.all_eq_true.1 hlt _ (List.getElem_mem hj')
    rw [ht] at htl
    replace htl : t < sz := by simpa using htl
    rw [hA, putAll_eval x ds 0 j t a0 hdist (by rw [List.getElem?_eq_getElem hj', ht]) (Nat.lt_of_lt_of_eq htl hsz.symm), Nat.zero_add]
  have hanlt : ∀ j, j ∈ anc.getD i [] → j < n := fun j hj => by
    have h := List.all_eq_true.1 hanc i (by simp; omega)
    simp only [Bool.and_eq_true] at h
    have := List.all_eq_true.1 h.2 j hj
    simp only [Bool.and_eq_true, decide_eq_true_eq] at this
    omega
  have hob := stepsDp_get l 0 i o anc use see hstep ho x w A rest (fun p hp => by
      have h2 := List.all_eq_true.1 henv2 p hp
      rw [hA, putAll_eval_far x p.1 ds 0 a0 (by simpa using h2)]
      exact henv p hp) (fun j hj => ⟨hS j hj, fun t ht => by rw [hslot j (hanlt j hj) t ht]; rfl⟩) hE (by rw [Nat.zero_add]; exact hH)
    (Gave2 w0 S R i (up dp x i) A o.dst ((see.getD i []).flatMap I ++ rest)) (fun v w' h1 h2 => ⟨v, rfl, by rwa [Nat.zero_add] at h1, by rwa [Nat.zero_add] at h2⟩)
  unfold StepOb at hob
  unfold wpList
  cases hg : o.guard with
  | none =>
    rw [hg] at hob
    have hw : Region.wanted o (yielded l.toArray A.tmps) = true := by simp [Region.wanted, hg]
    rw [if_pos hw]
    refine .inl ?_
    refine Oper.wp_mono (fun a w h => ?_) (upon_exits' hob)
    exact h
  | some p =>
    obtain ⟨j, b⟩ := p
    rw [hg] at hob
    obtain ⟨c, hc, hob⟩ := hob
    have hg2 := List.all_eq_true.1 hgu (o, anc.getD i []) (by
      rw [List.mem_iff_getElem?]
      refine ⟨i, ?_⟩
      rw [List.getElem?_zip_eq_some]
      refine ⟨ho, ?_⟩
      rw [List.getD_eq_getElem?_getD, List.getElem?_eq_getElem (by omega)]; rfl)
    simp only [hg, Bool.and_eq_true, List.contains_iff_mem] at hg2
    obtain ⟨hja, hjs⟩ := hg2
    have hjn := hanlt j hja
    obtain ⟨t, ht⟩ := Option.isSome_iff_exists.1 hjs
    have hy : yielded l.toArray A.tmps j = c := by
      unfold yielded
      have hdj : (l.toArray[j]?).bind (·.dst) = some t := by
        have hj' : j < ds.length := by omega
        rw [List.getD_eq_getElem?_getD, List.getElem?_eq_getElem hj'] at ht
        simp only [Option.getD_some] at ht
        subst hds
        have hj2 : j < l.length := by simpa using hj'
        rw [List.getElem_map] at ht
        simp [hj2, ht]
      rw [hdj]
      simp only [Option.bind_some, hslot j hjn t ht]
      rw [← hc]
      cases x j <;> rfl
    have hw : Region.wanted o (yielded l.toArray A.tmps) = (c == some b) := by simp [Region.wanted, hg, hy]
    rw [hw]
    by_cases hcb : c = some b
    · rw [if_pos hcb] at hob
      rw [if_pos (by simp [hcb])]
      exact .inl (upon_exits' hob)
    · rw [if_neg hcb] at hob
      rw [if_neg (by simpa using hcb)]
      exact hob
end
end Go.Proofs.YtiogaejfcenooaaDoor

