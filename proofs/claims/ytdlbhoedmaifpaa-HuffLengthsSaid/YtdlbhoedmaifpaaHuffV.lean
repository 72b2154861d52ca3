/- HuffV: the document's packs: a count, and a slice of symbols; put. -/
import Derived.Test.YtdlbhoedmaifpaaHuffU
import Derived.Test.YtdlbhoedmaifpaaLib5
namespace Go.Proofs.Ytdlbhoedmaifpaa
set_option linter.unusedVariables false
set_option linter.unusedSimpArgs false
open Go.RowKit
/-- A pack of the document's: its count, its slice. -/
structure RK where
  c : Int
  A : Option Addr
  n : Nat
  cp : Nat
def RK.sl (x : RK) : Value := .slice x.A x.n x.cp
def RK.cells (x : RK) : List Value := [.int .i64 x.c, .slice x.A x.n x.cp]
def RK.val (x : RK) : Value := .agg #[.int .i64 x.c, .slice x.A x.n x.cp]
def rk0 : RK := ⟨0, none, 0, 0⟩
theorem RK.one (x : RK) : ∀ u ∈ x.cells, u.oneCell' = true := by
  intro u hu
  simp only [RK.cells, List.mem_cons, List.not_mem_nil, or_false] at hu
  rcases hu with rfl | rfl <;> rfl
def cellsR (l : List RK) : List Value := l.flatMap RK.cells
theorem cellsR_len (l : List RK) : (cellsR l).length = l.length * 2 := by
  induction l with
  | nil => rfl
  | cons x l ih =>
    show (x.cells ++ cellsR l).length = _
    rw [List.length_append, ih, List.length_cons]
    show 2 + _ = _
    omega
theorem cellsR_append (a b : List RK) : cellsR (a ++ b) = cellsR a ++ cellsR b := List.flatMap_append
theorem cellsR_one (l : List RK) : ∀ u ∈ cellsR l, u.oneCell' = true := by
  intro u hu
  obtain ⟨x, _, hx⟩ := List.mem_flatMap.1 hu
  exact x.one u hx
theorem cellsR_get (l : List RK) (i j : Nat) (hi : i < l.length) (u : Value) (hj : (l.getD i rk0).cells[j]? = some u) : (cellsR l)[i * 2 + j]? = some u := by
  induction l generalizing i with
  | nil => simp at hi
  | cons x l ih =>
    have hj3 : j < 2 := by
      have := (List.getElem?_eq_some_iff.1 hj).1
      exact this
    show (x.cells ++ cellsR l)[i * 2 + j]? = _
    cases i with
    | zero =>
      rw [List.getElem?_append_left (by show _ < 2; omega), Nat.zero_mul, Nat.zero_add]
      exact hj
    | succ i =>
      rw [List.getElem?_append_right (by show 2 ≤ _; omega), show (i + 1) * 2 + j - x.cells.length = i * 2 + j by show _ - 2 = _; omega]
      exact ih i (by simpa using hi) (by simpa using hj)
theorem cellsR_take (l : List RK) (k : Nat) : (cellsR l).take (k * 2) = cellsR (l.take k) := by
  induction l generalizing k with
  | nil => simp [cellsR]
  | cons x l ih =>
    cases k with
    | zero => simp [cellsR]
    | succ k =>
      show (x.cells ++ cellsR l).take ((k + 1) * 2) = x.cells ++ cellsR (l.take k)
      rw [List.take_append, List.take_of_length_le (by show 2 ≤ _; omega), show (k + 1) * 2 - x.cells.length = k * 2 by show _ - 2 = _; omega, ih]
theorem cellsR_drop (l : List RK) (k : Nat) : (cellsR l).drop (k * 2) = cellsR (l.drop k) := by
  induction l generalizing k with
  | nil => simp [cellsR]
  | cons x l ih =>
    cases k with
    | zero => simp [cellsR]
    | succ k =>
      show (x.cells ++ cellsR l).drop ((k + 1) * 2) = cellsR (l.drop k)
      rw [List.drop_append, List.drop_eq_nil_of_le (by show 2 ≤ _; omega), show (k + 1) * 2 - x.cells.length = k * 2 by show _ - 2 = _; omega, List.nil_append, ih]
theorem rdR {w : World} {A : Option Addr} {l : List RK} (h : Rd w A (cellsR l)) {i : Nat} (hi : i < l.length) : ∃ ad, A = some ad ∧ w.cell? (ad.add (i * 2)) = some (.int .i64 (l.getD i rk0).c) ∧ w.cell? ⟨(ad.add (i * 2)).block, (ad.add (i * 2)).off + 1, none⟩ = some (l.getD i rk0).sl := by
  obtain ⟨ad, e, hc⟩ := h (by intro h0; have := cellsR_len l; rw [h0] at this; simp at this; omega)
  refine ⟨ad, e, ?_, ?_⟩
  · have := hc (i * 2 + 0) _ (cellsR_get l i 0 hi _ rfl)
    exact this
  · rw [field_addr ad (i * 2) 1 (by decide)]
    exact hc _ _ (cellsR_get l i 1 hi _ rfl)
abbrev keyR : RK → Int := RK.c
theorem put_at_place {α : Type} {key : α → Int} {l : List α} {p d : α} {k : Nat} (hk : k ≤ l.length) (h1 : ∀ i, i < k → key (l.getD i d) ≤ key p) (h2 : k < l.length → key p < key (l.getD k d)) : SS.put key l p = l.take k ++ p :: l.drop k := by
  induction l generalizing k with
  | nil =>
    obtain rfl : k = 0 := by simpa using hk
    rfl
  | cons x l ih =>
    cases k with
    | zero =>
      have := h2 (by simp)
      show (if key x ≤ key p then _ else p :: x :: l) = _
      rw [if_neg (by simp at this; omega)]; rfl
    | succ k =>
      have h3 := h1 0 (by omega)
      show (if key x ≤ key p then x :: SS.put key l p else _) = _
      rw [if_pos (by simpa using h3), ih (by simpa using hk) (fun i hi => by have := h1 (i + 1) (by omega); simpa using this) (fun hi => by have := h2 (by simpa using hi); simpa using this)]
      rfl
theorem infoRK : (Try.prog.info? 109).map (fun i => (i.zero, i.size, i.bytes)) = some (some (.agg #[.int .i64 0, .slice none 0 0]), 2, 32) := by kernel_rfl
/-- A slice from a place on, of elements of z cells. -/
def subZ (A : Option Addr) (c q z : Nat) : Option Addr := if c = q then A else A.map (·.add (q * z))
theorem subZ_rd {w : World} {A : Option Addr} {c q z : Nat} {xs : List Value} (h : Rd w A xs) (hc : xs.length ≤ c * z) : Rd w (subZ A c q z) (xs.drop (q * z)) := by
  unfold subZ
  by_cases e : c = q
  · rw [if_pos e, List.drop_eq_nil_of_le (by rw [← e]; exact hc)]; exact Rd.nil
  · rw [if_neg e]
    intro hn
    obtain ⟨ad, rfl, hcl⟩ := h (by rintro rfl; simp at hn)
    refine ⟨ad.add (q * z), rfl, fun j u hu => ?_⟩
    rw [List.getElem?_drop] at hu
    rw [Go.Addr.add_add]
    exact hcl _ u hu
theorem Rd.take {w : World} {A : Option Addr} {xs : List Value} (h : Rd w A xs) (k : Nat) : Rd w A (xs.take k) := fun hn => by
  obtain ⟨ad, e, hc⟩ := h (by rintro rfl; simp at hn)
  refine ⟨ad, e, fun j u hu => hc j u ?_⟩
  rw [List.getElem?_take] at hu
  split at hu
  · exact hu
  · cases hu
set_option maxRecDepth 100000 in
set_option maxHeartbeats 4000000 in
theorem rput_ok (A : Option Addr) (n c : Nat) (xs : List RK) (p : RK) {w0 w : World} {L : List Pr} (H : Sp w0 L w) (hn : n = xs.length) (hb : Ent L fun w => Rd w A (cellsR xs)) (hnc : n ≤ c) (hl : n ≤ 1000000) :
    Calls Try.prog 54 #[.slice A n c, p.val] w fun e w' => ∃ v, e = .returned v ∧ Sp w0 (Row 109 2 v (n + 1) (cellsR (SS.put keyR xs p)) :: L) w' := by
  obtain ⟨i0, hi, hz0, hz1, hz2⟩ := info_parts infoRK
  obtain ⟨pc, pA, pn, pp⟩ := p
  unfold RK.val
  simp only
  obtain ⟨T, hT⟩ : ∃ T, cellsR (SS.put keyR xs ⟨pc, pA, pn, pp⟩) = T := ⟨_, rfl⟩
  rw [hT]
  have HT := Lib.hid hT
  have H1 := H.newBk [.int .i64 pc, .slice pA pn pp] 109
  have HN := Lib.hid hn
  have HB := Lib.hid (hb.cons (Bk w.heap.size 109 [.int .i64 pc, .slice pA pn pp]))
  clear hT hn hb H
  go_enter Try.func54, Try.ntmps54
  go_wp2_with fail
  generalize w.heap.size = g at H1 HB ⊢
  generalize w.alloc _ = w1 at H1 ⊢
  go_loopw [5] (fun kv wr => ∃ (k : Nat), kv = .int .i64 (k : Int) ∧ k ≤ n ∧ Hid (∀ i, i < k → (xs.getD i rk0).c ≤ pc) ∧ Sp w0 (Bk g 109 [.int .i64 pc, .slice pA pn pp] :: L) wr) (fun kv _ => n - (intOf kv).toNat)
  case atStart => exact ⟨0, rfl, Nat.zero_le _, Lib.hid (fun i hi => by omega), H1⟩
  case round =>
    clear H1
    obtain ⟨k, rfl, hk, HK, H1⟩ := hrel
    have b0 := H1.cell 0 rfl 0
    have b1 := H1.cell 0 rfl 1
    simp only [List.getElem?_cons_zero, List.getElem?_cons_succ] at b0 b1
    have hstop : ∀ (st : k < n → pc < (xs.getD k rk0).c), T = cellsR (xs.take k) ++ [.int .i64 pc, .slice pA pn pp] ++ cellsR (xs.drop k) := fun st => by
      rw [← HT.out, put_at_place (d := rk0) (k := k) (by rw [← HN.out]; exact hk) (fun i hi => HK.out i hi) (fun h => st (by rw [HN.out]; exact h)), cellsR_append]
      show cellsR (xs.take k) ++ (RK.cells ⟨pc, pA, pn, pp⟩ ++ cellsR (xs.drop k)) = _
      rw [← List.append_assoc]; rfl
    have HSTOP := Lib.hid hstop
    clear hstop
    by_cases hkn : k < n
    · have k1 : (k : Int) < (n : Int) := by omega
      obtain ⟨ad, had, d0, _⟩ := rdR (HB.out _ _ H1) (i := k) (by rw [← HN.out]; exact hkn)
      obtain ⟨y, hy⟩ : ∃ y, (xs.getD k rk0).c = y := ⟨_, rfl⟩
      rw [hy] at d0
      subst had
      have HY := Lib.hid hy
      clear hy
      by_cases hle : y ≤ pc
      · go_wp2_with fail
        go_quiet (fail)
        go_wp2_with fail
        go_roundw
        case rel =>
          refine ⟨k + 1, by go_num, by omega, Lib.hid (fun i hi => ?_), H1.drewN _⟩
          rcases Nat.lt_or_eq_of_le (Nat.le_of_lt_succ hi) with h | rfl
          · exact HK.out i h
          · rw [HY.out]; exact hle
        case measure => first | (simp [intOf]; omega) | simp [intOf]
      · have hT2 := HSTOP.out (fun _ => by rw [HY.out]; omega)
        have HT2 := Lib.hid hT2
        have kc : (k : Int) ≤ (c : Int) := by omega
        have k0 : (0 : Int) ≤ (k : Int) := by omega
        have ha1 : Ent (Bk g 109 [.int .i64 pc, .slice pA pn pp] :: L) (fun w => Rd w (some ad) (cellsR (xs.take k))) := fun _ _ H => by
          have h := (HB.out _ _ H).take (k * 2)
          rw [cellsR_take] at h
          exact h
        have ha2 : Ent (Bk g 109 [.int .i64 pc, .slice pA pn pp] :: L) (fun w => Rd w (subZ (some ad) c k 2) (cellsR (xs.drop k))) := fun _ _ H => by
          have h := subZ_rd (c := c) (q := k) (z := 2) (HB.out _ _ H) (by rw [cellsR_len, ← HN.out]; exact Nat.mul_le_mul_right _ hnc)
          rw [cellsR_drop] at h
          exact h
        have HA1 := Lib.hid ha1
        have HA2 := Lib.hid ha2
        have hl1 : (cellsR (xs.take k)).length = k * 2 := by rw [cellsR_len, List.length_take, ← HN.out, Nat.min_eq_left hk]
        have hl2 : (cellsR (xs.drop k)).length = (n - k) * 2 := by rw [cellsR_len, List.length_drop, ← HN.out]
        have HL1 := Lib.hid hl1
        have HL2 := Lib.hid hl2
        clear hT2 ha1 ha2 hl1 hl2 HSTOP HB
        go_wp2_with fail
        go_quiet (fail)
        have H2 := (H1.drewN nq).rowNil 109 2
        clear H1
        go_wp2_with (at_builtin; refine wpList_append_sp rfl _ _ 106 rfl 109 i0 (.agg #[.int .i64 0, .slice none 0 0]) 2 32 Try.underlying106 hi hz0 hz1 hz2 rfl (by decide) (.slice none 0 0) 0 [] rfl H2 (some ad) k c (cellsR (xs.take k)) rfl HL1.out (HA1.out _ _ H2.tail) (cellsR_one _) (by unfold maxLen; omega) (by omega) ?_)
        intro v3 w3 H3 _
        clear H2 HA1
        have b0 := H3.cell 1 rfl 0
        have b1 := H3.cell 1 rfl 1
        simp only [List.getElem?_cons_zero, List.getElem?_cons_succ, Nat.zero_add, List.nil_append] at b0 b1 H3
        obtain ⟨V3, c3, hv3, _, _⟩ := Row.form H3 0 rfl
        subst hv3
        have hr9 := Rd.of_blk (Blk.new w3 109 [.int .i64 pc, .slice pA pn pp])
        have HR9 := Lib.hid hr9
        have h9 := H3.newBk [.int .i64 pc, .slice pA pn pp] 109
        have HH9 := Lib.hid h9.swap
        clear hr9 h9 H3
        go_wp2_with (at_builtin; refine wpList_append_sp rfl _ _ 106 rfl 109 i0 (.agg #[.int .i64 0, .slice none 0 0]) 2 32 Try.underlying106 hi hz0 hz1 hz2 rfl (by decide) (.slice V3 k c3) k (cellsR (xs.take k)) rfl HH9.out (some ⟨w3.heap.size, 0, none⟩) 1 1 [.int .i64 pc, .slice pA pn pp] rfl rfl HR9.out (RK.one ⟨pc, pA, pn, pp⟩) (by unfold maxLen; omega) (by omega) ?_)
        intro v4 w4 H4 _
        clear HR9 HH9 b0 b1
        obtain ⟨V4, c4, hv4, _, _⟩ := Row.form H4 0 rfl
        subst hv4
        have HA3 := Lib.hid (HA2.out _ _ H4.tail2)
        unfold subZ at HA3
        clear HA2
        by_cases hck : c = k
        · rw [if_pos hck] at HA3
          have ksub : (c : Int) - (k : Int) = 0 := by omega
          have HCK := Lib.hid hck
          clear hck
          go_wp2_with (at_builtin; refine wpList_append_sp rfl _ _ 106 rfl 109 i0 (.agg #[.int .i64 0, .slice none 0 0]) 2 32 Try.underlying106 hi hz0 hz1 hz2 rfl (by decide) (.slice V4 (k + 1) c4) (k + 1) _ rfl H4 (some ad) (n - k) (c - k) (cellsR (xs.drop k)) rfl HL2.out HA3.out (cellsR_one _) (by unfold maxLen; omega) (by omega) ?_)
          intro v5 w5 H5 _
          go_wp2_with fail
          go_ret
          refine ⟨_, rfl, ?_⟩
          rw [HT2.out, List.append_assoc, show n + 1 = k + 1 + (n - k) by omega]
          exact H5.pick 3 [0]
        · rw [if_neg hck] at HA3
          have ksub : (k : Int) < (c : Int) := by omega
          have HCK := Lib.hid hck
          clear hck
          go_wp2_with (at_builtin; refine wpList_append_sp rfl _ _ 106 rfl 109 i0 (.agg #[.int .i64 0, .slice none 0 0]) 2 32 Try.underlying106 hi hz0 hz1 hz2 rfl (by decide) (.slice V4 (k + 1) c4) (k + 1) _ rfl H4 ((some ad : Option Addr).map (·.add (k * 2))) (n - k) (c - k) (cellsR (xs.drop k)) rfl HL2.out HA3.out (cellsR_one _) (by unfold maxLen; omega) (by omega) ?_)
          intro v5 w5 H5 _
          go_wp2_with fail
          go_ret
          refine ⟨_, rfl, ?_⟩
          rw [HT2.out, List.append_assoc, show n + 1 = k + 1 + (n - k) by omega]
          exact H5.pick 3 [0]
    · have k1 : ¬ (k : Int) < (n : Int) := by omega
      have hT2 := HSTOP.out (fun h => absurd h hkn)
      have HT2 := Lib.hid hT2
      have kc : (k : Int) ≤ (c : Int) := by omega
      have k0 : (0 : Int) ≤ (k : Int) := by omega
      have ha1 : Ent (Bk g 109 [.int .i64 pc, .slice pA pn pp] :: L) (fun w => Rd w A (cellsR (xs.take k))) := fun _ _ H => by
        have h := (HB.out _ _ H).take (k * 2)
        rw [cellsR_take] at h
        exact h
      have ha2 : Ent (Bk g 109 [.int .i64 pc, .slice pA pn pp] :: L) (fun w => Rd w (subZ A c k 2) (cellsR (xs.drop k))) := fun _ _ H => by
        have h := subZ_rd (c := c) (q := k) (z := 2) (HB.out _ _ H) (by rw [cellsR_len, ← HN.out]; exact Nat.mul_le_mul_right _ hnc)
        rw [cellsR_drop] at h
        exact h
      have HA1 := Lib.hid ha1
      have HA2 := Lib.hid ha2
      have hl1 : (cellsR (xs.take k)).length = k * 2 := by rw [cellsR_len, List.length_take, ← HN.out, Nat.min_eq_left hk]
      have hl2 : (cellsR (xs.drop k)).length = (n - k) * 2 := by rw [cellsR_len, List.length_drop, ← HN.out]
      have HL1 := Lib.hid hl1
      have HL2 := Lib.hid hl2
      clear hT2 ha1 ha2 hl1 hl2 HSTOP HB
      go_wp2_with fail
      go_quiet (fail)
      have H2 := (H1.drewN nq).rowNil 109 2
      clear H1
      go_wp2_with (at_builtin; refine wpList_append_sp rfl _ _ 106 rfl 109 i0 (.agg #[.int .i64 0, .slice none 0 0]) 2 32 Try.underlying106 hi hz0 hz1 hz2 rfl (by decide) (.slice none 0 0) 0 [] rfl H2 A k c (cellsR (xs.take k)) rfl HL1.out (HA1.out _ _ H2.tail) (cellsR_one _) (by unfold maxLen; omega) (by omega) ?_)
      intro v3 w3 H3 _
      clear H2 HA1
      have b0 := H3.cell 1 rfl 0
      have b1 := H3.cell 1 rfl 1
      simp only [List.getElem?_cons_zero, List.getElem?_cons_succ, Nat.zero_add, List.nil_append] at b0 b1 H3
      obtain ⟨V3, c3, hv3, _, _⟩ := Row.form H3 0 rfl
      subst hv3
      have hr9 := Rd.of_blk (Blk.new w3 109 [.int .i64 pc, .slice pA pn pp])
      have HR9 := Lib.hid hr9
      have h9 := H3.newBk [.int .i64 pc, .slice pA pn pp] 109
      have HH9 := Lib.hid h9.swap
      clear hr9 h9 H3
      go_wp2_with (at_builtin; refine wpList_append_sp rfl _ _ 106 rfl 109 i0 (.agg #[.int .i64 0, .slice none 0 0]) 2 32 Try.underlying106 hi hz0 hz1 hz2 rfl (by decide) (.slice V3 k c3) k (cellsR (xs.take k)) rfl HH9.out (some ⟨w3.heap.size, 0, none⟩) 1 1 [.int .i64 pc, .slice pA pn pp] rfl rfl HR9.out (RK.one ⟨pc, pA, pn, pp⟩) (by unfold maxLen; omega) (by omega) ?_)
      intro v4 w4 H4 _
      clear HR9 HH9 b0 b1
      obtain ⟨V4, c4, hv4, _, _⟩ := Row.form H4 0 rfl
      subst hv4
      have HA3 := Lib.hid (HA2.out _ _ H4.tail2)
      unfold subZ at HA3
      clear HA2
      by_cases hck : c = k
      · rw [if_pos hck] at HA3
        have ksub : (c : Int) - (k : Int) = 0 := by omega
        have HCK := Lib.hid hck
        clear hck
        go_wp2_with (at_builtin; refine wpList_append_sp rfl _ _ 106 rfl 109 i0 (.agg #[.int .i64 0, .slice none 0 0]) 2 32 Try.underlying106 hi hz0 hz1 hz2 rfl (by decide) (.slice V4 (k + 1) c4) (k + 1) _ rfl H4 A (n - k) (c - k) (cellsR (xs.drop k)) rfl HL2.out HA3.out (cellsR_one _) (by unfold maxLen; omega) (by omega) ?_)
        intro v5 w5 H5 _
        go_wp2_with fail
        go_ret
        refine ⟨_, rfl, ?_⟩
        rw [HT2.out, List.append_assoc, show n + 1 = k + 1 + (n - k) by omega]
        exact H5.pick 3 [0]
      · rw [if_neg hck] at HA3
        have ksub : (k : Int) < (c : Int) := by omega
        have HCK := Lib.hid hck
        clear hck
        go_wp2_with (at_builtin; refine wpList_append_sp rfl _ _ 106 rfl 109 i0 (.agg #[.int .i64 0, .slice none 0 0]) 2 32 Try.underlying106 hi hz0 hz1 hz2 rfl (by decide) (.slice V4 (k + 1) c4) (k + 1) _ rfl H4 (A.map (·.add (k * 2))) (n - k) (c - k) (cellsR (xs.drop k)) rfl HL2.out HA3.out (cellsR_one _) (by unfold maxLen; omega) (by omega) ?_)
        intro v5 w5 H5 _
        go_wp2_with fail
        go_ret
        refine ⟨_, rfl, ?_⟩
        rw [HT2.out, List.append_assoc, show n + 1 = k + 1 + (n - k) by omega]
        exact H5.pick 3 [0]
set_option maxRecDepth 100000 in
set_option maxHeartbeats 2000000 in
theorem rcost_ok (A B : Option Addr) (n c m d : Nat) (cs ls : List Nat) {w0 w : World} {L : List Pr} (H : Sp w0 L w) (hn : n = cs.length) (hm : m = ls.length) (ha : Ent L fun w => Rd w A (cells64 (castN cs))) (hb : Ent L fun w => Rd w B (cellsN ls)) (hl : n ≤ 1024) (hc : ∀ x ∈ cs, x ≤ 4294967296) (hd : ∀ x ∈ ls, x ≤ 10000) :
    Calls Try.prog 30 #[.slice A n c, .slice B m d] w fun e w' => e = .returned (.int .i64 (PL.cost cs ls : Int)) ∧ Sp w0 L w' := by
  obtain ⟨k, hk⟩ : ∃ k, min n m = k := ⟨_, rfl⟩
  have hkn : k ≤ n := by omega
  have hkm : k ≤ m := by omega
  have hk3 : ¬ k < n ∨ (k < n ∧ ¬ k < m) := by omega
  have hT : PL.cost cs ls = PL.costTo cs ls k := by unfold PL.cost; rw [← hn, ← hm, hk]
  rw [hT]
  have HN := Lib.hid hn
  have HM := Lib.hid hm
  have HA := Lib.hid ha
  have HB := Lib.hid hb
  have HC := Lib.hid hc
  have HD := Lib.hid hd
  clear hT hk hn hm ha hb hc hd
  go_enter Try.func30, Try.ntmps30
  go_wp2_with fail
  go_loopw [5, 6] (fun sv iv wr => ∃ (i s : Nat), iv = .int .i64 (i : Int) ∧ sv = .int .i64 (s : Int) ∧ i ≤ k ∧ s ≤ i * 42949672960000 ∧ Hid (PL.costTo cs ls i = s) ∧ Sp w0 L wr) (fun _ iv _ => k - (intOf iv).toNat)
  case atStart => exact ⟨0, 0, rfl, rfl, Nat.zero_le _, Nat.zero_le _, Lib.hid rfl, H⟩
  case round =>
    clear H
    obtain ⟨i, s, rfl, rfl, hik, hsb, HS, H⟩ := hrel
    by_cases hlt : i < k
    · have k1 : (i : Int) < (n : Int) := by omega
      have k2 : (i : Int) < (m : Int) := by omega
      have hic : i < cs.length := by rw [← HN.out]; omega
      have him : i < ls.length := by rw [← HM.out]; omega
      obtain ⟨al, hal, hcell⟩ := (HA.out _ _ H).at64 (k := i) (by simpa [castN] using hic)
      obtain ⟨x, hx⟩ : ∃ x, cs.getD i 0 = x := ⟨_, rfl⟩
      have hx2 : cs[i] = x := by rw [← hx, List.getD_eq_getElem?_getD, List.getElem?_eq_getElem hic]; rfl
      have hxl : x ≤ 4294967296 := by rw [← hx2]; exact HC.out _ (List.getElem_mem hic)
      replace hcell : wr.cell? (al.add i) = some (.int .i64 (x : Int)) := by
        rw [hcell]
        simp [castN, hx2]
      obtain ⟨bl, hbl, hcell2⟩ := (HB.out _ _ H).at_ (k := i) (by simpa [cellsN] using him)
      obtain ⟨y, hy⟩ : ∃ y, ls.getD i 0 = y := ⟨_, rfl⟩
      have hy2 : ls[i] = y := by rw [← hy, List.getD_eq_getElem?_getD, List.getElem?_eq_getElem him]; rfl
      have hyl : y ≤ 10000 := by rw [← hy2]; exact HD.out _ (List.getElem_mem him)
      replace hcell2 : wr.cell? (bl.add i) = some (.int .i64 (y : Int)) := by
        rw [hcell2]
        simp [cellsN, hy2]
      subst hal hbl
      obtain ⟨z, hz⟩ : ∃ z, x * y = z := ⟨_, rfl⟩
      have hzl : z ≤ 42949672960000 := by
        rw [← hz]
        exact Nat.mul_le_mul hxl hyl
      have yz : (x : Int) * (y : Int) = (z : Int) := by rw [← hz]; simp
      have hs2 : PL.costTo cs ls (i + 1) = s + z := by rw [PL.costTo_succ, HS.out, hx, hy, hz]
      have HS2 := Lib.hid hs2
      have ks : s ≤ 50000000000000000 := by omega
      have hs3 : s + z ≤ (i + 1) * 42949672960000 := by rw [Nat.succ_mul]; omega
      have HSB := Lib.hid hs3
      clear hx hx2 hy hy2 hz hs2 hs3 hsb
      go_wp2_with fail
      go_quiet (fail)
      go_wp2_with fail
      go_roundw
      case rel => exact ⟨i + 1, s + z, by go_num, by go_num, by omega, HSB.out, HS2, H.drewN _⟩
      case measure => first | (simp [intOf]; omega) | simp [intOf]
    · obtain rfl : i = k := by omega
      have hres := HS.out
      have HRES := Lib.hid hres
      clear hres hsb
      rcases hk3 with h3 | ⟨h3, h4⟩
      · have k1 : ¬ (i : Int) < (n : Int) := by omega
        go_wp2_with fail
        go_ret
        exact ⟨ret_i64 (by rw [HRES.out]), H⟩
      · have k1 : (i : Int) < (n : Int) := by omega
        have k2 : ¬ (i : Int) < (m : Int) := by omega
        go_wp2_with fail
        go_ret
        exact ⟨ret_i64 (by rw [HRES.out]), H⟩
end Go.Proofs.Ytdlbhoedmaifpaa
