/- BitsF: the document's own answer for bits: Bits, Number, Left, Done. -/
import Derived.Test.YtkgnihpcldgedaaBitsRow
namespace Go.Proofs.Ytkgnihpcldgedaa
open Go.RowKit
theorem infoB : (Try.prog.info? 4).map (fun i => (i.zero, i.size, i.bytes)) = some (some (.bool false), 1, 1) := by kernel_rfl
def cellsB (l : List Bool) : List Value := l.map Value.bool
theorem cellsB_one (l : List Bool) : ∀ u ∈ cellsB l, u.oneCell' = true := by
  intro u hu
  obtain ⟨x, _, rfl⟩ := List.mem_map.1 hu
  rfl
/-- A slice of bools. -/
def Bls (w : World) (v : Value) (l : List Bool) : Prop := ∃ A c, v = .slice A l.length c ∧ Rd w A (cellsB l) ∧ l.length ≤ c ∧ c ≤ maxLen
theorem Rd.atB {w : World} {A : Option Addr} {l : List Bool} (h : Rd w A (cellsB l)) {k : Nat} (hk : k < l.length) :
    ∃ ad, A = some ad ∧ w.cell? (ad.add k) = some (.bool l[k]) := by
  obtain ⟨ad, e, hc⟩ := h.at_ (k := k) (by simpa [cellsB] using hk)
  exact ⟨ad, e, by simpa [cellsB] using hc⟩
theorem Sp.row_rd {w0 w : World} {L : List Pr} (H : Sp w0 L w) (k : Nat) {e : TypeId} {n : Nat} {v : Value} {xs : List Value} (hk : L[k]? = some (Row e 1 v n xs)) :
    ∃ A c, v = .slice A n c ∧ Rd w A xs ∧ n ≤ c ∧ c ≤ maxLen := by
  have h := H.owns k hk
  rcases h.2 with ⟨rfl, rfl⟩ | ⟨g, cap, cur, rfl, hb, hh, h1, h2, h3, h4⟩
  · have : xs = [] := List.eq_nil_of_length_eq_zero (by simpa using h.1)
    subst this
    exact ⟨none, 0, rfl, Rd.nil, Nat.le_refl _, by simp [maxLen]⟩
  · refine ⟨_, _, rfl, fun _ => ⟨_, rfl, fun j u hu => ?_⟩, h1, h2⟩
    have hj : j < n := by
      have := (List.getElem?_eq_some_iff.1 hu).1
      rw [h.1, Nat.mul_one] at this
      exact this
    have e1 : (Addr.add ⟨g, 0, none⟩ j) = ⟨g, j, none⟩ := by
      unfold Addr.add; split
      · rename_i h0; subst h0; rfl
      · simp
    rw [e1, h.cellAt j (by omega)]
    exact hu
theorem Sp.row_bls {w0 w : World} {L : List Pr} (H : Sp w0 L w) (k : Nat) {e : TypeId} {v : Value} {l : List Bool} (hk : L[k]? = some (Row e 1 v l.length (cellsB l))) : Bls w v l := by
  obtain ⟨A, c, e, r⟩ := H.row_rd k hk
  exact ⟨A, c, e, r⟩
theorem Rd.part {w : World} {A : Option Addr} {xs : List Value} (h : Rd w A xs) (q k : Nat) : Rd w (A.map (·.add q)) ((xs.drop q).take k) := fun hn => by
  obtain ⟨ad, rfl, hc⟩ := h (by rintro rfl; simp at hn)
  refine ⟨ad.add q, rfl, fun j u hu => ?_⟩
  rw [List.getElem?_take] at hu
  split at hu
  · rw [List.getElem?_drop] at hu
    rw [Go.Addr.add_add]
    exact hc _ u hu
  · cases hu
set_option maxRecDepth 100000 in
theorem bits_ok (n k : Nat) (m : Int) {w0 w : World} {L : List Pr} (H : Sp w0 L w) (hn : n < 18446744073709551616) (hk : (k : Int) = max m 0) (hk2 : k ≤ 1000000) :
    Calls Try.prog 89 #[.int .u64 (n : Int), .int .i64 m] w (Ret fun v w' => ∃ u, v = .tuple #[u, .bool (n / 2 ^ k == 0)] ∧ Sp w0 (Row 4 1 u k (cellsB (PBits.bitsOf n k)) :: L) w') := by
  obtain ⟨i0, hi, hz0, hz1, hz2⟩ := info_parts infoB
  have HK := Lib.hid hk
  clear hk
  go_enter Try.func89, Try.ntmps89
  go_wp2
  go_loopw [0, 6, 7] (fun x out i wr => ∃ j : Nat, j ≤ k ∧ i = .int .i64 (j : Int) ∧ x = .int .u64 ((n / 2 ^ j : Nat) : Int) ∧ Sp w0 (Row 4 1 out j (cellsB (PBits.bitsOf n j)) :: L) wr) (fun _ _ i _ => k - (intOf i).toNat)
  case atStart => exact ⟨0, Nat.zero_le _, rfl, by simp, H.rowNil _ _⟩
  case round =>
    obtain ⟨j, hj, rfl, rfl, H2⟩ := hrel
    obtain ⟨A, c, rfl, _, _⟩ := Row.form H2 0 rfl
    have hb : n / 2 ^ j < 18446744073709551616 := Nat.lt_of_le_of_lt (Nat.div_le_self _ _) hn
    obtain ⟨x, hx⟩ : ∃ x, n / 2 ^ j = x := ⟨_, rfl⟩
    rw [hx] at hb ⊢
    have HX := Lib.hid hx
    clear hx
    by_cases hlt : j < k
    · have hlt' : (j : Int) < m := by have := HK.out; omega
      obtain ⟨b, hb2⟩ : ∃ b, ((x : Int) % 2 == 1) = b := ⟨_, rfl⟩
      have HB := Lib.hid hb2
      go_wp2_with (at_builtin; refine wpList_append_sp rfl _ _ 64 rfl 4 i0 (.bool false) 1 1 Try.underlying64 hi hz0 hz1 hz2 rfl (by decide) (.slice A j c) j (cellsB (PBits.bitsOf n j)) rfl (H2.newBk [.bool b] _).swap (some ⟨wr.heap.size, 0, none⟩) 1 1 [.bool b] rfl rfl (Rd.of_blk ((H2.newBk [.bool b] _).blk 0 rfl)) (by intro u hu; rw [List.mem_singleton.1 hu]; rfl) (by unfold maxLen; omega) (by omega) ?_)
      intro v' w' H3 _
      clear hb2
      go_wp2
      go_roundw
      case rel =>
        refine ⟨j + 1, by omega, by go_num, ?_, ?_⟩
        · rw [Nat.pow_succ, ← Nat.div_div_eq_div_mul, HX.out]; simp
        · have e : cellsB (PBits.bitsOf n (j + 1)) = cellsB (PBits.bitsOf n j) ++ [.bool b] := by
            have hbb : (x % 2 == 1) = b := by
              rw [← HB.out, Bool.eq_iff_iff, beq_iff_eq, beq_iff_eq]; omega
            rw [PBits.bitsOf_snoc, HX.out, hbb]; simp [cellsB]
          rw [e]
          exact H3.pick 2 [0]
      case measure => simp [intOf]; omega
    · have hlt' : ¬ (j : Int) < m := by have := HK.out; omega
      obtain rfl : j = k := by omega
      go_wp2
      go_ret2
      refine ⟨_, rfl, _, ?_, H2⟩
      have e : ((x : Int) == 0) = (n / 2 ^ j == 0) := by rw [HX.out, Bool.eq_iff_iff, beq_iff_eq, beq_iff_eq]; omega
      exact congrArg (fun b => Value.tuple #[.slice A j c, .bool b]) e
set_option maxRecDepth 100000 in
theorem number_ok (v : Value) (l : List Bool) (w : World) (hb : Bls w v l) (hl : l.length ≤ 64) :
    Calls Try.prog 90 #[v] w fun e w' => e = .returned (.int .u64 (PBits.num l : Nat)) ∧ w = w' := by
  obtain ⟨A, c, rfl, hr, hc1, hc2⟩ := hb
  unfold maxLen at hc2
  have HR := Lib.hid hr
  clear hr
  obtain ⟨n, hn⟩ : ∃ n, l.length = n := ⟨_, rfl⟩
  rw [hn] at hl hc1 ⊢
  have HN := Lib.hid hn
  clear hn
  go_enter Try.func90, Try.ntmps90
  go_wp2
  go_loop [3, 4] (fun x i => ∃ j : Nat, j ≤ n ∧ i = .int .i64 ((j : Int) - 1) ∧ x = .int .u64 (PBits.num (l.drop j) : Nat)) (fun _ i => (intOf i + 1).toNat)
  case atStart => exact ⟨n, Nat.le_refl _, rfl, by rw [List.drop_of_length_le (by rw [HN.out]; exact Nat.le_refl _)]; rfl⟩
  case round =>
    obtain ⟨j, hj, rfl, rfl⟩ := hrel
    by_cases hlt : 0 < j
    · obtain ⟨i, rfl⟩ : ∃ i, j = i + 1 := ⟨j - 1, by omega⟩
      have ei : (((i + 1 : Nat) : Int) - 1) = (i : Int) := by omega
      rw [ei]
      have hil : i < l.length := by rw [HN.out]; omega
      have h0 : (0 : Int) ≤ (i : Int) := by omega
      have h1 : (i : Int) < n := by omega
      obtain ⟨ad, rfl, hcell⟩ := HR.out.atB hil
      have hst := PBits.num_step l i hil
      have hlt64 := PBits.num_lt (l.drop i)
      have h64 : (2 : Nat) ^ (l.drop i).length ≤ 18446744073709551616 := two64 _ (by simp; rw [HN.out]; omega)
      obtain ⟨y, hy⟩ : ∃ y, PBits.num (l.drop (i + 1)) = y := ⟨_, rfl⟩
      obtain ⟨z, hz⟩ : ∃ z, PBits.num (l.drop i) = z := ⟨_, rfl⟩
      rw [hy, hz] at hst
      rw [hz] at hlt64
      rw [hy]
      have hz64 : z < 18446744073709551616 := by omega
      have HST := Lib.hid hst
      have HZ := Lib.hid hz
      cases hbit : l[i] with
      | true =>
        rw [hbit] at hst hcell
        have hyb : (2 : Int) * y + 1 < 18446744073709551616 := by simp at hst; omega
        have HST : Hid ((z : Int) = 2 * y + 1) := by show _ = _; simp at hst; omega
        clear hst hlt64 h64 hy hz hbit ei
        go_wp2
        go_round
        case rel => exact ⟨i, by omega, rfl, by rw [HZ.out, HST.out]⟩
        case measure => simp [intOf]
      | false =>
        rw [hbit] at hst hcell
        have hyb : (2 : Int) * y < 18446744073709551616 := by simp at hst; omega
        have HST : Hid ((z : Int) = 2 * y) := by show _ = _; simp at hst; omega
        clear hst hlt64 h64 hy hz hbit ei
        go_wp2
        go_round
        case rel => exact ⟨i, by omega, rfl, by rw [HZ.out, HST.out]⟩
        case measure => simp [intOf]
    · obtain rfl : j = 0 := by omega
      go_wp2
      go_ret
      exact ⟨rfl, rfl⟩
/-- A row: its bits, and how many were taken. -/
def RwB (g : Nat) (v : Value) (at_ : Nat) : Pr := Bk g 66 [v, .int .i64 (at_ : Int)]
def Rw (g : Nat) (l : List Bool) (at_ : Nat) : Pr := Ex fun v : Value => Star (RwB g v at_) (Row 4 1 v l.length (cellsB l))
theorem rw_open {w0 w : World} {L : List Pr} {g at_ : Nat} {l : List Bool} (H : Sp w0 (Rw g l at_ :: L) w) :
    ∃ A c, Sp w0 (RwB g (.slice A l.length c) at_ :: Row 4 1 (.slice A l.length c) l.length (cellsB l) :: L) w ∧ Bls w (.slice A l.length c) l ∧
      w.cell? ⟨g, 0, none⟩ = some (.slice A l.length c) ∧ w.cell? ⟨g, 1, none⟩ = some (.int .i64 (at_ : Int)) ∧ w.frozen? ⟨g, 0, none⟩ = false ∧ w.frozen? ⟨g, 1, none⟩ = false ∧ l.length ≤ c ∧ c ≤ maxLen := by
  obtain ⟨v, H⟩ := H.unex
  replace H := H.unstar
  obtain ⟨A, c, rfl, h1, h2⟩ := Row.form H 1 rfl
  exact ⟨A, c, H, H.row_bls 1 rfl, H.cell 0 rfl 0, H.cell 0 rfl 1, H.frozen 0 rfl 0, H.frozen 0 rfl 1, h1, h2⟩
theorem rw_shut {w0 w : World} {L : List Pr} {g at_ : Nat} {l : List Bool} {v : Value} (H : Sp w0 (RwB g v at_ :: Row 4 1 v l.length (cellsB l) :: L) w) : Sp w0 (Rw g l at_ :: L) w := Sp.ex v H.star
theorem fleft_ok (g : Nat) (l : List Bool) (at_ : Nat) {w0 w : World} {L : List Pr} (H : Sp w0 (Rw g l at_ :: L) w) (ha : at_ ≤ l.length) (hl : l.length ≤ 1000000000) :
    Calls Try.prog 59 #[.pointer (some ⟨g, 0, none⟩)] w fun e w' => e = .returned (.int .i64 ((l.length - at_ : Nat) : Int)) ∧ Keep w w' := by
  obtain ⟨A, c, _, _, c0, c1, _⟩ := rw_open H
  clear H
  obtain ⟨n, hn⟩ : ∃ n, l.length = n := ⟨_, rfl⟩
  rw [hn] at c0 ha hl ⊢
  clear hn
  have h8 : (at_ : Int) ≤ n := by omega
  go_enter Try.func59, Try.ntmps59
  go_wp2
  go_quiet (fail)
  go_wp2
  go_ret
  exact ⟨ret_i64 (by omega), Keep.drewN _ _⟩
theorem falign_ok (g : Nat) (l : List Bool) (at_ : Nat) {w0 w : World} {L : List Pr} (H : Sp w0 (Rw g l at_ :: L) w) (ha : at_ ≤ 1000000000) :
    Calls Try.prog 54 #[.pointer (some ⟨g, 0, none⟩)] w fun e w' => e = .returned (.tuple #[]) ∧ Sp w0 (Rw g l ((at_ + 7) / 8 * 8) :: L) w' := by
  obtain ⟨A, c, H, _⟩ := rw_open H
  go_enter Try.func54, Try.ntmps54
  go_wp2
  go_loopw [] (fun wr => ∃ a : Nat, at_ ≤ a ∧ a ≤ (at_ + 7) / 8 * 8 ∧ Sp w0 (RwB g (.slice A l.length c) a :: Row 4 1 (.slice A l.length c) l.length (cellsB l) :: L) wr) (fun wr => match wr.cell? ⟨g, 1, none⟩ with | some i => 2000000000 - (intOf i).toNat | none => 0)
  case atStart => exact ⟨at_, Nat.le_refl _, by omega, H⟩
  case round =>
    obtain ⟨a, h1, h2, H2⟩ := hrel
    have c1 : wr.cell? ⟨g, 1, none⟩ = some (.int .i64 (a : Int)) := H2.cell 0 rfl 1
    have z1 : wr.frozen? ⟨g, 1, none⟩ = false := H2.frozen 0 rfl 1
    by_cases h8 : a % 8 = 0
    · have h8' : ((a : Int) % 8 != 0) = false := by rw [bne_eq_false_iff_eq]; omega
      go_wp2
      obtain rfl : a = (at_ + 7) / 8 * 8 := by omega
      go_end0
      exact ⟨rfl, rw_shut H2⟩
    · have h8' : ((a : Int) % 8 != 0) = true := by rw [bne_iff_ne]; omega
      have hab : (a : Int) ≤ 1000000008 := by omega
      have m2 := (H2.set 1 (.int .i64 ((a : Int) + 1))).cell 0 rfl 1
      go_wp2
      go_roundw
      case rel =>
        refine ⟨a + 1, by omega, by omega, ?_⟩
        unfold RwB
        rw [Int.natCast_add]
        exact H2.set 1 (.int .i64 ((a : Int) + 1))
      case measure =>
        simp only [c1, m2]
        simp [intOf]
        omega
theorem Bls.part {w : World} {A : Option Addr} {n c : Nat} {l : List Bool} (h : Bls w (.slice A n c) l) (q k : Nat) (hq : q + k ≤ n) : Bls w (.slice (A.map (·.add q)) k (c - q)) ((l.drop q).take k) := by
  obtain ⟨A', c', e, hr, h1, h2⟩ := h
  injection e with e1 e2 e3
  subst e1 e2 e3
  refine ⟨_, _, by rw [show ((l.drop q).take k).length = k by simp; omega], ?_, by simp; omega, by omega⟩
  have := hr.part q k
  unfold cellsB at this ⊢
  rwa [← List.map_drop, ← List.map_take] at this
theorem slice_part (A : Option Addr) (c : Nat) (l : List Bool) (at_ k : Nat) (h : at_ + k ≤ l.length) (hc : l.length ≤ c) (_hm : c ≤ 2 ^ 63 - 1) :
    ∃ u : Value, (∀ W : World, (Instr.sliceAt 64 (.slice A l.length c) (some (.int .i64 (at_ : Int))) (some (.int .i64 ((at_ : Int) + k))) none).run Try.prog W = .ok u W) ∧ ∀ W, Bls W (.slice A l.length c) l → Bls W u ((l.drop at_).take k) := by
  have t1 : (at_ : Int) + k ≤ c := by omega
  have t5 : (0 : Int) ≤ (at_ : Int) + k := by omega
  have t6 : (at_ : Int) ≤ (at_ : Int) + k := by omega
  have t7 : (0 : Int) ≤ (k : Int) := by omega
  by_cases hcq : c = at_
  · refine ⟨.slice A k (c - at_), fun W => ?_, fun W hB => ?_⟩
    · subst hcq
      go_simp
      omega
    · have hk0 : k = 0 := by omega
      rw [hk0, List.take_zero]
      exact ⟨A, _, rfl, Rd.nil, Nat.zero_le _, by unfold maxLen; omega⟩
  · refine ⟨.slice (A.map (·.add at_)) k (c - at_), fun W => ?_, fun W hB => hB.part at_ k h⟩
    go_simp
    omega
set_option maxRecDepth 100000 in
set_option maxHeartbeats 1000000 in
theorem fpeek_ok (g : Nat) (l : List Bool) (at_ : Nat) (m : Int) (k : Nat) {w0 w : World} {L : List Pr} (H : Sp w0 (Rw g l at_ :: L) w) (ha : at_ ≤ l.length) (hl : l.length ≤ 1000000000) (hk : (k : Int) = min (min (max m 0) 57) ((l.length - at_ : Nat) : Int)) :
    Calls Try.prog 58 #[.pointer (some ⟨g, 0, none⟩), .int .i64 m] w fun e w' => e = .returned (.tuple #[.int .u64 (PBits.num ((l.drop at_).take k) : Nat), .int .i64 (k : Int)]) ∧ Sp w0 (Rw g l at_ :: L) w' := by
  obtain ⟨left, hleft⟩ : ∃ left, l.length - at_ = left := ⟨_, rfl⟩
  rw [hleft] at hk
  have hk57 : k ≤ 57 := by omega
  have hll : at_ + k ≤ l.length := by omega
  have key : ∀ w1 : World, Sp w0 (Rw g l at_ :: L) w1 → Calls Try.prog 59 #[.pointer (some ⟨g, 0, none⟩)] w1 fun e w' => e = .returned (.int .i64 (left : Int)) ∧ Keep w1 w' := fun w1 H' => by
    have := fleft_ok g l at_ H' ha hl
    rwa [hleft] at this
  have KEY := Lib.hid key
  clear key hleft
  go_enter Try.func58, Try.ntmps58
  by_cases hm57 : 57 < m
  · by_cases hl57 : (left : Int) < 57
    · have ek : (left : Int) = (k : Int) := by omega
      have EK := Lib.hid ek
      clear hk ek
      go_wp2_with fail
      refine (KEY.out _ H).mono ?_
      rintro _ w2 ⟨rfl, K2⟩
      replace H := K2.sep H
      go_wp2_with fail
      refine (KEY.out _ H).mono ?_
      rintro _ w3 ⟨rfl, K3⟩
      replace H := K3.sep H
      rw [EK.out]
      clear K2 K3 hl57
      have hnn : ¬ (k : Int) < 0 := by omega
      go_wp2_with fail
      obtain ⟨B, c, H, _, _, _, _, _, hc1, hc2⟩ := rw_open H
      unfold maxLen at hc2
      obtain ⟨u, hu, hub⟩ : ∃ u : Value, (∀ W : World, (Instr.sliceAt 64 (.slice B l.length c) (some (.int .i64 (at_ : Int))) (some (.int .i64 ((at_ : Int) + (k : Int)))) none).run Try.prog W = .ok u W) ∧ ∀ W, Bls W (.slice B l.length c) l → Bls W u ((l.drop at_).take k) := slice_part B c l at_ k hll hc1 hc2
      have HUB := Lib.hid hub
      clear hub
      refine wp_region_sp (L := RwB g (.slice B l.length c) at_ :: Row 4 1 (.slice B l.length c) l.length (cellsB l) :: L) (fun i v => ([(· = .pointer (some ⟨g, 0, none⟩)), (· = .pointer (some ⟨g, 0, none⟩)), (· = .pointer (some ⟨g, 0, none⟩)), (· = .slice B l.length c), (· = .pointer (some ⟨g, 0, none⟩)), (· = .pointer (some ⟨g, 0, none⟩)), (· = .pointer (some ⟨g, 1, none⟩)), (· = .int .i64 (at_ : Int)), (· = .pointer (some ⟨g, 0, none⟩)), (· = .pointer (some ⟨g, 0, none⟩)), (· = .pointer (some ⟨g, 1, none⟩)), (· = .int .i64 (at_ : Int)), (· = .int .i64 (k : Int)), (· = .int .i64 ((at_ : Int) + (k : Int))), (· = u), (· = .int .u64 (PBits.num ((l.drop at_).take k) : Nat)), (· = .int .i64 (k : Int)), (· = .int .u64 (PBits.num ((l.drop at_).take k) : Nat)), (· = .int .i64 (k : Int))] : List (Value → Prop)).getD i (fun _ => True) v)
        (fun i v => ([fun _ => [], fun _ => [], fun _ => [], fun _ => [], fun _ => [], fun _ => [], fun _ => [], fun _ => [], fun _ => [], fun _ => [], fun _ => [], fun _ => [], fun _ => [], fun _ => [], fun _ => [], fun _ => [], fun _ => [], fun _ => [], fun _ => []] : List (Value → List Pr)).getD i (fun _ => []) v) (fun i => ([[], [], [], [], [], [], [], [], [], [], [], [], [], [], [], [], [], [], []] : List (List Pr)).getD i []) 19 33
        [some 16, some 17, some 18, some 19, some 20, some 21, some 22, some 23, some 24, some 25, some 26, some 27, some 28, some 29, some 30, some 31, some 32, some 4, some 5]
        [[], [0], [1], [2], [], [4], [5], [6], [], [8], [9], [10], [], [11, 12], [3, 7, 13], [14], [], [15, 15, 0, 1, 2, 3, 4, 5, 6, 7, 8, 9, 10, 11, 12, 13, 14, 15], [16, 17, 0, 1, 2, 3, 4, 5, 6, 7, 8, 9, 10, 11, 12, 13, 14, 15, 16, 17]]
        [[], [0], [0, 1], [0, 1, 2], [], [4], [4, 5], [4, 5, 6], [], [8], [8, 9], [8, 9, 10], [], [8, 9, 10, 11, 12], [0, 1, 2, 3, 4, 5, 6, 7, 8, 9, 10, 11, 12, 13], [0, 1, 2, 3, 4, 5, 6, 7, 8, 9, 10, 11, 12, 13, 14], [], [0, 1, 2, 3, 4, 5, 6, 7, 8, 9, 10, 11, 12, 13, 14, 15], [0, 1, 2, 3, 4, 5, 6, 7, 8, 9, 10, 11, 12, 13, 14, 15, 16, 17]]
        [[], [], [], [], [], [], [], [], [], [], [], [], [], [], [], [], [], [], []]
        [[], [], [], [], [], [], [], [], [], [], [], [], [], [], [], [], [], [], []]
        [(0, .pointer (some ⟨g, 0, none⟩)), (1, .int .i64 (k : Int))]
        (by kernel_rfl) rfl (by decide) (by rfl) rfl (by decide +kernel) (by decide +kernel) (by rfl) rfl rfl (by decide) (by simp) (by rfl) (H) ?hstep ?hend
      case hstep =>
        refine ⟨?_, ⟨?_, ⟨?_, ⟨?_, ⟨?_, ⟨?_, ⟨?_, ⟨?_, ⟨?_, ⟨?_, ⟨?_, ⟨?_, ⟨?_, ⟨?_, ⟨?_, ⟨?_, ⟨?_, ⟨?_, ⟨?_, trivial⟩⟩⟩⟩⟩⟩⟩⟩⟩⟩⟩⟩⟩⟩⟩⟩⟩⟩⟩
        · intro x wx A rest hN hS hE H K hK0
          have e0 : A.tmps[0]?.getD undef = .pointer (some ⟨g, 0, none⟩) := hN (0, .pointer (some ⟨g, 0, none⟩)) (by simp)
          replace H : Sp w0 (rest) wx := H
          have hK : Hid (∀ (v : Value) (w' : World), v = .pointer (some ⟨g, 0, none⟩) → Sp w0 (rest) w' → K (A.put (some 16) v) w') := Lib.hid hK0
          clear hK0 hN hS hE
          change Oper.wp _ _ A wx K _
          go_step
          exact hK.out _ _ rfl (H)
        · intro x wx A rest hN hS hE H K hK0
          have e16 : A.tmps[16]?.getD undef = .pointer (some ⟨g, 0, none⟩) := ((hS 0 (by decide)).2 16 rfl).trans (hS 0 (by decide)).1
          replace H : Sp w0 (rest) wx := H
          have hK : Hid (∀ (v : Value) (w' : World), v = .pointer (some ⟨g, 0, none⟩) → Sp w0 (rest) w' → K (A.put (some 17) v) w') := Lib.hid hK0
          clear hK0 hN hS hE
          change Oper.wp _ _ A wx K _
          go_step
          exact hK.out _ _ rfl (H)
        · intro x wx A rest hN hS hE H K hK0
          have e17 : A.tmps[17]?.getD undef = .pointer (some ⟨g, 0, none⟩) := ((hS 1 (by decide)).2 17 rfl).trans (hS 1 (by decide)).1
          replace H : Sp w0 (rest) wx := H
          have hK : Hid (∀ (v : Value) (w' : World), v = .pointer (some ⟨g, 0, none⟩) → Sp w0 (rest) w' → K (A.put (some 18) v) w') := Lib.hid hK0
          clear hK0 hN hS hE
          change Oper.wp _ _ A wx K _
          go_step
          exact hK.out _ _ rfl (H)
        · intro x wx A rest hN hS hE H K hK0
          have e18 : A.tmps[18]?.getD undef = .pointer (some ⟨g, 0, none⟩) := ((hS 2 (by decide)).2 18 rfl).trans (hS 2 (by decide)).1
          replace H : Sp w0 (rest) wx := H
          have hK : Hid (∀ (v : Value) (w' : World), v = .slice B l.length c → Sp w0 (rest) w' → K (A.put (some 19) v) w') := Lib.hid hK0
          clear hK0 hN hS
          have c0 : wx.cell? ⟨g, 0, none⟩ = some (.slice B l.length c) := hE (fun w => w.cell? ⟨g, 0, none⟩ = some (.slice B l.length c)) (fun _ _ H => H.cell 0 rfl 0) _ _ H
          change Oper.wp _ _ A wx K _
          go_step
          exact hK.out _ _ rfl (H)
        · intro x wx A rest hN hS hE H K hK0
          have e0 : A.tmps[0]?.getD undef = .pointer (some ⟨g, 0, none⟩) := hN (0, .pointer (some ⟨g, 0, none⟩)) (by simp)
          replace H : Sp w0 (rest) wx := H
          have hK : Hid (∀ (v : Value) (w' : World), v = .pointer (some ⟨g, 0, none⟩) → Sp w0 (rest) w' → K (A.put (some 20) v) w') := Lib.hid hK0
          clear hK0 hN hS hE
          change Oper.wp _ _ A wx K _
          go_step
          exact hK.out _ _ rfl (H)
        · intro x wx A rest hN hS hE H K hK0
          have e20 : A.tmps[20]?.getD undef = .pointer (some ⟨g, 0, none⟩) := ((hS 4 (by decide)).2 20 rfl).trans (hS 4 (by decide)).1
          replace H : Sp w0 (rest) wx := H
          have hK : Hid (∀ (v : Value) (w' : World), v = .pointer (some ⟨g, 0, none⟩) → Sp w0 (rest) w' → K (A.put (some 21) v) w') := Lib.hid hK0
          clear hK0 hN hS hE
          change Oper.wp _ _ A wx K _
          go_step
          exact hK.out _ _ rfl (H)
        · intro x wx A rest hN hS hE H K hK0
          have e21 : A.tmps[21]?.getD undef = .pointer (some ⟨g, 0, none⟩) := ((hS 5 (by decide)).2 21 rfl).trans (hS 5 (by decide)).1
          replace H : Sp w0 (rest) wx := H
          have hK : Hid (∀ (v : Value) (w' : World), v = .pointer (some ⟨g, 1, none⟩) → Sp w0 (rest) w' → K (A.put (some 22) v) w') := Lib.hid hK0
          clear hK0 hN hS hE
          change Oper.wp _ _ A wx K _
          go_step
          exact hK.out _ _ rfl (H)
        · intro x wx A rest hN hS hE H K hK0
          have e22 : A.tmps[22]?.getD undef = .pointer (some ⟨g, 1, none⟩) := ((hS 6 (by decide)).2 22 rfl).trans (hS 6 (by decide)).1
          replace H : Sp w0 (rest) wx := H
          have hK : Hid (∀ (v : Value) (w' : World), v = .int .i64 (at_ : Int) → Sp w0 (rest) w' → K (A.put (some 23) v) w') := Lib.hid hK0
          clear hK0 hN hS
          have c1 : wx.cell? ⟨g, 1, none⟩ = some (.int .i64 (at_ : Int)) := hE (fun w => w.cell? ⟨g, 1, none⟩ = some (.int .i64 (at_ : Int))) (fun _ _ H => H.cell 0 rfl 1) _ _ H
          change Oper.wp _ _ A wx K _
          go_step
          exact hK.out _ _ rfl (H)
        · intro x wx A rest hN hS hE H K hK0
          have e0 : A.tmps[0]?.getD undef = .pointer (some ⟨g, 0, none⟩) := hN (0, .pointer (some ⟨g, 0, none⟩)) (by simp)
          replace H : Sp w0 (rest) wx := H
          have hK : Hid (∀ (v : Value) (w' : World), v = .pointer (some ⟨g, 0, none⟩) → Sp w0 (rest) w' → K (A.put (some 24) v) w') := Lib.hid hK0
          clear hK0 hN hS hE
          change Oper.wp _ _ A wx K _
          go_step
          exact hK.out _ _ rfl (H)
        · intro x wx A rest hN hS hE H K hK0
          have e24 : A.tmps[24]?.getD undef = .pointer (some ⟨g, 0, none⟩) := ((hS 8 (by decide)).2 24 rfl).trans (hS 8 (by decide)).1
          replace H : Sp w0 (rest) wx := H
          have hK : Hid (∀ (v : Value) (w' : World), v = .pointer (some ⟨g, 0, none⟩) → Sp w0 (rest) w' → K (A.put (some 25) v) w') := Lib.hid hK0
          clear hK0 hN hS hE
          change Oper.wp _ _ A wx K _
          go_step
          exact hK.out _ _ rfl (H)
        · intro x wx A rest hN hS hE H K hK0
          have e25 : A.tmps[25]?.getD undef = .pointer (some ⟨g, 0, none⟩) := ((hS 9 (by decide)).2 25 rfl).trans (hS 9 (by decide)).1
          replace H : Sp w0 (rest) wx := H
          have hK : Hid (∀ (v : Value) (w' : World), v = .pointer (some ⟨g, 1, none⟩) → Sp w0 (rest) w' → K (A.put (some 26) v) w') := Lib.hid hK0
          clear hK0 hN hS hE
          change Oper.wp _ _ A wx K _
          go_step
          exact hK.out _ _ rfl (H)
        · intro x wx A rest hN hS hE H K hK0
          have e26 : A.tmps[26]?.getD undef = .pointer (some ⟨g, 1, none⟩) := ((hS 10 (by decide)).2 26 rfl).trans (hS 10 (by decide)).1
          replace H : Sp w0 (rest) wx := H
          have hK : Hid (∀ (v : Value) (w' : World), v = .int .i64 (at_ : Int) → Sp w0 (rest) w' → K (A.put (some 27) v) w') := Lib.hid hK0
          clear hK0 hN hS
          have c1 : wx.cell? ⟨g, 1, none⟩ = some (.int .i64 (at_ : Int)) := hE (fun w => w.cell? ⟨g, 1, none⟩ = some (.int .i64 (at_ : Int))) (fun _ _ H => H.cell 0 rfl 1) _ _ H
          change Oper.wp _ _ A wx K _
          go_step
          exact hK.out _ _ rfl (H)
        · intro x wx A rest hN hS hE H K hK0
          have e1 : A.tmps[1]?.getD undef = .int .i64 (k : Int) := hN (1, .int .i64 (k : Int)) (by simp)
          replace H : Sp w0 (rest) wx := H
          have hK : Hid (∀ (v : Value) (w' : World), v = .int .i64 (k : Int) → Sp w0 (rest) w' → K (A.put (some 28) v) w') := Lib.hid hK0
          clear hK0 hN hS hE
          change Oper.wp _ _ A wx K _
          go_step
          exact hK.out _ _ rfl (H)
        · intro x wx A rest hN hS hE H K hK0
          have e27 : A.tmps[27]?.getD undef = .int .i64 (at_ : Int) := ((hS 11 (by decide)).2 27 rfl).trans (hS 11 (by decide)).1
          have e28 : A.tmps[28]?.getD undef = .int .i64 (k : Int) := ((hS 12 (by decide)).2 28 rfl).trans (hS 12 (by decide)).1
          replace H : Sp w0 (rest) wx := H
          have hK : Hid (∀ (v : Value) (w' : World), v = .int .i64 ((at_ : Int) + (k : Int)) → Sp w0 (rest) w' → K (A.put (some 29) v) w') := Lib.hid hK0
          clear hK0 hN hS hE
          have hb1 : (at_ : Int) + (k : Int) ≤ 2000000000 := by omega
          change Oper.wp _ _ A wx K _
          go_step
          exact hK.out _ _ rfl (H)
        · intro x wx A rest hN hS hE H K hK0
          have e19 : A.tmps[19]?.getD undef = .slice B l.length c := ((hS 3 (by decide)).2 19 rfl).trans (hS 3 (by decide)).1
          have e23 : A.tmps[23]?.getD undef = .int .i64 (at_ : Int) := ((hS 7 (by decide)).2 23 rfl).trans (hS 7 (by decide)).1
          have e29 : A.tmps[29]?.getD undef = .int .i64 ((at_ : Int) + (k : Int)) := ((hS 13 (by decide)).2 29 rfl).trans (hS 13 (by decide)).1
          replace H : Sp w0 (rest) wx := H
          have hK : Hid (∀ (v : Value) (w' : World), v = u → Sp w0 (rest) w' → K (A.put (some 30) v) w') := Lib.hid hK0
          clear hK0 hN hS hE
          change Oper.wp _ _ A wx K _
          go_step
          exact hK.out _ _ rfl (H)
        · intro x wx A rest hN hS hE H K hK0
          have e30 : A.tmps[30]?.getD undef = u := ((hS 14 (by decide)).2 30 rfl).trans (hS 14 (by decide)).1
          replace H : Sp w0 (rest) wx := H
          have hK : Hid (∀ (v : Value) (w' : World), v = .int .u64 (PBits.num ((l.drop at_).take k) : Nat) → Sp w0 (rest) w' → K (A.put (some 31) v) w') := Lib.hid hK0
          clear hK0 hN hS
          have hb := HUB.out _ (hE (fun w => Bls w (.slice B l.length c) l) (fun _ _ H => H.row_bls 1 rfl) _ _ H)
          change Oper.wp _ _ A wx K _
          go_wp2_with fail
          refine (number_ok _ _ _ hb (by rw [List.length_take]; omega)).mono ?_
          rintro _ w9 ⟨rfl, rfl⟩
          exact hK.out _ _ rfl H
        · intro x wx A rest hN hS hE H K hK0
          have e1 : A.tmps[1]?.getD undef = .int .i64 (k : Int) := hN (1, .int .i64 (k : Int)) (by simp)
          replace H : Sp w0 (rest) wx := H
          have hK : Hid (∀ (v : Value) (w' : World), v = .int .i64 (k : Int) → Sp w0 (rest) w' → K (A.put (some 32) v) w') := Lib.hid hK0
          clear hK0 hN hS hE
          change Oper.wp _ _ A wx K _
          go_step
          exact hK.out _ _ rfl (H)
        · intro x wx A rest hN hS hE H K hK0
          have e31 : A.tmps[31]?.getD undef = .int .u64 (PBits.num ((l.drop at_).take k) : Nat) := ((hS 15 (by decide)).2 31 rfl).trans (hS 15 (by decide)).1
          replace H : Sp w0 (rest) wx := H
          have hK : Hid (∀ (v : Value) (w' : World), v = .int .u64 (PBits.num ((l.drop at_).take k) : Nat) → Sp w0 (rest) w' → K (A.put (some 4) v) w') := Lib.hid hK0
          clear hK0 hN hS hE
          change Oper.wp _ _ A wx K _
          go_step
          exact hK.out _ _ rfl (H)
        · intro x wx A rest hN hS hE H K hK0
          have e32 : A.tmps[32]?.getD undef = .int .i64 (k : Int) := ((hS 16 (by decide)).2 32 rfl).trans (hS 16 (by decide)).1
          replace H : Sp w0 (rest) wx := H
          have hK : Hid (∀ (v : Value) (w' : World), v = .int .i64 (k : Int) → Sp w0 (rest) w' → K (A.put (some 5) v) w') := Lib.hid hK0
          clear hK0 hN hS hE
          change Oper.wp _ _ A wx K _
          go_step
          exact hK.out _ _ rfl (H)
      case hend =>
        intro x wx A hA hS H
        replace H : Sp w0 (RwB g (.slice B l.length c) at_ :: Row 4 1 (.slice B l.length c) l.length (cellsB l) :: L) wx := H
        have y17 : x 17 = .int .u64 (PBits.num ((l.drop at_).take k) : Nat) := hS 17 (by decide)
        have y18 : x 18 = .int .i64 (k : Int) := hS 18 (by decide)
        clear hS
        simp only [putAll, Act.put, List.setIfInBounds_toArray, List.set_cons_succ, List.set_cons_zero, Nat.reduceAdd] at hA
        subst hA
        clear hu
        go_wp2
        go_ret2
        refine ⟨?_, rw_shut H⟩
        show Ending.returned (.tuple #[x 17, x 18]) = _
        rw [y17, y18]
    · have ek : (57 : Int) = (k : Int) := by omega
      have hl57' : ¬ (left : Int) < 57 := hl57
      have EK := Lib.hid ek
      clear hk ek
      go_wp2_with fail
      refine (KEY.out _ H).mono ?_
      rintro _ w2 ⟨rfl, K2⟩
      replace H := K2.sep H
      clear K2 hl57
      go_wp2_with fail
      rw [EK.out]
      obtain ⟨B, c, H, _, _, _, _, _, hc1, hc2⟩ := rw_open H
      unfold maxLen at hc2
      obtain ⟨u, hu, hub⟩ : ∃ u : Value, (∀ W : World, (Instr.sliceAt 64 (.slice B l.length c) (some (.int .i64 (at_ : Int))) (some (.int .i64 ((at_ : Int) + (k : Int)))) none).run Try.prog W = .ok u W) ∧ ∀ W, Bls W (.slice B l.length c) l → Bls W u ((l.drop at_).take k) := slice_part B c l at_ k hll hc1 hc2
      have HUB := Lib.hid hub
      clear hub
      refine wp_region_sp (L := RwB g (.slice B l.length c) at_ :: Row 4 1 (.slice B l.length c) l.length (cellsB l) :: L) (fun i v => ([(· = .pointer (some ⟨g, 0, none⟩)), (· = .pointer (some ⟨g, 0, none⟩)), (· = .pointer (some ⟨g, 0, none⟩)), (· = .slice B l.length c), (· = .pointer (some ⟨g, 0, none⟩)), (· = .pointer (some ⟨g, 0, none⟩)), (· = .pointer (some ⟨g, 1, none⟩)), (· = .int .i64 (at_ : Int)), (· = .pointer (some ⟨g, 0, none⟩)), (· = .pointer (some ⟨g, 0, none⟩)), (· = .pointer (some ⟨g, 1, none⟩)), (· = .int .i64 (at_ : Int)), (· = .int .i64 (k : Int)), (· = .int .i64 ((at_ : Int) + (k : Int))), (· = u), (· = .int .u64 (PBits.num ((l.drop at_).take k) : Nat)), (· = .int .i64 (k : Int)), (· = .int .u64 (PBits.num ((l.drop at_).take k) : Nat)), (· = .int .i64 (k : Int))] : List (Value → Prop)).getD i (fun _ => True) v)
        (fun i v => ([fun _ => [], fun _ => [], fun _ => [], fun _ => [], fun _ => [], fun _ => [], fun _ => [], fun _ => [], fun _ => [], fun _ => [], fun _ => [], fun _ => [], fun _ => [], fun _ => [], fun _ => [], fun _ => [], fun _ => [], fun _ => [], fun _ => []] : List (Value → List Pr)).getD i (fun _ => []) v) (fun i => ([[], [], [], [], [], [], [], [], [], [], [], [], [], [], [], [], [], [], []] : List (List Pr)).getD i []) 19 33
        [some 16, some 17, some 18, some 19, some 20, some 21, some 22, some 23, some 24, some 25, some 26, some 27, some 28, some 29, some 30, some 31, some 32, some 4, some 5]
        [[], [0], [1], [2], [], [4], [5], [6], [], [8], [9], [10], [], [11, 12], [3, 7, 13], [14], [], [15, 15, 0, 1, 2, 3, 4, 5, 6, 7, 8, 9, 10, 11, 12, 13, 14, 15], [16, 17, 0, 1, 2, 3, 4, 5, 6, 7, 8, 9, 10, 11, 12, 13, 14, 15, 16, 17]]
        [[], [0], [0, 1], [0, 1, 2], [], [4], [4, 5], [4, 5, 6], [], [8], [8, 9], [8, 9, 10], [], [8, 9, 10, 11, 12], [0, 1, 2, 3, 4, 5, 6, 7, 8, 9, 10, 11, 12, 13], [0, 1, 2, 3, 4, 5, 6, 7, 8, 9, 10, 11, 12, 13, 14], [], [0, 1, 2, 3, 4, 5, 6, 7, 8, 9, 10, 11, 12, 13, 14, 15], [0, 1, 2, 3, 4, 5, 6, 7, 8, 9, 10, 11, 12, 13, 14, 15, 16, 17]]
        [[], [], [], [], [], [], [], [], [], [], [], [], [], [], [], [], [], [], []]
        [[], [], [], [], [], [], [], [], [], [], [], [], [], [], [], [], [], [], []]
        [(0, .pointer (some ⟨g, 0, none⟩)), (1, .int .i64 (k : Int))]
        (by kernel_rfl) rfl (by decide) (by rfl) rfl (by decide +kernel) (by decide +kernel) (by rfl) rfl rfl (by decide) (by simp) (by rfl) (H) ?hstep ?hend
      case hstep =>
        refine ⟨?_, ⟨?_, ⟨?_, ⟨?_, ⟨?_, ⟨?_, ⟨?_, ⟨?_, ⟨?_, ⟨?_, ⟨?_, ⟨?_, ⟨?_, ⟨?_, ⟨?_, ⟨?_, ⟨?_, ⟨?_, ⟨?_, trivial⟩⟩⟩⟩⟩⟩⟩⟩⟩⟩⟩⟩⟩⟩⟩⟩⟩⟩⟩
        · intro x wx A rest hN hS hE H K hK0
          have e0 : A.tmps[0]?.getD undef = .pointer (some ⟨g, 0, none⟩) := hN (0, .pointer (some ⟨g, 0, none⟩)) (by simp)
          replace H : Sp w0 (rest) wx := H
          have hK : Hid (∀ (v : Value) (w' : World), v = .pointer (some ⟨g, 0, none⟩) → Sp w0 (rest) w' → K (A.put (some 16) v) w') := Lib.hid hK0
          clear hK0 hN hS hE
          change Oper.wp _ _ A wx K _
          go_step
          exact hK.out _ _ rfl (H)
        · intro x wx A rest hN hS hE H K hK0
          have e16 : A.tmps[16]?.getD undef = .pointer (some ⟨g, 0, none⟩) := ((hS 0 (by decide)).2 16 rfl).trans (hS 0 (by decide)).1
          replace H : Sp w0 (rest) wx := H
          have hK : Hid (∀ (v : Value) (w' : World), v = .pointer (some ⟨g, 0, none⟩) → Sp w0 (rest) w' → K (A.put (some 17) v) w') := Lib.hid hK0
          clear hK0 hN hS hE
          change Oper.wp _ _ A wx K _
          go_step
          exact hK.out _ _ rfl (H)
        · intro x wx A rest hN hS hE H K hK0
          have e17 : A.tmps[17]?.getD undef = .pointer (some ⟨g, 0, none⟩) := ((hS 1 (by decide)).2 17 rfl).trans (hS 1 (by decide)).1
          replace H : Sp w0 (rest) wx := H
          have hK : Hid (∀ (v : Value) (w' : World), v = .pointer (some ⟨g, 0, none⟩) → Sp w0 (rest) w' → K (A.put (some 18) v) w') := Lib.hid hK0
          clear hK0 hN hS hE
          change Oper.wp _ _ A wx K _
          go_step
          exact hK.out _ _ rfl (H)
        · intro x wx A rest hN hS hE H K hK0
          have e18 : A.tmps[18]?.getD undef = .pointer (some ⟨g, 0, none⟩) := ((hS 2 (by decide)).2 18 rfl).trans (hS 2 (by decide)).1
          replace H : Sp w0 (rest) wx := H
          have hK : Hid (∀ (v : Value) (w' : World), v = .slice B l.length c → Sp w0 (rest) w' → K (A.put (some 19) v) w') := Lib.hid hK0
          clear hK0 hN hS
          have c0 : wx.cell? ⟨g, 0, none⟩ = some (.slice B l.length c) := hE (fun w => w.cell? ⟨g, 0, none⟩ = some (.slice B l.length c)) (fun _ _ H => H.cell 0 rfl 0) _ _ H
          change Oper.wp _ _ A wx K _
          go_step
          exact hK.out _ _ rfl (H)
        · intro x wx A rest hN hS hE H K hK0
          have e0 : A.tmps[0]?.getD undef = .pointer (some ⟨g, 0, none⟩) := hN (0, .pointer (some ⟨g, 0, none⟩)) (by simp)
          replace H : Sp w0 (rest) wx := H
          have hK : Hid (∀ (v : Value) (w' : World), v = .pointer (some ⟨g, 0, none⟩) → Sp w0 (rest) w' → K (A.put (some 20) v) w') := Lib.hid hK0
          clear hK0 hN hS hE
          change Oper.wp _ _ A wx K _
          go_step
          exact hK.out _ _ rfl (H)
        · intro x wx A rest hN hS hE H K hK0
          have e20 : A.tmps[20]?.getD undef = .pointer (some ⟨g, 0, none⟩) := ((hS 4 (by decide)).2 20 rfl).trans (hS 4 (by decide)).1
          replace H : Sp w0 (rest) wx := H
          have hK : Hid (∀ (v : Value) (w' : World), v = .pointer (some ⟨g, 0, none⟩) → Sp w0 (rest) w' → K (A.put (some 21) v) w') := Lib.hid hK0
          clear hK0 hN hS hE
          change Oper.wp _ _ A wx K _
          go_step
          exact hK.out _ _ rfl (H)
        · intro x wx A rest hN hS hE H K hK0
          have e21 : A.tmps[21]?.getD undef = .pointer (some ⟨g, 0, none⟩) := ((hS 5 (by decide)).2 21 rfl).trans (hS 5 (by decide)).1
          replace H : Sp w0 (rest) wx := H
          have hK : Hid (∀ (v : Value) (w' : World), v = .pointer (some ⟨g, 1, none⟩) → Sp w0 (rest) w' → K (A.put (some 22) v) w') := Lib.hid hK0
          clear hK0 hN hS hE
          change Oper.wp _ _ A wx K _
          go_step
          exact hK.out _ _ rfl (H)
        · intro x wx A rest hN hS hE H K hK0
          have e22 : A.tmps[22]?.getD undef = .pointer (some ⟨g, 1, none⟩) := ((hS 6 (by decide)).2 22 rfl).trans (hS 6 (by decide)).1
          replace H : Sp w0 (rest) wx := H
          have hK : Hid (∀ (v : Value) (w' : World), v = .int .i64 (at_ : Int) → Sp w0 (rest) w' → K (A.put (some 23) v) w') := Lib.hid hK0
          clear hK0 hN hS
          have c1 : wx.cell? ⟨g, 1, none⟩ = some (.int .i64 (at_ : Int)) := hE (fun w => w.cell? ⟨g, 1, none⟩ = some (.int .i64 (at_ : Int))) (fun _ _ H => H.cell 0 rfl 1) _ _ H
          change Oper.wp _ _ A wx K _
          go_step
          exact hK.out _ _ rfl (H)
        · intro x wx A rest hN hS hE H K hK0
          have e0 : A.tmps[0]?.getD undef = .pointer (some ⟨g, 0, none⟩) := hN (0, .pointer (some ⟨g, 0, none⟩)) (by simp)
          replace H : Sp w0 (rest) wx := H
          have hK : Hid (∀ (v : Value) (w' : World), v = .pointer (some ⟨g, 0, none⟩) → Sp w0 (rest) w' → K (A.put (some 24) v) w') := Lib.hid hK0
          clear hK0 hN hS hE
          change Oper.wp _ _ A wx K _
          go_step
          exact hK.out _ _ rfl (H)
        · intro x wx A rest hN hS hE H K hK0
          have e24 : A.tmps[24]?.getD undef = .pointer (some ⟨g, 0, none⟩) := ((hS 8 (by decide)).2 24 rfl).trans (hS 8 (by decide)).1
          replace H : Sp w0 (rest) wx := H
          have hK : Hid (∀ (v : Value) (w' : World), v = .pointer (some ⟨g, 0, none⟩) → Sp w0 (rest) w' → K (A.put (some 25) v) w') := Lib.hid hK0
          clear hK0 hN hS hE
          change Oper.wp _ _ A wx K _
          go_step
          exact hK.out _ _ rfl (H)
        · intro x wx A rest hN hS hE H K hK0
          have e25 : A.tmps[25]?.getD undef = .pointer (some ⟨g, 0, none⟩) := ((hS 9 (by decide)).2 25 rfl).trans (hS 9 (by decide)).1
          replace H : Sp w0 (rest) wx := H
          have hK : Hid (∀ (v : Value) (w' : World), v = .pointer (some ⟨g, 1, none⟩) → Sp w0 (rest) w' → K (A.put (some 26) v) w') := Lib.hid hK0
          clear hK0 hN hS hE
          change Oper.wp _ _ A wx K _
          go_step
          exact hK.out _ _ rfl (H)
        · intro x wx A rest hN hS hE H K hK0
          have e26 : A.tmps[26]?.getD undef = .pointer (some ⟨g, 1, none⟩) := ((hS 10 (by decide)).2 26 rfl).trans (hS 10 (by decide)).1
          replace H : Sp w0 (rest) wx := H
          have hK : Hid (∀ (v : Value) (w' : World), v = .int .i64 (at_ : Int) → Sp w0 (rest) w' → K (A.put (some 27) v) w') := Lib.hid hK0
          clear hK0 hN hS
          have c1 : wx.cell? ⟨g, 1, none⟩ = some (.int .i64 (at_ : Int)) := hE (fun w => w.cell? ⟨g, 1, none⟩ = some (.int .i64 (at_ : Int))) (fun _ _ H => H.cell 0 rfl 1) _ _ H
          change Oper.wp _ _ A wx K _
          go_step
          exact hK.out _ _ rfl (H)
        · intro x wx A rest hN hS hE H K hK0
          have e1 : A.tmps[1]?.getD undef = .int .i64 (k : Int) := hN (1, .int .i64 (k : Int)) (by simp)
          replace H : Sp w0 (rest) wx := H
          have hK : Hid (∀ (v : Value) (w' : World), v = .int .i64 (k : Int) → Sp w0 (rest) w' → K (A.put (some 28) v) w') := Lib.hid hK0
          clear hK0 hN hS hE
          change Oper.wp _ _ A wx K _
          go_step
          exact hK.out _ _ rfl (H)
        · intro x wx A rest hN hS hE H K hK0
          have e27 : A.tmps[27]?.getD undef = .int .i64 (at_ : Int) := ((hS 11 (by decide)).2 27 rfl).trans (hS 11 (by decide)).1
          have e28 : A.tmps[28]?.getD undef = .int .i64 (k : Int) := ((hS 12 (by decide)).2 28 rfl).trans (hS 12 (by decide)).1
          replace H : Sp w0 (rest) wx := H
          have hK : Hid (∀ (v : Value) (w' : World), v = .int .i64 ((at_ : Int) + (k : Int)) → Sp w0 (rest) w' → K (A.put (some 29) v) w') := Lib.hid hK0
          clear hK0 hN hS hE
          have hb1 : (at_ : Int) + (k : Int) ≤ 2000000000 := by omega
          change Oper.wp _ _ A wx K _
          go_step
          exact hK.out _ _ rfl (H)
        · intro x wx A rest hN hS hE H K hK0
          have e19 : A.tmps[19]?.getD undef = .slice B l.length c := ((hS 3 (by decide)).2 19 rfl).trans (hS 3 (by decide)).1
          have e23 : A.tmps[23]?.getD undef = .int .i64 (at_ : Int) := ((hS 7 (by decide)).2 23 rfl).trans (hS 7 (by decide)).1
          have e29 : A.tmps[29]?.getD undef = .int .i64 ((at_ : Int) + (k : Int)) := ((hS 13 (by decide)).2 29 rfl).trans (hS 13 (by decide)).1
          replace H : Sp w0 (rest) wx := H
          have hK : Hid (∀ (v : Value) (w' : World), v = u → Sp w0 (rest) w' → K (A.put (some 30) v) w') := Lib.hid hK0
          clear hK0 hN hS hE
          change Oper.wp _ _ A wx K _
          go_step
          exact hK.out _ _ rfl (H)
        · intro x wx A rest hN hS hE H K hK0
          have e30 : A.tmps[30]?.getD undef = u := ((hS 14 (by decide)).2 30 rfl).trans (hS 14 (by decide)).1
          replace H : Sp w0 (rest) wx := H
          have hK : Hid (∀ (v : Value) (w' : World), v = .int .u64 (PBits.num ((l.drop at_).take k) : Nat) → Sp w0 (rest) w' → K (A.put (some 31) v) w') := Lib.hid hK0
          clear hK0 hN hS
          have hb := HUB.out _ (hE (fun w => Bls w (.slice B l.length c) l) (fun _ _ H => H.row_bls 1 rfl) _ _ H)
          change Oper.wp _ _ A wx K _
          go_wp2_with fail
          refine (number_ok _ _ _ hb (by rw [List.length_take]; omega)).mono ?_
          rintro _ w9 ⟨rfl, rfl⟩
          exact hK.out _ _ rfl H
        · intro x wx A rest hN hS hE H K hK0
          have e1 : A.tmps[1]?.getD undef = .int .i64 (k : Int) := hN (1, .int .i64 (k : Int)) (by simp)
          replace H : Sp w0 (rest) wx := H
          have hK : Hid (∀ (v : Value) (w' : World), v = .int .i64 (k : Int) → Sp w0 (rest) w' → K (A.put (some 32) v) w') := Lib.hid hK0
          clear hK0 hN hS hE
          change Oper.wp _ _ A wx K _
          go_step
          exact hK.out _ _ rfl (H)
        · intro x wx A rest hN hS hE H K hK0
          have e31 : A.tmps[31]?.getD undef = .int .u64 (PBits.num ((l.drop at_).take k) : Nat) := ((hS 15 (by decide)).2 31 rfl).trans (hS 15 (by decide)).1
          replace H : Sp w0 (rest) wx := H
          have hK : Hid (∀ (v : Value) (w' : World), v = .int .u64 (PBits.num ((l.drop at_).take k) : Nat) → Sp w0 (rest) w' → K (A.put (some 4) v) w') := Lib.hid hK0
          clear hK0 hN hS hE
          change Oper.wp _ _ A wx K _
          go_step
          exact hK.out _ _ rfl (H)
        · intro x wx A rest hN hS hE H K hK0
          have e32 : A.tmps[32]?.getD undef = .int .i64 (k : Int) := ((hS 16 (by decide)).2 32 rfl).trans (hS 16 (by decide)).1
          replace H : Sp w0 (rest) wx := H
          have hK : Hid (∀ (v : Value) (w' : World), v = .int .i64 (k : Int) → Sp w0 (rest) w' → K (A.put (some 5) v) w') := Lib.hid hK0
          clear hK0 hN hS hE
          change Oper.wp _ _ A wx K _
          go_step
          exact hK.out _ _ rfl (H)
      case hend =>
        intro x wx A hA hS H
        replace H : Sp w0 (RwB g (.slice B l.length c) at_ :: Row 4 1 (.slice B l.length c) l.length (cellsB l) :: L) wx := H
        have y17 : x 17 = .int .u64 (PBits.num ((l.drop at_).take k) : Nat) := hS 17 (by decide)
        have y18 : x 18 = .int .i64 (k : Int) := hS 18 (by decide)
        clear hS
        simp only [putAll, Act.put, List.setIfInBounds_toArray, List.set_cons_succ, List.set_cons_zero, Nat.reduceAdd] at hA
        subst hA
        clear hu
        go_wp2
        go_ret2
        refine ⟨?_, rw_shut H⟩
        show Ending.returned (.tuple #[x 17, x 18]) = _
        rw [y17, y18]
  · by_cases hml : (left : Int) < m
    · have ek : (left : Int) = (k : Int) := by omega
      have EK := Lib.hid ek
      clear hk ek
      go_wp2_with fail
      refine (KEY.out _ H).mono ?_
      rintro _ w2 ⟨rfl, K2⟩
      replace H := K2.sep H
      go_wp2_with fail
      refine (KEY.out _ H).mono ?_
      rintro _ w3 ⟨rfl, K3⟩
      replace H := K3.sep H
      rw [EK.out]
      clear K2 K3 hml
      have hnn : ¬ (k : Int) < 0 := by omega
      go_wp2_with fail
      obtain ⟨B, c, H, _, _, _, _, _, hc1, hc2⟩ := rw_open H
      unfold maxLen at hc2
      obtain ⟨u, hu, hub⟩ : ∃ u : Value, (∀ W : World, (Instr.sliceAt 64 (.slice B l.length c) (some (.int .i64 (at_ : Int))) (some (.int .i64 ((at_ : Int) + (k : Int)))) none).run Try.prog W = .ok u W) ∧ ∀ W, Bls W (.slice B l.length c) l → Bls W u ((l.drop at_).take k) := slice_part B c l at_ k hll hc1 hc2
      have HUB := Lib.hid hub
      clear hub
      refine wp_region_sp (L := RwB g (.slice B l.length c) at_ :: Row 4 1 (.slice B l.length c) l.length (cellsB l) :: L) (fun i v => ([(· = .pointer (some ⟨g, 0, none⟩)), (· = .pointer (some ⟨g, 0, none⟩)), (· = .pointer (some ⟨g, 0, none⟩)), (· = .slice B l.length c), (· = .pointer (some ⟨g, 0, none⟩)), (· = .pointer (some ⟨g, 0, none⟩)), (· = .pointer (some ⟨g, 1, none⟩)), (· = .int .i64 (at_ : Int)), (· = .pointer (some ⟨g, 0, none⟩)), (· = .pointer (some ⟨g, 0, none⟩)), (· = .pointer (some ⟨g, 1, none⟩)), (· = .int .i64 (at_ : Int)), (· = .int .i64 (k : Int)), (· = .int .i64 ((at_ : Int) + (k : Int))), (· = u), (· = .int .u64 (PBits.num ((l.drop at_).take k) : Nat)), (· = .int .i64 (k : Int)), (· = .int .u64 (PBits.num ((l.drop at_).take k) : Nat)), (· = .int .i64 (k : Int))] : List (Value → Prop)).getD i (fun _ => True) v)
        (fun i v => ([fun _ => [], fun _ => [], fun _ => [], fun _ => [], fun _ => [], fun _ => [], fun _ => [], fun _ => [], fun _ => [], fun _ => [], fun _ => [], fun _ => [], fun _ => [], fun _ => [], fun _ => [], fun _ => [], fun _ => [], fun _ => [], fun _ => []] : List (Value → List Pr)).getD i (fun _ => []) v) (fun i => ([[], [], [], [], [], [], [], [], [], [], [], [], [], [], [], [], [], [], []] : List (List Pr)).getD i []) 19 33
        [some 16, some 17, some 18, some 19, some 20, some 21, some 22, some 23, some 24, some 25, some 26, some 27, some 28, some 29, some 30, some 31, some 32, some 4, some 5]
        [[], [0], [1], [2], [], [4], [5], [6], [], [8], [9], [10], [], [11, 12], [3, 7, 13], [14], [], [15, 15, 0, 1, 2, 3, 4, 5, 6, 7, 8, 9, 10, 11, 12, 13, 14, 15], [16, 17, 0, 1, 2, 3, 4, 5, 6, 7, 8, 9, 10, 11, 12, 13, 14, 15, 16, 17]]
        [[], [0], [0, 1], [0, 1, 2], [], [4], [4, 5], [4, 5, 6], [], [8], [8, 9], [8, 9, 10], [], [8, 9, 10, 11, 12], [0, 1, 2, 3, 4, 5, 6, 7, 8, 9, 10, 11, 12, 13], [0, 1, 2, 3, 4, 5, 6, 7, 8, 9, 10, 11, 12, 13, 14], [], [0, 1, 2, 3, 4, 5, 6, 7, 8, 9, 10, 11, 12, 13, 14, 15], [0, 1, 2, 3, 4, 5, 6, 7, 8, 9, 10, 11, 12, 13, 14, 15, 16, 17]]
        [[], [], [], [], [], [], [], [], [], [], [], [], [], [], [], [], [], [], []]
        [[], [], [], [], [], [], [], [], [], [], [], [], [], [], [], [], [], [], []]
        [(0, .pointer (some ⟨g, 0, none⟩)), (1, .int .i64 (k : Int))]
        (by kernel_rfl) rfl (by decide) (by rfl) rfl (by decide +kernel) (by decide +kernel) (by rfl) rfl rfl (by decide) (by simp) (by rfl) (H) ?hstep ?hend
      case hstep =>
        refine ⟨?_, ⟨?_, ⟨?_, ⟨?_, ⟨?_, ⟨?_, ⟨?_, ⟨?_, ⟨?_, ⟨?_, ⟨?_, ⟨?_, ⟨?_, ⟨?_, ⟨?_, ⟨?_, ⟨?_, ⟨?_, ⟨?_, trivial⟩⟩⟩⟩⟩⟩⟩⟩⟩⟩⟩⟩⟩⟩⟩⟩⟩⟩⟩
        · intro x wx A rest hN hS hE H K hK0
          have e0 : A.tmps[0]?.getD undef = .pointer (some ⟨g, 0, none⟩) := hN (0, .pointer (some ⟨g, 0, none⟩)) (by simp)
          replace H : Sp w0 (rest) wx := H
          have hK : Hid (∀ (v : Value) (w' : World), v = .pointer (some ⟨g, 0, none⟩) → Sp w0 (rest) w' → K (A.put (some 16) v) w') := Lib.hid hK0
          clear hK0 hN hS hE
          change Oper.wp _ _ A wx K _
          go_step
          exact hK.out _ _ rfl (H)
        · intro x wx A rest hN hS hE H K hK0
          have e16 : A.tmps[16]?.getD undef = .pointer (some ⟨g, 0, none⟩) := ((hS 0 (by decide)).2 16 rfl).trans (hS 0 (by decide)).1
          replace H : Sp w0 (rest) wx := H
          have hK : Hid (∀ (v : Value) (w' : World), v = .pointer (some ⟨g, 0, none⟩) → Sp w0 (rest) w' → K (A.put (some 17) v) w') := Lib.hid hK0
          clear hK0 hN hS hE
          change Oper.wp _ _ A wx K _
          go_step
          exact hK.out _ _ rfl (H)
        · intro x wx A rest hN hS hE H K hK0
          have e17 : A.tmps[17]?.getD undef = .pointer (some ⟨g, 0, none⟩) := ((hS 1 (by decide)).2 17 rfl).trans (hS 1 (by decide)).1
          replace H : Sp w0 (rest) wx := H
          have hK : Hid (∀ (v : Value) (w' : World), v = .pointer (some ⟨g, 0, none⟩) → Sp w0 (rest) w' → K (A.put (some 18) v) w') := Lib.hid hK0
          clear hK0 hN hS hE
          change Oper.wp _ _ A wx K _
          go_step
          exact hK.out _ _ rfl (H)
        · intro x wx A rest hN hS hE H K hK0
          have e18 : A.tmps[18]?.getD undef = .pointer (some ⟨g, 0, none⟩) := ((hS 2 (by decide)).2 18 rfl).trans (hS 2 (by decide)).1
          replace H : Sp w0 (rest) wx := H
          have hK : Hid (∀ (v : Value) (w' : World), v = .slice B l.length c → Sp w0 (rest) w' → K (A.put (some 19) v) w') := Lib.hid hK0
          clear hK0 hN hS
          have c0 : wx.cell? ⟨g, 0, none⟩ = some (.slice B l.length c) := hE (fun w => w.cell? ⟨g, 0, none⟩ = some (.slice B l.length c)) (fun _ _ H => H.cell 0 rfl 0) _ _ H
          change Oper.wp _ _ A wx K _
          go_step
          exact hK.out _ _ rfl (H)
        · intro x wx A rest hN hS hE H K hK0
          have e0 : A.tmps[0]?.getD undef = .pointer (some ⟨g, 0, none⟩) := hN (0, .pointer (some ⟨g, 0, none⟩)) (by simp)
          replace H : Sp w0 (rest) wx := H
          have hK : Hid (∀ (v : Value) (w' : World), v = .pointer (some ⟨g, 0, none⟩) → Sp w0 (rest) w' → K (A.put (some 20) v) w') := Lib.hid hK0
          clear hK0 hN hS hE
          change Oper.wp _ _ A wx K _
          go_step
          exact hK.out _ _ rfl (H)
        · intro x wx A rest hN hS hE H K hK0
          have e20 : A.tmps[20]?.getD undef = .pointer (some ⟨g, 0, none⟩) := ((hS 4 (by decide)).2 20 rfl).trans (hS 4 (by decide)).1
          replace H : Sp w0 (rest) wx := H
          have hK : Hid (∀ (v : Value) (w' : World), v = .pointer (some ⟨g, 0, none⟩) → Sp w0 (rest) w' → K (A.put (some 21) v) w') := Lib.hid hK0
          clear hK0 hN hS hE
          change Oper.wp _ _ A wx K _
          go_step
          exact hK.out _ _ rfl (H)
        · intro x wx A rest hN hS hE H K hK0
          have e21 : A.tmps[21]?.getD undef = .pointer (some ⟨g, 0, none⟩) := ((hS 5 (by decide)).2 21 rfl).trans (hS 5 (by decide)).1
          replace H : Sp w0 (rest) wx := H
          have hK : Hid (∀ (v : Value) (w' : World), v = .pointer (some ⟨g, 1, none⟩) → Sp w0 (rest) w' → K (A.put (some 22) v) w') := Lib.hid hK0
          clear hK0 hN hS hE
          change Oper.wp _ _ A wx K _
          go_step
          exact hK.out _ _ rfl (H)
        · intro x wx A rest hN hS hE H K hK0
          have e22 : A.tmps[22]?.getD undef = .pointer (some ⟨g, 1, none⟩) := ((hS 6 (by decide)).2 22 rfl).trans (hS 6 (by decide)).1
          replace H : Sp w0 (rest) wx := H
          have hK : Hid (∀ (v : Value) (w' : World), v = .int .i64 (at_ : Int) → Sp w0 (rest) w' → K (A.put (some 23) v) w') := Lib.hid hK0
          clear hK0 hN hS
          have c1 : wx.cell? ⟨g, 1, none⟩ = some (.int .i64 (at_ : Int)) := hE (fun w => w.cell? ⟨g, 1, none⟩ = some (.int .i64 (at_ : Int))) (fun _ _ H => H.cell 0 rfl 1) _ _ H
          change Oper.wp _ _ A wx K _
          go_step
          exact hK.out _ _ rfl (H)
        · intro x wx A rest hN hS hE H K hK0
          have e0 : A.tmps[0]?.getD undef = .pointer (some ⟨g, 0, none⟩) := hN (0, .pointer (some ⟨g, 0, none⟩)) (by simp)
          replace H : Sp w0 (rest) wx := H
          have hK : Hid (∀ (v : Value) (w' : World), v = .pointer (some ⟨g, 0, none⟩) → Sp w0 (rest) w' → K (A.put (some 24) v) w') := Lib.hid hK0
          clear hK0 hN hS hE
          change Oper.wp _ _ A wx K _
          go_step
          exact hK.out _ _ rfl (H)
        · intro x wx A rest hN hS hE H K hK0
          have e24 : A.tmps[24]?.getD undef = .pointer (some ⟨g, 0, none⟩) := ((hS 8 (by decide)).2 24 rfl).trans (hS 8 (by decide)).1
          replace H : Sp w0 (rest) wx := H
          have hK : Hid (∀ (v : Value) (w' : World), v = .pointer (some ⟨g, 0, none⟩) → Sp w0 (rest) w' → K (A.put (some 25) v) w') := Lib.hid hK0
          clear hK0 hN hS hE
          change Oper.wp _ _ A wx K _
          go_step
          exact hK.out _ _ rfl (H)
        · intro x wx A rest hN hS hE H K hK0
          have e25 : A.tmps[25]?.getD undef = .pointer (some ⟨g, 0, none⟩) := ((hS 9 (by decide)).2 25 rfl).trans (hS 9 (by decide)).1
          replace H : Sp w0 (rest) wx := H
          have hK : Hid (∀ (v : Value) (w' : World), v = .pointer (some ⟨g, 1, none⟩) → Sp w0 (rest) w' → K (A.put (some 26) v) w') := Lib.hid hK0
          clear hK0 hN hS hE
          change Oper.wp _ _ A wx K _
          go_step
          exact hK.out _ _ rfl (H)
        · intro x wx A rest hN hS hE H K hK0
          have e26 : A.tmps[26]?.getD undef = .pointer (some ⟨g, 1, none⟩) := ((hS 10 (by decide)).2 26 rfl).trans (hS 10 (by decide)).1
          replace H : Sp w0 (rest) wx := H
          have hK : Hid (∀ (v : Value) (w' : World), v = .int .i64 (at_ : Int) → Sp w0 (rest) w' → K (A.put (some 27) v) w') := Lib.hid hK0
          clear hK0 hN hS
          have c1 : wx.cell? ⟨g, 1, none⟩ = some (.int .i64 (at_ : Int)) := hE (fun w => w.cell? ⟨g, 1, none⟩ = some (.int .i64 (at_ : Int))) (fun _ _ H => H.cell 0 rfl 1) _ _ H
          change Oper.wp _ _ A wx K _
          go_step
          exact hK.out _ _ rfl (H)
        · intro x wx A rest hN hS hE H K hK0
          have e1 : A.tmps[1]?.getD undef = .int .i64 (k : Int) := hN (1, .int .i64 (k : Int)) (by simp)
          replace H : Sp w0 (rest) wx := H
          have hK : Hid (∀ (v : Value) (w' : World), v = .int .i64 (k : Int) → Sp w0 (rest) w' → K (A.put (some 28) v) w') := Lib.hid hK0
          clear hK0 hN hS hE
          change Oper.wp _ _ A wx K _
          go_step
          exact hK.out _ _ rfl (H)
        · intro x wx A rest hN hS hE H K hK0
          have e27 : A.tmps[27]?.getD undef = .int .i64 (at_ : Int) := ((hS 11 (by decide)).2 27 rfl).trans (hS 11 (by decide)).1
          have e28 : A.tmps[28]?.getD undef = .int .i64 (k : Int) := ((hS 12 (by decide)).2 28 rfl).trans (hS 12 (by decide)).1
          replace H : Sp w0 (rest) wx := H
          have hK : Hid (∀ (v : Value) (w' : World), v = .int .i64 ((at_ : Int) + (k : Int)) → Sp w0 (rest) w' → K (A.put (some 29) v) w') := Lib.hid hK0
          clear hK0 hN hS hE
          have hb1 : (at_ : Int) + (k : Int) ≤ 2000000000 := by omega
          change Oper.wp _ _ A wx K _
          go_step
          exact hK.out _ _ rfl (H)
        · intro x wx A rest hN hS hE H K hK0
          have e19 : A.tmps[19]?.getD undef = .slice B l.length c := ((hS 3 (by decide)).2 19 rfl).trans (hS 3 (by decide)).1
          have e23 : A.tmps[23]?.getD undef = .int .i64 (at_ : Int) := ((hS 7 (by decide)).2 23 rfl).trans (hS 7 (by decide)).1
          have e29 : A.tmps[29]?.getD undef = .int .i64 ((at_ : Int) + (k : Int)) := ((hS 13 (by decide)).2 29 rfl).trans (hS 13 (by decide)).1
          replace H : Sp w0 (rest) wx := H
          have hK : Hid (∀ (v : Value) (w' : World), v = u → Sp w0 (rest) w' → K (A.put (some 30) v) w') := Lib.hid hK0
          clear hK0 hN hS hE
          change Oper.wp _ _ A wx K _
          go_step
          exact hK.out _ _ rfl (H)
        · intro x wx A rest hN hS hE H K hK0
          have e30 : A.tmps[30]?.getD undef = u := ((hS 14 (by decide)).2 30 rfl).trans (hS 14 (by decide)).1
          replace H : Sp w0 (rest) wx := H
          have hK : Hid (∀ (v : Value) (w' : World), v = .int .u64 (PBits.num ((l.drop at_).take k) : Nat) → Sp w0 (rest) w' → K (A.put (some 31) v) w') := Lib.hid hK0
          clear hK0 hN hS
          have hb := HUB.out _ (hE (fun w => Bls w (.slice B l.length c) l) (fun _ _ H => H.row_bls 1 rfl) _ _ H)
          change Oper.wp _ _ A wx K _
          go_wp2_with fail
          refine (number_ok _ _ _ hb (by rw [List.length_take]; omega)).mono ?_
          rintro _ w9 ⟨rfl, rfl⟩
          exact hK.out _ _ rfl H
        · intro x wx A rest hN hS hE H K hK0
          have e1 : A.tmps[1]?.getD undef = .int .i64 (k : Int) := hN (1, .int .i64 (k : Int)) (by simp)
          replace H : Sp w0 (rest) wx := H
          have hK : Hid (∀ (v : Value) (w' : World), v = .int .i64 (k : Int) → Sp w0 (rest) w' → K (A.put (some 32) v) w') := Lib.hid hK0
          clear hK0 hN hS hE
          change Oper.wp _ _ A wx K _
          go_step
          exact hK.out _ _ rfl (H)
        · intro x wx A rest hN hS hE H K hK0
          have e31 : A.tmps[31]?.getD undef = .int .u64 (PBits.num ((l.drop at_).take k) : Nat) := ((hS 15 (by decide)).2 31 rfl).trans (hS 15 (by decide)).1
          replace H : Sp w0 (rest) wx := H
          have hK : Hid (∀ (v : Value) (w' : World), v = .int .u64 (PBits.num ((l.drop at_).take k) : Nat) → Sp w0 (rest) w' → K (A.put (some 4) v) w') := Lib.hid hK0
          clear hK0 hN hS hE
          change Oper.wp _ _ A wx K _
          go_step
          exact hK.out _ _ rfl (H)
        · intro x wx A rest hN hS hE H K hK0
          have e32 : A.tmps[32]?.getD undef = .int .i64 (k : Int) := ((hS 16 (by decide)).2 32 rfl).trans (hS 16 (by decide)).1
          replace H : Sp w0 (rest) wx := H
          have hK : Hid (∀ (v : Value) (w' : World), v = .int .i64 (k : Int) → Sp w0 (rest) w' → K (A.put (some 5) v) w') := Lib.hid hK0
          clear hK0 hN hS hE
          change Oper.wp _ _ A wx K _
          go_step
          exact hK.out _ _ rfl (H)
      case hend =>
        intro x wx A hA hS H
        replace H : Sp w0 (RwB g (.slice B l.length c) at_ :: Row 4 1 (.slice B l.length c) l.length (cellsB l) :: L) wx := H
        have y17 : x 17 = .int .u64 (PBits.num ((l.drop at_).take k) : Nat) := hS 17 (by decide)
        have y18 : x 18 = .int .i64 (k : Int) := hS 18 (by decide)
        clear hS
        simp only [putAll, Act.put, List.setIfInBounds_toArray, List.set_cons_succ, List.set_cons_zero, Nat.reduceAdd] at hA
        subst hA
        clear hu
        go_wp2
        go_ret2
        refine ⟨?_, rw_shut H⟩
        show Ending.returned (.tuple #[x 17, x 18]) = _
        rw [y17, y18]
    · by_cases hm0 : m < 0
      · have ek : (0 : Int) = (k : Int) := by omega
        have EK := Lib.hid ek
        clear hk ek
        go_wp2_with fail
        refine (KEY.out _ H).mono ?_
        rintro _ w2 ⟨rfl, K2⟩
        replace H := K2.sep H
        clear K2
        go_wp2_with fail
        rw [EK.out]
        obtain ⟨B, c, H, _, _, _, _, _, hc1, hc2⟩ := rw_open H
        unfold maxLen at hc2
        obtain ⟨u, hu, hub⟩ : ∃ u : Value, (∀ W : World, (Instr.sliceAt 64 (.slice B l.length c) (some (.int .i64 (at_ : Int))) (some (.int .i64 ((at_ : Int) + (k : Int)))) none).run Try.prog W = .ok u W) ∧ ∀ W, Bls W (.slice B l.length c) l → Bls W u ((l.drop at_).take k) := slice_part B c l at_ k hll hc1 hc2
        have HUB := Lib.hid hub
        clear hub
        refine wp_region_sp (L := RwB g (.slice B l.length c) at_ :: Row 4 1 (.slice B l.length c) l.length (cellsB l) :: L) (fun i v => ([(· = .pointer (some ⟨g, 0, none⟩)), (· = .pointer (some ⟨g, 0, none⟩)), (· = .pointer (some ⟨g, 0, none⟩)), (· = .slice B l.length c), (· = .pointer (some ⟨g, 0, none⟩)), (· = .pointer (some ⟨g, 0, none⟩)), (· = .pointer (some ⟨g, 1, none⟩)), (· = .int .i64 (at_ : Int)), (· = .pointer (some ⟨g, 0, none⟩)), (· = .pointer (some ⟨g, 0, none⟩)), (· = .pointer (some ⟨g, 1, none⟩)), (· = .int .i64 (at_ : Int)), (· = .int .i64 (k : Int)), (· = .int .i64 ((at_ : Int) + (k : Int))), (· = u), (· = .int .u64 (PBits.num ((l.drop at_).take k) : Nat)), (· = .int .i64 (k : Int)), (· = .int .u64 (PBits.num ((l.drop at_).take k) : Nat)), (· = .int .i64 (k : Int))] : List (Value → Prop)).getD i (fun _ => True) v)
          (fun i v => ([fun _ => [], fun _ => [], fun _ => [], fun _ => [], fun _ => [], fun _ => [], fun _ => [], fun _ => [], fun _ => [], fun _ => [], fun _ => [], fun _ => [], fun _ => [], fun _ => [], fun _ => [], fun _ => [], fun _ => [], fun _ => [], fun _ => []] : List (Value → List Pr)).getD i (fun _ => []) v) (fun i => ([[], [], [], [], [], [], [], [], [], [], [], [], [], [], [], [], [], [], []] : List (List Pr)).getD i []) 19 33
          [some 16, some 17, some 18, some 19, some 20, some 21, some 22, some 23, some 24, some 25, some 26, some 27, some 28, some 29, some 30, some 31, some 32, some 4, some 5]
          [[], [0], [1], [2], [], [4], [5], [6], [], [8], [9], [10], [], [11, 12], [3, 7, 13], [14], [], [15, 15, 0, 1, 2, 3, 4, 5, 6, 7, 8, 9, 10, 11, 12, 13, 14, 15], [16, 17, 0, 1, 2, 3, 4, 5, 6, 7, 8, 9, 10, 11, 12, 13, 14, 15, 16, 17]]
          [[], [0], [0, 1], [0, 1, 2], [], [4], [4, 5], [4, 5, 6], [], [8], [8, 9], [8, 9, 10], [], [8, 9, 10, 11, 12], [0, 1, 2, 3, 4, 5, 6, 7, 8, 9, 10, 11, 12, 13], [0, 1, 2, 3, 4, 5, 6, 7, 8, 9, 10, 11, 12, 13, 14], [], [0, 1, 2, 3, 4, 5, 6, 7, 8, 9, 10, 11, 12, 13, 14, 15], [0, 1, 2, 3, 4, 5, 6, 7, 8, 9, 10, 11, 12, 13, 14, 15, 16, 17]]
          [[], [], [], [], [], [], [], [], [], [], [], [], [], [], [], [], [], [], []]
          [[], [], [], [], [], [], [], [], [], [], [], [], [], [], [], [], [], [], []]
          [(0, .pointer (some ⟨g, 0, none⟩)), (1, .int .i64 (k : Int))]
          (by kernel_rfl) rfl (by decide) (by rfl) rfl (by decide +kernel) (by decide +kernel) (by rfl) rfl rfl (by decide) (by simp) (by rfl) (H) ?hstep ?hend
        case hstep =>
          refine ⟨?_, ⟨?_, ⟨?_, ⟨?_, ⟨?_, ⟨?_, ⟨?_, ⟨?_, ⟨?_, ⟨?_, ⟨?_, ⟨?_, ⟨?_, ⟨?_, ⟨?_, ⟨?_, ⟨?_, ⟨?_, ⟨?_, trivial⟩⟩⟩⟩⟩⟩⟩⟩⟩⟩⟩⟩⟩⟩⟩⟩⟩⟩⟩
          · intro x wx A rest hN hS hE H K hK0
            have e0 : A.tmps[0]?.getD undef = .pointer (some ⟨g, 0, none⟩) := hN (0, .pointer (some ⟨g, 0, none⟩)) (by simp)
            replace H : Sp w0 (rest) wx := H
            have hK : Hid (∀ (v : Value) (w' : World), v = .pointer (some ⟨g, 0, none⟩) → Sp w0 (rest) w' → K (A.put (some 16) v) w') := Lib.hid hK0
            clear hK0 hN hS hE
            change Oper.wp _ _ A wx K _
            go_step
            exact hK.out _ _ rfl (H)
          · intro x wx A rest hN hS hE H K hK0
            have e16 : A.tmps[16]?.getD undef = .pointer (some ⟨g, 0, none⟩) := ((hS 0 (by decide)).2 16 rfl).trans (hS 0 (by decide)).1
            replace H : Sp w0 (rest) wx := H
            have hK : Hid (∀ (v : Value) (w' : World), v = .pointer (some ⟨g, 0, none⟩) → Sp w0 (rest) w' → K (A.put (some 17) v) w') := Lib.hid hK0
            clear hK0 hN hS hE
            change Oper.wp _ _ A wx K _
            go_step
            exact hK.out _ _ rfl (H)
          · intro x wx A rest hN hS hE H K hK0
            have e17 : A.tmps[17]?.getD undef = .pointer (some ⟨g, 0, none⟩) := ((hS 1 (by decide)).2 17 rfl).trans (hS 1 (by decide)).1
            replace H : Sp w0 (rest) wx := H
            have hK : Hid (∀ (v : Value) (w' : World), v = .pointer (some ⟨g, 0, none⟩) → Sp w0 (rest) w' → K (A.put (some 18) v) w') := Lib.hid hK0
            clear hK0 hN hS hE
            change Oper.wp _ _ A wx K _
            go_step
            exact hK.out _ _ rfl (H)
          · intro x wx A rest hN hS hE H K hK0
            have e18 : A.tmps[18]?.getD undef = .pointer (some ⟨g, 0, none⟩) := ((hS 2 (by decide)).2 18 rfl).trans (hS 2 (by decide)).1
            replace H : Sp w0 (rest) wx := H
            have hK : Hid (∀ (v : Value) (w' : World), v = .slice B l.length c → Sp w0 (rest) w' → K (A.put (some 19) v) w') := Lib.hid hK0
            clear hK0 hN hS
            have c0 : wx.cell? ⟨g, 0, none⟩ = some (.slice B l.length c) := hE (fun w => w.cell? ⟨g, 0, none⟩ = some (.slice B l.length c)) (fun _ _ H => H.cell 0 rfl 0) _ _ H
            change Oper.wp _ _ A wx K _
            go_step
            exact hK.out _ _ rfl (H)
          · intro x wx A rest hN hS hE H K hK0
            have e0 : A.tmps[0]?.getD undef = .pointer (some ⟨g, 0, none⟩) := hN (0, .pointer (some ⟨g, 0, none⟩)) (by simp)
            replace H : Sp w0 (rest) wx := H
            have hK : Hid (∀ (v : Value) (w' : World), v = .pointer (some ⟨g, 0, none⟩) → Sp w0 (rest) w' → K (A.put (some 20) v) w') := Lib.hid hK0
            clear hK0 hN hS hE
            change Oper.wp _ _ A wx K _
            go_step
            exact hK.out _ _ rfl (H)
          · intro x wx A rest hN hS hE H K hK0
            have e20 : A.tmps[20]?.getD undef = .pointer (some ⟨g, 0, none⟩) := ((hS 4 (by decide)).2 20 rfl).trans (hS 4 (by decide)).1
            replace H : Sp w0 (rest) wx := H
            have hK : Hid (∀ (v : Value) (w' : World), v = .pointer (some ⟨g, 0, none⟩) → Sp w0 (rest) w' → K (A.put (some 21) v) w') := Lib.hid hK0
            clear hK0 hN hS hE
            change Oper.wp _ _ A wx K _
            go_step
            exact hK.out _ _ rfl (H)
          · intro x wx A rest hN hS hE H K hK0
            have e21 : A.tmps[21]?.getD undef = .pointer (some ⟨g, 0, none⟩) := ((hS 5 (by decide)).2 21 rfl).trans (hS 5 (by decide)).1
            replace H : Sp w0 (rest) wx := H
            have hK : Hid (∀ (v : Value) (w' : World), v = .pointer (some ⟨g, 1, none⟩) → Sp w0 (rest) w' → K (A.put (some 22) v) w') := Lib.hid hK0
            clear hK0 hN hS hE
            change Oper.wp _ _ A wx K _
            go_step
            exact hK.out _ _ rfl (H)
          · intro x wx A rest hN hS hE H K hK0
            have e22 : A.tmps[22]?.getD undef = .pointer (some ⟨g, 1, none⟩) := ((hS 6 (by decide)).2 22 rfl).trans (hS 6 (by decide)).1
            replace H : Sp w0 (rest) wx := H
            have hK : Hid (∀ (v : Value) (w' : World), v = .int .i64 (at_ : Int) → Sp w0 (rest) w' → K (A.put (some 23) v) w') := Lib.hid hK0
            clear hK0 hN hS
            have c1 : wx.cell? ⟨g, 1, none⟩ = some (.int .i64 (at_ : Int)) := hE (fun w => w.cell? ⟨g, 1, none⟩ = some (.int .i64 (at_ : Int))) (fun _ _ H => H.cell 0 rfl 1) _ _ H
            change Oper.wp _ _ A wx K _
            go_step
            exact hK.out _ _ rfl (H)
          · intro x wx A rest hN hS hE H K hK0
            have e0 : A.tmps[0]?.getD undef = .pointer (some ⟨g, 0, none⟩) := hN (0, .pointer (some ⟨g, 0, none⟩)) (by simp)
            replace H : Sp w0 (rest) wx := H
            have hK : Hid (∀ (v : Value) (w' : World), v = .pointer (some ⟨g, 0, none⟩) → Sp w0 (rest) w' → K (A.put (some 24) v) w') := Lib.hid hK0
            clear hK0 hN hS hE
            change Oper.wp _ _ A wx K _
            go_step
            exact hK.out _ _ rfl (H)
          · intro x wx A rest hN hS hE H K hK0
            have e24 : A.tmps[24]?.getD undef = .pointer (some ⟨g, 0, none⟩) := ((hS 8 (by decide)).2 24 rfl).trans (hS 8 (by decide)).1
            replace H : Sp w0 (rest) wx := H
            have hK : Hid (∀ (v : Value) (w' : World), v = .pointer (some ⟨g, 0, none⟩) → Sp w0 (rest) w' → K (A.put (some 25) v) w') := Lib.hid hK0
            clear hK0 hN hS hE
            change Oper.wp _ _ A wx K _
            go_step
            exact hK.out _ _ rfl (H)
          · intro x wx A rest hN hS hE H K hK0
            have e25 : A.tmps[25]?.getD undef = .pointer (some ⟨g, 0, none⟩) := ((hS 9 (by decide)).2 25 rfl).trans (hS 9 (by decide)).1
            replace H : Sp w0 (rest) wx := H
            have hK : Hid (∀ (v : Value) (w' : World), v = .pointer (some ⟨g, 1, none⟩) → Sp w0 (rest) w' → K (A.put (some 26) v) w') := Lib.hid hK0
            clear hK0 hN hS hE
            change Oper.wp _ _ A wx K _
            go_step
            exact hK.out _ _ rfl (H)
          · intro x wx A rest hN hS hE H K hK0
            have e26 : A.tmps[26]?.getD undef = .pointer (some ⟨g, 1, none⟩) := ((hS 10 (by decide)).2 26 rfl).trans (hS 10 (by decide)).1
            replace H : Sp w0 (rest) wx := H
            have hK : Hid (∀ (v : Value) (w' : World), v = .int .i64 (at_ : Int) → Sp w0 (rest) w' → K (A.put (some 27) v) w') := Lib.hid hK0
            clear hK0 hN hS
            have c1 : wx.cell? ⟨g, 1, none⟩ = some (.int .i64 (at_ : Int)) := hE (fun w => w.cell? ⟨g, 1, none⟩ = some (.int .i64 (at_ : Int))) (fun _ _ H => H.cell 0 rfl 1) _ _ H
            change Oper.wp _ _ A wx K _
            go_step
            exact hK.out _ _ rfl (H)
          · intro x wx A rest hN hS hE H K hK0
            have e1 : A.tmps[1]?.getD undef = .int .i64 (k : Int) := hN (1, .int .i64 (k : Int)) (by simp)
            replace H : Sp w0 (rest) wx := H
            have hK : Hid (∀ (v : Value) (w' : World), v = .int .i64 (k : Int) → Sp w0 (rest) w' → K (A.put (some 28) v) w') := Lib.hid hK0
            clear hK0 hN hS hE
            change Oper.wp _ _ A wx K _
            go_step
            exact hK.out _ _ rfl (H)
          · intro x wx A rest hN hS hE H K hK0
            have e27 : A.tmps[27]?.getD undef = .int .i64 (at_ : Int) := ((hS 11 (by decide)).2 27 rfl).trans (hS 11 (by decide)).1
            have e28 : A.tmps[28]?.getD undef = .int .i64 (k : Int) := ((hS 12 (by decide)).2 28 rfl).trans (hS 12 (by decide)).1
            replace H : Sp w0 (rest) wx := H
            have hK : Hid (∀ (v : Value) (w' : World), v = .int .i64 ((at_ : Int) + (k : Int)) → Sp w0 (rest) w' → K (A.put (some 29) v) w') := Lib.hid hK0
            clear hK0 hN hS hE
            have hb1 : (at_ : Int) + (k : Int) ≤ 2000000000 := by omega
            change Oper.wp _ _ A wx K _
            go_step
            exact hK.out _ _ rfl (H)
          · intro x wx A rest hN hS hE H K hK0
            have e19 : A.tmps[19]?.getD undef = .slice B l.length c := ((hS 3 (by decide)).2 19 rfl).trans (hS 3 (by decide)).1
            have e23 : A.tmps[23]?.getD undef = .int .i64 (at_ : Int) := ((hS 7 (by decide)).2 23 rfl).trans (hS 7 (by decide)).1
            have e29 : A.tmps[29]?.getD undef = .int .i64 ((at_ : Int) + (k : Int)) := ((hS 13 (by decide)).2 29 rfl).trans (hS 13 (by decide)).1
            replace H : Sp w0 (rest) wx := H
            have hK : Hid (∀ (v : Value) (w' : World), v = u → Sp w0 (rest) w' → K (A.put (some 30) v) w') := Lib.hid hK0
            clear hK0 hN hS hE
            change Oper.wp _ _ A wx K _
            go_step
            exact hK.out _ _ rfl (H)
          · intro x wx A rest hN hS hE H K hK0
            have e30 : A.tmps[30]?.getD undef = u := ((hS 14 (by decide)).2 30 rfl).trans (hS 14 (by decide)).1
            replace H : Sp w0 (rest) wx := H
            have hK : Hid (∀ (v : Value) (w' : World), v = .int .u64 (PBits.num ((l.drop at_).take k) : Nat) → Sp w0 (rest) w' → K (A.put (some 31) v) w') := Lib.hid hK0
            clear hK0 hN hS
            have hb := HUB.out _ (hE (fun w => Bls w (.slice B l.length c) l) (fun _ _ H => H.row_bls 1 rfl) _ _ H)
            change Oper.wp _ _ A wx K _
            go_wp2_with fail
            refine (number_ok _ _ _ hb (by rw [List.length_take]; omega)).mono ?_
            rintro _ w9 ⟨rfl, rfl⟩
            exact hK.out _ _ rfl H
          · intro x wx A rest hN hS hE H K hK0
            have e1 : A.tmps[1]?.getD undef = .int .i64 (k : Int) := hN (1, .int .i64 (k : Int)) (by simp)
            replace H : Sp w0 (rest) wx := H
            have hK : Hid (∀ (v : Value) (w' : World), v = .int .i64 (k : Int) → Sp w0 (rest) w' → K (A.put (some 32) v) w') := Lib.hid hK0
            clear hK0 hN hS hE
            change Oper.wp _ _ A wx K _
            go_step
            exact hK.out _ _ rfl (H)
          · intro x wx A rest hN hS hE H K hK0
            have e31 : A.tmps[31]?.getD undef = .int .u64 (PBits.num ((l.drop at_).take k) : Nat) := ((hS 15 (by decide)).2 31 rfl).trans (hS 15 (by decide)).1
            replace H : Sp w0 (rest) wx := H
            have hK : Hid (∀ (v : Value) (w' : World), v = .int .u64 (PBits.num ((l.drop at_).take k) : Nat) → Sp w0 (rest) w' → K (A.put (some 4) v) w') := Lib.hid hK0
            clear hK0 hN hS hE
            change Oper.wp _ _ A wx K _
            go_step
            exact hK.out _ _ rfl (H)
          · intro x wx A rest hN hS hE H K hK0
            have e32 : A.tmps[32]?.getD undef = .int .i64 (k : Int) := ((hS 16 (by decide)).2 32 rfl).trans (hS 16 (by decide)).1
            replace H : Sp w0 (rest) wx := H
            have hK : Hid (∀ (v : Value) (w' : World), v = .int .i64 (k : Int) → Sp w0 (rest) w' → K (A.put (some 5) v) w') := Lib.hid hK0
            clear hK0 hN hS hE
            change Oper.wp _ _ A wx K _
            go_step
            exact hK.out _ _ rfl (H)
        case hend =>
          intro x wx A hA hS H
          replace H : Sp w0 (RwB g (.slice B l.length c) at_ :: Row 4 1 (.slice B l.length c) l.length (cellsB l) :: L) wx := H
          have y17 : x 17 = .int .u64 (PBits.num ((l.drop at_).take k) : Nat) := hS 17 (by decide)
          have y18 : x 18 = .int .i64 (k : Int) := hS 18 (by decide)
          clear hS
          simp only [putAll, Act.put, List.setIfInBounds_toArray, List.set_cons_succ, List.set_cons_zero, Nat.reduceAdd] at hA
          subst hA
          clear hu
          go_wp2
          go_ret2
          refine ⟨?_, rw_shut H⟩
          show Ending.returned (.tuple #[x 17, x 18]) = _
          rw [y17, y18]
      · obtain rfl : m = (k : Int) := by omega
        clear hk
        go_wp2_with fail
        refine (KEY.out _ H).mono ?_
        rintro _ w2 ⟨rfl, K2⟩
        replace H := K2.sep H
        clear K2
        go_wp2_with fail
        obtain ⟨B, c, H, _, _, _, _, _, hc1, hc2⟩ := rw_open H
        unfold maxLen at hc2
        obtain ⟨u, hu, hub⟩ : ∃ u : Value, (∀ W : World, (Instr.sliceAt 64 (.slice B l.length c) (some (.int .i64 (at_ : Int))) (some (.int .i64 ((at_ : Int) + (k : Int)))) none).run Try.prog W = .ok u W) ∧ ∀ W, Bls W (.slice B l.length c) l → Bls W u ((l.drop at_).take k) := slice_part B c l at_ k hll hc1 hc2
        have HUB := Lib.hid hub
        clear hub
        refine wp_region_sp (L := RwB g (.slice B l.length c) at_ :: Row 4 1 (.slice B l.length c) l.length (cellsB l) :: L) (fun i v => ([(· = .pointer (some ⟨g, 0, none⟩)), (· = .pointer (some ⟨g, 0, none⟩)), (· = .pointer (some ⟨g, 0, none⟩)), (· = .slice B l.length c), (· = .pointer (some ⟨g, 0, none⟩)), (· = .pointer (some ⟨g, 0, none⟩)), (· = .pointer (some ⟨g, 1, none⟩)), (· = .int .i64 (at_ : Int)), (· = .pointer (some ⟨g, 0, none⟩)), (· = .pointer (some ⟨g, 0, none⟩)), (· = .pointer (some ⟨g, 1, none⟩)), (· = .int .i64 (at_ : Int)), (· = .int .i64 (k : Int)), (· = .int .i64 ((at_ : Int) + (k : Int))), (· = u), (· = .int .u64 (PBits.num ((l.drop at_).take k) : Nat)), (· = .int .i64 (k : Int)), (· = .int .u64 (PBits.num ((l.drop at_).take k) : Nat)), (· = .int .i64 (k : Int))] : List (Value → Prop)).getD i (fun _ => True) v)
          (fun i v => ([fun _ => [], fun _ => [], fun _ => [], fun _ => [], fun _ => [], fun _ => [], fun _ => [], fun _ => [], fun _ => [], fun _ => [], fun _ => [], fun _ => [], fun _ => [], fun _ => [], fun _ => [], fun _ => [], fun _ => [], fun _ => [], fun _ => []] : List (Value → List Pr)).getD i (fun _ => []) v) (fun i => ([[], [], [], [], [], [], [], [], [], [], [], [], [], [], [], [], [], [], []] : List (List Pr)).getD i []) 19 33
          [some 16, some 17, some 18, some 19, some 20, some 21, some 22, some 23, some 24, some 25, some 26, some 27, some 28, some 29, some 30, some 31, some 32, some 4, some 5]
          [[], [0], [1], [2], [], [4], [5], [6], [], [8], [9], [10], [], [11, 12], [3, 7, 13], [14], [], [15, 15, 0, 1, 2, 3, 4, 5, 6, 7, 8, 9, 10, 11, 12, 13, 14, 15], [16, 17, 0, 1, 2, 3, 4, 5, 6, 7, 8, 9, 10, 11, 12, 13, 14, 15, 16, 17]]
          [[], [0], [0, 1], [0, 1, 2], [], [4], [4, 5], [4, 5, 6], [], [8], [8, 9], [8, 9, 10], [], [8, 9, 10, 11, 12], [0, 1, 2, 3, 4, 5, 6, 7, 8, 9, 10, 11, 12, 13], [0, 1, 2, 3, 4, 5, 6, 7, 8, 9, 10, 11, 12, 13, 14], [], [0, 1, 2, 3, 4, 5, 6, 7, 8, 9, 10, 11, 12, 13, 14, 15], [0, 1, 2, 3, 4, 5, 6, 7, 8, 9, 10, 11, 12, 13, 14, 15, 16, 17]]
          [[], [], [], [], [], [], [], [], [], [], [], [], [], [], [], [], [], [], []]
          [[], [], [], [], [], [], [], [], [], [], [], [], [], [], [], [], [], [], []]
          [(0, .pointer (some ⟨g, 0, none⟩)), (1, .int .i64 (k : Int))]
          (by kernel_rfl) rfl (by decide) (by rfl) rfl (by decide +kernel) (by decide +kernel) (by rfl) rfl rfl (by decide) (by simp) (by rfl) (H) ?hstep ?hend
        case hstep =>
          refine ⟨?_, ⟨?_, ⟨?_, ⟨?_, ⟨?_, ⟨?_, ⟨?_, ⟨?_, ⟨?_, ⟨?_, ⟨?_, ⟨?_, ⟨?_, ⟨?_, ⟨?_, ⟨?_, ⟨?_, ⟨?_, ⟨?_, trivial⟩⟩⟩⟩⟩⟩⟩⟩⟩⟩⟩⟩⟩⟩⟩⟩⟩⟩⟩
          · intro x wx A rest hN hS hE H K hK0
            have e0 : A.tmps[0]?.getD undef = .pointer (some ⟨g, 0, none⟩) := hN (0, .pointer (some ⟨g, 0, none⟩)) (by simp)
            replace H : Sp w0 (rest) wx := H
            have hK : Hid (∀ (v : Value) (w' : World), v = .pointer (some ⟨g, 0, none⟩) → Sp w0 (rest) w' → K (A.put (some 16) v) w') := Lib.hid hK0
            clear hK0 hN hS hE
            change Oper.wp _ _ A wx K _
            go_step
            exact hK.out _ _ rfl (H)
          · intro x wx A rest hN hS hE H K hK0
            have e16 : A.tmps[16]?.getD undef = .pointer (some ⟨g, 0, none⟩) := ((hS 0 (by decide)).2 16 rfl).trans (hS 0 (by decide)).1
            replace H : Sp w0 (rest) wx := H
            have hK : Hid (∀ (v : Value) (w' : World), v = .pointer (some ⟨g, 0, none⟩) → Sp w0 (rest) w' → K (A.put (some 17) v) w') := Lib.hid hK0
            clear hK0 hN hS hE
            change Oper.wp _ _ A wx K _
            go_step
            exact hK.out _ _ rfl (H)
          · intro x wx A rest hN hS hE H K hK0
            have e17 : A.tmps[17]?.getD undef = .pointer (some ⟨g, 0, none⟩) := ((hS 1 (by decide)).2 17 rfl).trans (hS 1 (by decide)).1
            replace H : Sp w0 (rest) wx := H
            have hK : Hid (∀ (v : Value) (w' : World), v = .pointer (some ⟨g, 0, none⟩) → Sp w0 (rest) w' → K (A.put (some 18) v) w') := Lib.hid hK0
            clear hK0 hN hS hE
            change Oper.wp _ _ A wx K _
            go_step
            exact hK.out _ _ rfl (H)
          · intro x wx A rest hN hS hE H K hK0
            have e18 : A.tmps[18]?.getD undef = .pointer (some ⟨g, 0, none⟩) := ((hS 2 (by decide)).2 18 rfl).trans (hS 2 (by decide)).1
            replace H : Sp w0 (rest) wx := H
            have hK : Hid (∀ (v : Value) (w' : World), v = .slice B l.length c → Sp w0 (rest) w' → K (A.put (some 19) v) w') := Lib.hid hK0
            clear hK0 hN hS
            have c0 : wx.cell? ⟨g, 0, none⟩ = some (.slice B l.length c) := hE (fun w => w.cell? ⟨g, 0, none⟩ = some (.slice B l.length c)) (fun _ _ H => H.cell 0 rfl 0) _ _ H
            change Oper.wp _ _ A wx K _
            go_step
            exact hK.out _ _ rfl (H)
          · intro x wx A rest hN hS hE H K hK0
            have e0 : A.tmps[0]?.getD undef = .pointer (some ⟨g, 0, none⟩) := hN (0, .pointer (some ⟨g, 0, none⟩)) (by simp)
            replace H : Sp w0 (rest) wx := H
            have hK : Hid (∀ (v : Value) (w' : World), v = .pointer (some ⟨g, 0, none⟩) → Sp w0 (rest) w' → K (A.put (some 20) v) w') := Lib.hid hK0
            clear hK0 hN hS hE
            change Oper.wp _ _ A wx K _
            go_step
            exact hK.out _ _ rfl (H)
          · intro x wx A rest hN hS hE H K hK0
            have e20 : A.tmps[20]?.getD undef = .pointer (some ⟨g, 0, none⟩) := ((hS 4 (by decide)).2 20 rfl).trans (hS 4 (by decide)).1
            replace H : Sp w0 (rest) wx := H
            have hK : Hid (∀ (v : Value) (w' : World), v = .pointer (some ⟨g, 0, none⟩) → Sp w0 (rest) w' → K (A.put (some 21) v) w') := Lib.hid hK0
            clear hK0 hN hS hE
            change Oper.wp _ _ A wx K _
            go_step
            exact hK.out _ _ rfl (H)
          · intro x wx A rest hN hS hE H K hK0
            have e21 : A.tmps[21]?.getD undef = .pointer (some ⟨g, 0, none⟩) := ((hS 5 (by decide)).2 21 rfl).trans (hS 5 (by decide)).1
            replace H : Sp w0 (rest) wx := H
            have hK : Hid (∀ (v : Value) (w' : World), v = .pointer (some ⟨g, 1, none⟩) → Sp w0 (rest) w' → K (A.put (some 22) v) w') := Lib.hid hK0
            clear hK0 hN hS hE
            change Oper.wp _ _ A wx K _
            go_step
            exact hK.out _ _ rfl (H)
          · intro x wx A rest hN hS hE H K hK0
            have e22 : A.tmps[22]?.getD undef = .pointer (some ⟨g, 1, none⟩) := ((hS 6 (by decide)).2 22 rfl).trans (hS 6 (by decide)).1
            replace H : Sp w0 (rest) wx := H
            have hK : Hid (∀ (v : Value) (w' : World), v = .int .i64 (at_ : Int) → Sp w0 (rest) w' → K (A.put (some 23) v) w') := Lib.hid hK0
            clear hK0 hN hS
            have c1 : wx.cell? ⟨g, 1, none⟩ = some (.int .i64 (at_ : Int)) := hE (fun w => w.cell? ⟨g, 1, none⟩ = some (.int .i64 (at_ : Int))) (fun _ _ H => H.cell 0 rfl 1) _ _ H
            change Oper.wp _ _ A wx K _
            go_step
            exact hK.out _ _ rfl (H)
          · intro x wx A rest hN hS hE H K hK0
            have e0 : A.tmps[0]?.getD undef = .pointer (some ⟨g, 0, none⟩) := hN (0, .pointer (some ⟨g, 0, none⟩)) (by simp)
            replace H : Sp w0 (rest) wx := H
            have hK : Hid (∀ (v : Value) (w' : World), v = .pointer (some ⟨g, 0, none⟩) → Sp w0 (rest) w' → K (A.put (some 24) v) w') := Lib.hid hK0
            clear hK0 hN hS hE
            change Oper.wp _ _ A wx K _
            go_step
            exact hK.out _ _ rfl (H)
          · intro x wx A rest hN hS hE H K hK0
            have e24 : A.tmps[24]?.getD undef = .pointer (some ⟨g, 0, none⟩) := ((hS 8 (by decide)).2 24 rfl).trans (hS 8 (by decide)).1
            replace H : Sp w0 (rest) wx := H
            have hK : Hid (∀ (v : Value) (w' : World), v = .pointer (some ⟨g, 0, none⟩) → Sp w0 (rest) w' → K (A.put (some 25) v) w') := Lib.hid hK0
            clear hK0 hN hS hE
            change Oper.wp _ _ A wx K _
            go_step
            exact hK.out _ _ rfl (H)
          · intro x wx A rest hN hS hE H K hK0
            have e25 : A.tmps[25]?.getD undef = .pointer (some ⟨g, 0, none⟩) := ((hS 9 (by decide)).2 25 rfl).trans (hS 9 (by decide)).1
            replace H : Sp w0 (rest) wx := H
            have hK : Hid (∀ (v : Value) (w' : World), v = .pointer (some ⟨g, 1, none⟩) → Sp w0 (rest) w' → K (A.put (some 26) v) w') := Lib.hid hK0
            clear hK0 hN hS hE
            change Oper.wp _ _ A wx K _
            go_step
            exact hK.out _ _ rfl (H)
          · intro x wx A rest hN hS hE H K hK0
            have e26 : A.tmps[26]?.getD undef = .pointer (some ⟨g, 1, none⟩) := ((hS 10 (by decide)).2 26 rfl).trans (hS 10 (by decide)).1
            replace H : Sp w0 (rest) wx := H
            have hK : Hid (∀ (v : Value) (w' : World), v = .int .i64 (at_ : Int) → Sp w0 (rest) w' → K (A.put (some 27) v) w') := Lib.hid hK0
            clear hK0 hN hS
            have c1 : wx.cell? ⟨g, 1, none⟩ = some (.int .i64 (at_ : Int)) := hE (fun w => w.cell? ⟨g, 1, none⟩ = some (.int .i64 (at_ : Int))) (fun _ _ H => H.cell 0 rfl 1) _ _ H
            change Oper.wp _ _ A wx K _
            go_step
            exact hK.out _ _ rfl (H)
          · intro x wx A rest hN hS hE H K hK0
            have e1 : A.tmps[1]?.getD undef = .int .i64 (k : Int) := hN (1, .int .i64 (k : Int)) (by simp)
            replace H : Sp w0 (rest) wx := H
            have hK : Hid (∀ (v : Value) (w' : World), v = .int .i64 (k : Int) → Sp w0 (rest) w' → K (A.put (some 28) v) w') := Lib.hid hK0
            clear hK0 hN hS hE
            change Oper.wp _ _ A wx K _
            go_step
            exact hK.out _ _ rfl (H)
          · intro x wx A rest hN hS hE H K hK0
            have e27 : A.tmps[27]?.getD undef = .int .i64 (at_ : Int) := ((hS 11 (by decide)).2 27 rfl).trans (hS 11 (by decide)).1
            have e28 : A.tmps[28]?.getD undef = .int .i64 (k : Int) := ((hS 12 (by decide)).2 28 rfl).trans (hS 12 (by decide)).1
            replace H : Sp w0 (rest) wx := H
            have hK : Hid (∀ (v : Value) (w' : World), v = .int .i64 ((at_ : Int) + (k : Int)) → Sp w0 (rest) w' → K (A.put (some 29) v) w') := Lib.hid hK0
            clear hK0 hN hS hE
            have hb1 : (at_ : Int) + (k : Int) ≤ 2000000000 := by omega
            change Oper.wp _ _ A wx K _
            go_step
            exact hK.out _ _ rfl (H)
          · intro x wx A rest hN hS hE H K hK0
            have e19 : A.tmps[19]?.getD undef = .slice B l.length c := ((hS 3 (by decide)).2 19 rfl).trans (hS 3 (by decide)).1
            have e23 : A.tmps[23]?.getD undef = .int .i64 (at_ : Int) := ((hS 7 (by decide)).2 23 rfl).trans (hS 7 (by decide)).1
            have e29 : A.tmps[29]?.getD undef = .int .i64 ((at_ : Int) + (k : Int)) := ((hS 13 (by decide)).2 29 rfl).trans (hS 13 (by decide)).1
            replace H : Sp w0 (rest) wx := H
            have hK : Hid (∀ (v : Value) (w' : World), v = u → Sp w0 (rest) w' → K (A.put (some 30) v) w') := Lib.hid hK0
            clear hK0 hN hS hE
            change Oper.wp _ _ A wx K _
            go_step
            exact hK.out _ _ rfl (H)
          · intro x wx A rest hN hS hE H K hK0
            have e30 : A.tmps[30]?.getD undef = u := ((hS 14 (by decide)).2 30 rfl).trans (hS 14 (by decide)).1
            replace H : Sp w0 (rest) wx := H
            have hK : Hid (∀ (v : Value) (w' : World), v = .int .u64 (PBits.num ((l.drop at_).take k) : Nat) → Sp w0 (rest) w' → K (A.put (some 31) v) w') := Lib.hid hK0
            clear hK0 hN hS
            have hb := HUB.out _ (hE (fun w => Bls w (.slice B l.length c) l) (fun _ _ H => H.row_bls 1 rfl) _ _ H)
            change Oper.wp _ _ A wx K _
            go_wp2_with fail
            refine (number_ok _ _ _ hb (by rw [List.length_take]; omega)).mono ?_
            rintro _ w9 ⟨rfl, rfl⟩
            exact hK.out _ _ rfl H
          · intro x wx A rest hN hS hE H K hK0
            have e1 : A.tmps[1]?.getD undef = .int .i64 (k : Int) := hN (1, .int .i64 (k : Int)) (by simp)
            replace H : Sp w0 (rest) wx := H
            have hK : Hid (∀ (v : Value) (w' : World), v = .int .i64 (k : Int) → Sp w0 (rest) w' → K (A.put (some 32) v) w') := Lib.hid hK0
            clear hK0 hN hS hE
            change Oper.wp _ _ A wx K _
            go_step
            exact hK.out _ _ rfl (H)
          · intro x wx A rest hN hS hE H K hK0
            have e31 : A.tmps[31]?.getD undef = .int .u64 (PBits.num ((l.drop at_).take k) : Nat) := ((hS 15 (by decide)).2 31 rfl).trans (hS 15 (by decide)).1
            replace H : Sp w0 (rest) wx := H
            have hK : Hid (∀ (v : Value) (w' : World), v = .int .u64 (PBits.num ((l.drop at_).take k) : Nat) → Sp w0 (rest) w' → K (A.put (some 4) v) w') := Lib.hid hK0
            clear hK0 hN hS hE
            change Oper.wp _ _ A wx K _
            go_step
            exact hK.out _ _ rfl (H)
          · intro x wx A rest hN hS hE H K hK0
            have e32 : A.tmps[32]?.getD undef = .int .i64 (k : Int) := ((hS 16 (by decide)).2 32 rfl).trans (hS 16 (by decide)).1
            replace H : Sp w0 (rest) wx := H
            have hK : Hid (∀ (v : Value) (w' : World), v = .int .i64 (k : Int) → Sp w0 (rest) w' → K (A.put (some 5) v) w') := Lib.hid hK0
            clear hK0 hN hS hE
            change Oper.wp _ _ A wx K _
            go_step
            exact hK.out _ _ rfl (H)
        case hend =>
          intro x wx A hA hS H
          replace H : Sp w0 (RwB g (.slice B l.length c) at_ :: Row 4 1 (.slice B l.length c) l.length (cellsB l) :: L) wx := H
          have y17 : x 17 = .int .u64 (PBits.num ((l.drop at_).take k) : Nat) := hS 17 (by decide)
          have y18 : x 18 = .int .i64 (k : Int) := hS 18 (by decide)
          clear hS
          simp only [putAll, Act.put, List.setIfInBounds_toArray, List.set_cons_succ, List.set_cons_zero, Nat.reduceAdd] at hA
          subst hA
          clear hu
          go_wp2
          go_ret2
          refine ⟨?_, rw_shut H⟩
          show Ending.returned (.tuple #[x 17, x 18]) = _
          rw [y17, y18]
end Go.Proofs.Ytkgnihpcldgedaa
