import Derived.Test.YtkgnihpcldgedaaDoorCrcW2
import Derived.StillTailTactics
import Derived.Deep.RegionHeld3
import Derived.Deep.RegionWith
namespace Go.Proofs.YtkgnihpcldgedaaDoor
open Go.RowKit

def stepK : Nat → Nat → Nat
  | 0, x => x
  | k + 1, x => stepK k (PCrc.bitstep x)
theorem stepK_succ (k x : Nat) : stepK (k + 1) x = PCrc.bitstep (stepK k x) := by
  induction k generalizing x with
  | zero => rfl
  | succ k ih => rw [stepK, ih]; rfl
theorem stepK_lt (k x : Nat) (h : x < 4294967296) : stepK k x < 4294967296 := by
  induction k generalizing x with
  | zero => exact h
  | succ k ih => exact ih _ (PCrc.bitstep_lt x h)

set_option maxHeartbeats 400000 in
theorem rstep_any (x : Nat) (c : UInt8) (w : World) (hx : x < 4294967296) :
    Calls Tryd.prog 36 #[.int .u32 x, .int .u8 (c.toNat : Int)] w fun e w' => e = .returned (.int .u32 (PCrc.put x c : Nat)) ∧ w = w' := by
  have hc := c.toNat_lt
  have hxor := u32_xor_nat x c.toNat hx (by omega)
  have hw := PCrc.xor_u8_lt x c hx
  have HP := Lib.hid (PCrc.step_eq x c)
  unfold PCrc.step at HP
  obtain ⟨y, ey⟩ : ∃ y, x ^^^ c.toNat = y := ⟨_, rfl⟩
  rw [ey] at hxor hw HP
  clear ey
  go_enter Tryd.func36, Tryd.ntmps36
  go_wp2
  clear hxor
  go_loop [0, 5] (fun x i => ∃ k : Nat, k ≤ 8 ∧ i = .int .i64 k ∧ x = .int .u32 (stepK k y : Nat)) (fun _ i => 8 - (intOf i).toNat)
  case atStart => exact ⟨0, by omega, rfl, rfl⟩
  case round =>
    obtain ⟨k, hk, rfl, rfl⟩ := hrel
    by_cases hlt : k < 8
    · have hz := stepK_lt k y hw
      have HS := Lib.hid (stepK_succ k y)
      obtain ⟨z, ez⟩ : ∃ z, stepK k y = z := ⟨_, rfl⟩
      rw [ez] at hz HS ⊢
      clear ez
      by_cases h1 : z % 2 = 1
      · have hd : ((z : Int) % 2 == 1) = true := by rw [beq_iff_eq]; omega
        have hxx : bits .xor .u32 ((z : Int) / 2) 3988292384 = ((z / 2 ^^^ 3988292384 : Nat) : Int) := u32_xor' _ (z / 2) 3988292384 (by omega) (by omega) (by omega)
        have HB := Lib.hid (show PCrc.bitstep z = z / 2 ^^^ 3988292384 by unfold PCrc.bitstep; rw [if_pos h1])
        clear h1
        go_wp2
        go_round
        case rel => exact ⟨k + 1, by omega, by go_num, by rw [HS.out, HB.out]⟩
        case measure => simp [intOf]; omega
      · have hd : ((z : Int) % 2 == 1) = false := by rw [beq_eq_false_iff_ne]; omega
        have HB := Lib.hid (show PCrc.bitstep z = z / 2 by unfold PCrc.bitstep; rw [if_neg h1])
        clear h1
        go_wp2
        go_round
        case rel => exact ⟨k + 1, by omega, by go_num, by rw [HS.out, HB.out]; rfl⟩
        case measure => simp [intOf]; omega
    · have e8 : k = 8 := by omega
      subst e8
      go_wp2
      go_ret
      refine ⟨ret_u32 ?_, rfl⟩
      rw [← HP.out]; rfl

set_option maxHeartbeats 400000 in
theorem ron_any (x : Nat) (v : Value) (l : List UInt8) (w : World) (hx : x < 4294967296) (hb : Byt w v l) :
    Calls Tryd.prog 18 #[.int .u32 x, v] w fun e w' => e = .returned (.int .u32 (PCrc.inv (PCrc.reg (PCrc.inv x) l) : Nat)) ∧ w = w' := by
  obtain ⟨A, c, rfl, hr, h1, h2⟩ := hb
  unfold maxLen at h2
  have hi : ((4294967295 : Int) - x) = ((PCrc.inv x : Nat) : Int) := by unfold PCrc.inv; omega
  have hi2 : (4294967295 : Int) - x ≤ 4294967295 := by omega
  have hi3 := PCrc.inv_lt x hx
  go_enter Tryd.func18, Tryd.ntmps18
  go_wp2
  clear hi hi2
  go_loop [5, 6] (fun y i => ∃ k : Nat, k ≤ l.length ∧ i = .int .i64 k ∧ y = .int .u32 (PCrc.reg (PCrc.inv x) (l.take k) : Nat)) (fun _ i => l.length - (intOf i).toNat)
  case atStart => exact ⟨0, Nat.zero_le _, rfl, rfl⟩
  case round =>
    obtain ⟨k, hk, rfl, rfl⟩ := hrel
    have hz := PCrc.reg_lt (l.take k) _ hi3
    by_cases hlt : k < l.length
    · obtain ⟨ad, rfl, hc⟩ := hr.at8 hlt
      have HS := Lib.hid (reg_snoc (PCrc.inv x) l k hlt)
      have hb := l[k].toNat_lt
      obtain ⟨z, ez⟩ : ∃ z, PCrc.reg (PCrc.inv x) (l.take k) = z := ⟨_, rfl⟩
      rw [ez] at hz HS ⊢
      clear ez
      go_wp2_with fail
      refine (rstep_any z l[k] _ hz).mono ?_
      rintro e w' ⟨rfl, rfl⟩
      go_wp2
      go_round
      case rel => exact ⟨k + 1, by omega, by go_num, by rw [HS.out]; rfl⟩
      case measure => simp [intOf]; omega
    · rw [List.take_of_length_le (by omega)] at hz ⊢
      obtain ⟨z, ez⟩ : ∃ z, PCrc.reg (PCrc.inv x) l = z := ⟨_, rfl⟩
      rw [ez] at hz ⊢
      have hi2 : (4294967295 : Int) - z ≤ 4294967295 := by omega
      go_wp2
      go_ret
      refine ⟨ret_u32 ?_, rfl⟩
      unfold PCrc.inv; omega

/-! ### the map of registers -/
def cells32 (l : List Nat) : List Value := l.map fun n : Nat => Value.int .u32 (n : Int)
def sqOf : List Nat → Nat → Nat
  | [], _ => 0
  | a :: m, x => (if x % 2 = 1 then a else 0) ^^^ sqOf m (x / 2)
theorem sqOf_zero (m : List Nat) : sqOf m 0 = 0 := by
  induction m with
  | nil => rfl
  | cons a m ih => simp [sqOf, ih]
theorem sqOf_lt (m : List Nat) (hm : ∀ a ∈ m, a < 4294967296) : ∀ x, sqOf m x < 4294967296 := by
  induction m with
  | nil => intro x; simp [sqOf]
  | cons a m ih =>
    intro x
    have := ih (fun b hb => hm b (List.mem_cons_of_mem _ hb)) (x / 2)
    have ha := hm a (List.mem_cons_self ..)
    exact Nat.xor_lt_two_pow (n := 32) (by split <;> omega) this
theorem Blk.cell32 {w : World} {g : Nat} {t : TypeId} {l : List Nat} (h : Blk w g t (cells32 l)) {i : Nat} (hi : i < l.length) : w.cell? ⟨g, i, none⟩ = some (.int .u32 (l[i] : Int)) := by
  rw [h.cell]; simp [cells32, hi]
theorem cells32_set (l : List Nat) (k v : Nat) : cells32 (l.set k v) = (cells32 l).set k (.int .u32 (v : Int)) := by simp [cells32]
theorem u32_and1 (x : Nat) (hx : x < 4294967296) : bits .and .u32 (x : Int) 1 = ((x % 2 : Nat) : Int) := by
  have := u32_and_nat x 1 hx (by omega)
  rw [nat_mask1] at this
  exact this

set_option maxHeartbeats 400000 in
theorem sq_any (g : Nat) (m : List Nat) (x : Nat) (w : World) (hx : x < 4294967296) (hl : m.length = 32) (hm : ∀ a ∈ m, a < 4294967296) (hb : Blk w g 166 (cells32 m)) :
    Calls Tryd.prog 85 #[.pointer (some ⟨g, 0, none⟩), .int .u32 (x : Int)] w fun e w' => e = .returned (.int .u32 (sqOf m x : Nat)) ∧ w = w' := by
  go_enter Tryd.func85, Tryd.ntmps85
  go_wp2
  go_loop [1, 5, 6] (fun xx y i => ∃ k X Y : Nat, k ≤ 32 ∧ i = .int .i64 k ∧ xx = .int .u32 (X : Int) ∧ y = .int .u32 (Y : Int) ∧ X < 2 ^ (32 - k) ∧ Y < 4294967296 ∧ Y ^^^ sqOf (m.drop k) X = sqOf m x) (fun xx _ _ => (intOf xx).toNat)
  case atStart => exact ⟨0, x, 0, by omega, rfl, rfl, rfl, by omega, by omega, by simp⟩
  case round =>
    obtain ⟨k, X, Y, hk, rfl, rfl, rfl, hX, hY, hE⟩ := hrel
    have HE := Lib.hid hE
    clear hE
    have hX2 : X < 4294967296 := Nat.lt_of_lt_of_le hX (show 2 ^ (32 - k) ≤ 2 ^ 32 from Nat.pow_le_pow_right (by omega) (by omega))
    by_cases h0 : X = 0
    · subst h0
      go_wp2
      go_ret
      refine ⟨ret_u32 ?_, rfl⟩
      rw [← HE.out, sqOf_zero, Nat.xor_zero]
    · have hk32 : k < 32 := by
        rcases Nat.lt_or_ge k 32 with h | h
        · exact h
        · have : 32 - k = 0 := by omega
          rw [this] at hX; omega
      have hne : ((X : Int) != 0) = true := by rw [bne_iff_ne]; omega
      have hc := hb.cell32 (i := k) (by omega)
      have ha1 := u32_and1 X hX2
      have hmk := hm _ (List.getElem_mem (l := m) (n := k) (by omega))
      have HD := Lib.hid (List.drop_eq_getElem_cons (l := m) (i := k) (by omega))
      obtain ⟨a, ea⟩ : ∃ a, m[k] = a := ⟨_, rfl⟩
      rw [ea] at hc hmk HD
      clear ea
      have hXd : X / 2 < 2 ^ (32 - (k + 1)) := by
        have : 2 ^ (32 - k) = 2 * 2 ^ (32 - (k + 1)) := by rw [← Nat.pow_succ']; congr 1; omega
        omega
      clear hX
      by_cases h1 : X % 2 = 1
      · have ha : bits .and .u32 (X : Int) 1 = 1 := by rw [ha1, h1]; rfl
        have hand : bits .and .u32 (a : Int) 4294967295 = (a : Int) := by
          have := u32_and_nat a 4294967295 hmk (by omega)
          rw [nat_mask32, Nat.mod_eq_of_lt hmk] at this
          exact this
        have hxx := u32_xor_nat Y a hY hmk
        have HQ := Lib.hid (show sqOf (a :: m.drop (k + 1)) X = a ^^^ sqOf (m.drop (k + 1)) (X / 2) by rw [sqOf, if_pos h1])
        have hlt2 : Y ^^^ a < 4294967296 := Nat.xor_lt_two_pow (n := 32) hY hmk
        have hpos : 0 < X := by omega
        clear h1 ha1 h0
        go_wp2
        go_round
        case rel => exact ⟨k + 1, X / 2, Y ^^^ a, by omega, by go_num, by go_num, rfl, hXd, hlt2, by rw [← HE.out, HD.out, HQ.out, Nat.xor_assoc]⟩
        case measure => simp [intOf]; omega
      · have ha : bits .and .u32 (X : Int) 1 = 0 := by rw [ha1, show X % 2 = 0 by omega]; rfl
        have hand : bits .and .u32 (a : Int) 0 = 0 := by simpa using u32_and_nat a 0 hmk (by omega)
        have hxx : bits .xor .u32 (Y : Int) 0 = (Y : Int) := by simpa using u32_xor_nat Y 0 hY (by omega)
        have HQ := Lib.hid (show sqOf (a :: m.drop (k + 1)) X = sqOf (m.drop (k + 1)) (X / 2) by rw [sqOf, if_neg h1, Nat.zero_xor])
        have hpos : 0 < X := by omega
        clear h1 ha1 h0
        go_wp2
        go_round
        case rel => exact ⟨k + 1, X / 2, Y, by omega, by go_num, by go_num, rfl, hXd, hY, by rw [← HE.out, HD.out, HQ.out]⟩
        case measure => simp [intOf]; omega

theorem mem_sq_lt (m : List Nat) (hm : ∀ a ∈ m, a < 4294967296) (l : List Nat) : ∀ a ∈ l.map (sqOf m), a < 4294967296 := by
  intro a ha
  obtain ⟨x, _, rfl⟩ := List.mem_map.1 ha
  exact sqOf_lt m hm x
def twF (m : List Nat) : List Nat := m.map (sqOf m)
/-- after k rounds: the first k are done, the rest 0. -/
def twTo (m : List Nat) (k : Nat) : List Nat := (m.take k).map (sqOf m) ++ List.replicate (32 - k) 0
theorem twTo_len (m : List Nat) (k : Nat) (hl : m.length = 32) (hk : k ≤ 32) : (twTo m k).length = 32 := by simp [twTo]; omega
theorem twTo_succ (m : List Nat) (k : Nat) (hl : m.length = 32) (hk : k < 32) : (twTo m k).set k (sqOf m (m[k]'(by omega))) = twTo m (k + 1) := by
  unfold twTo
  have e1 : ((m.take k).map (sqOf m)).length = k := by simp; omega
  rw [List.set_append, if_neg (by omega), e1, Nat.sub_self]
  rw [List.take_succ_eq_append_getElem (by omega), List.map_append, List.append_assoc]
  congr 1
  rw [show 32 - k = (32 - (k + 1)) + 1 by omega, List.replicate_succ]
  rfl
theorem twTo_all (m : List Nat) (hl : m.length = 32) : twTo m 32 = twF m := by
  unfold twTo twF; rw [List.take_of_length_le (by omega)]; simp

set_option maxHeartbeats 1000000 in
theorem tw_any (g : Nat) (m : List Nat) (w : World) (hl : m.length = 32) (hm : ∀ a ∈ m, a < 4294967296) (hb : Blk w g 166 (cells32 m)) :
    Calls Tryd.prog 86 #[.pointer (some ⟨g, 0, none⟩)] w fun e w' => ∃ g', e = .returned (.pointer (some ⟨g', 0, none⟩)) ∧ Blk w' g' 166 (cells32 (twF m)) ∧ Below w.heap.size w w' := by
  go_enter Tryd.func86, Tryd.ntmps86
  go_wp2
  go_loopw [7] (fun i wr => ∃ k : Nat, k ≤ 32 ∧ i = .int .i64 k ∧ Blk wr w.heap.size 166 (cells32 (twTo m k)) ∧ Below w.heap.size w wr) (fun i _ => 32 - (intOf i).toNat)
  case atStart => exact ⟨0, by omega, rfl, Blk.new w _ _, (Below.refl _ _).alloc (Nat.le_refl _) _⟩
  case round =>
    obtain ⟨k, hk, rfl, hbk, hB⟩ := hrel
    by_cases hlt : k < 32
    · have hbm : Blk wr g 166 (cells32 m) := (hB.block g hb.lt).trans hb
      have hc := hbm.cell32 (i := k) (by omega)
      have hmk := hm _ (List.getElem_mem (l := m) (n := k) (by omega))
      have HT := Lib.hid (twTo_succ m k hl hlt)
      obtain ⟨a, ea⟩ : ∃ a, m[k]'(by omega) = a := ⟨_, rfl⟩
      rw [ea] at hc hmk HT
      clear ea
      have hco := hbk.cell32 (i := k) (by rw [twTo_len m k hl hk]; exact hlt)
      have hcf := hbk.frozen k
      go_wp2
      go_quiet (fail)
      go_wp2_with fail
      refine (sq_any g m a _ hmk hl hm (hbm.drewN _)).mono ?_
      rintro e w1 ⟨rfl, rfl⟩
      go_wp2
      go_roundw
      case rel =>
        refine ⟨k + 1, by omega, by go_num, ?_, ?_⟩
        · rw [← HT.out]
          rw [cells32_set]
          exact (hbk.drewN _).set_ k _
        · exact (bel_drewN hB _).setCell (Nat.le_refl _) _
      case measure => simp [intOf]; omega
    · have e32 : k = 32 := by omega
      subst e32
      rw [twTo_all m hl] at hbk
      go_wp2
      go_ret
      exact ⟨_, rfl, hbk, hB⟩

/-! ### n bytes 0 -/
def ones : List Nat := (List.range 32).map fun i => PCrc.whole (2 ^ i)
def pastF : Nat → List Nat → Nat → Nat → Nat
  | 0, _, x, _ => x
  | f + 1, m, x, n => if n = 0 then x else pastF f (twF m) (if n % 2 = 1 then sqOf m x else x) (n / 2)
theorem pastF_zero (f : Nat) (m : List Nat) (x : Nat) : pastF f m x 0 = x := by
  cases f with
  | zero => rfl
  | succ f => simp [pastF]
theorem pastF_lt (f : Nat) : ∀ (m : List Nat) (x n : Nat), (∀ a ∈ m, a < 4294967296) → x < 4294967296 → pastF f m x n < 4294967296 := by
  induction f with
  | zero => intro m x n _ hx; exact hx
  | succ f ih =>
    intro m x n hm hx
    unfold pastF
    split
    · exact hx
    · refine ih _ _ _ (mem_sq_lt m hm m) ?_
      split
      · exact sqOf_lt m hm x
      · exact hx
/-- the first k single bits' rows. -/
def onesTo (k : Nat) : List Nat := ones.take k ++ List.replicate (32 - k) 0
theorem ones_len : ones.length = 32 := by simp [ones]
theorem ones_lt : ∀ a ∈ ones, a < 4294967296 := by
  intro a ha
  obtain ⟨i, hi, rfl⟩ := List.mem_map.1 ha
  have : 2 ^ i ≤ 2 ^ 31 := Nat.pow_le_pow_right (by omega) (by have := List.mem_range.1 hi; omega)
  exact PCrc.whole_lt _ (by omega)
theorem onesTo_len (k : Nat) (hk : k ≤ 32) : (onesTo k).length = 32 := by simp [onesTo, ones_len]; omega
theorem onesTo_succ (k : Nat) (hk : k < 32) : (onesTo k).set k (PCrc.whole (2 ^ k)) = onesTo (k + 1) := by
  have hl := ones_len
  unfold onesTo
  have e1 : (ones.take k).length = k := by simp; omega
  rw [List.set_append, if_neg (by omega), e1, Nat.sub_self]
  rw [List.take_succ_eq_append_getElem (l := ones) (by omega), List.append_assoc]
  congr 1
  rw [show 32 - k = (32 - (k + 1)) + 1 by omega, List.replicate_succ]
  simp [ones]
theorem onesTo_all : onesTo 32 = ones := by
  unfold onesTo; rw [List.take_of_length_le (by rw [ones_len]; omega)]; simp

theorem i64_and1 (a : Nat) (ha : a < 9223372036854775808) : bits .and .i64 (a : Int) 1 = (a : Int) % 2 := by
  have e1 : (BitVec.ofInt 64 (a : Int)).toNat = a := by
    rw [BitVec.ofInt_natCast, BitVec.toNat_ofNat]; exact Nat.mod_eq_of_lt (by omega)
  have e2 : (BitVec.ofInt 64 (1 : Int)).toNat = 1 := rfl
  show IntKind.i64.wrap ((BitVec.ofInt 64 (a : Int) &&& BitVec.ofInt 64 (1 : Int)).toNat : Int) = _
  rw [BitVec.toNat_and, e1, e2, nat_mask1, IntKind.wrap_i64]
  omega
set_option maxRecDepth 100000 in
set_option maxHeartbeats 1000000 in
theorem past_any (x n : Nat) (w : World) (hx : x < 4294967296) (hn : n < 9223372036854775808) (ht : CrcTab w) :
    Calls Tryd.prog 55 #[.int .u32 (x : Int), .int .i64 (n : Int)] w fun e w' => e = .returned (.int .u32 (pastF 64 ones x n : Nat)) ∧ Below w.heap.size w w' := by
  go_enter Tryd.func55, Tryd.ntmps55
  go_wp2
  go_loopw [9] (fun i wr => ∃ k : Nat, k ≤ 32 ∧ i = .int .i64 k ∧ Blk wr w.heap.size 166 (cells32 (onesTo k)) ∧ Below w.heap.size w wr) (fun i _ => 32 - (intOf i).toNat)
  case atStart => exact ⟨0, by omega, rfl, Blk.new w _ _, (Below.refl _ _).alloc (Nat.le_refl _) _⟩
  case round =>
    obtain ⟨k, hk, rfl, hbk, hB⟩ := hrel
    by_cases hlt : k < 32
    · have HT := Lib.hid (onesTo_succ k hlt)
      have hco := hbk.cell32 (i := k) (by rw [onesTo_len k hk]; exact hlt)
      have hcf := hbk.frozen k
      have h2k : 2 ^ k < 4294967296 := Nat.lt_of_le_of_lt (show 2 ^ k ≤ 2 ^ 31 from Nat.pow_le_pow_right (by omega) (by omega)) (by omega)
      have htr : CrcTab wr := fun i hi => (hB.cell (cell_lt (ht i hi))).trans (ht i hi)
      have e2 : ((2 ^ k : Nat) : Int) = (2 : Int) ^ k := by simp
      obtain ⟨p, ep⟩ : ∃ p : Nat, 2 ^ k = p := ⟨_, rfl⟩
      rw [ep] at HT h2k e2
      have hwr : IntKind.u32.wrap ((2 : Int) ^ k) = (p : Int) := by
        rw [IntKind.wrap_u32', ← e2]; omega
      clear ep e2
      go_wp2
      go_region_with (go_at_call 35; refine (whole_any p _ h2k (by exact htr)).mono ?_; rintro e w1 ⟨rfl, rfl⟩)
      all_goals
        go_wp2
        go_roundw
        case rel =>
          refine ⟨k + 1, by omega, by go_num, ?_, (bel_drewN hB 1).setCell (Nat.le_refl _) _⟩
          rw [← HT.out, cells32_set]
          exact (hbk.drewN 1).set_ k _
        case measure => simp [intOf]; omega
    · have e32 : k = 32 := by omega
      subst e32
      rw [onesTo_all] at hbk
      clear hk hlt
      go_wp2
      obtain ⟨wo, rfl⟩ : ∃ wo : World, wo = wr := ⟨_, rfl⟩
      go_loopw [0, 1, 5] (fun xx nn mm wx => ∃ (f g X N : Nat) (m : List Nat), xx = .int .u32 (X : Int) ∧ nn = .int .i64 (N : Int) ∧ mm = .pointer (some ⟨g, 0, none⟩) ∧ X < 4294967296 ∧ N < 2 ^ f ∧ N < 9223372036854775808 ∧ m.length = 32 ∧ (∀ a ∈ m, a < 4294967296) ∧
          Blk wx g 166 (cells32 m) ∧ Below w.heap.size w wx ∧ pastF f m X N = pastF 64 ones x n) (fun _ nn _ _ => (intOf nn).toNat)
      case atStart => exact ⟨64, _, x, n, ones, rfl, rfl, rfl, hx, by omega, hn, ones_len, ones_lt, hbk, hB, rfl⟩
      case round =>
        obtain ⟨f, g, X, N, m, rfl, rfl, rfl, hX, hN, hN2, hl, hm, hb, hB2, hE⟩ := hrel
        have HE := Lib.hid hE
        clear hE
        by_cases h0 : 0 < N
        · obtain ⟨f', rfl⟩ : ∃ f', f = f' + 1 := ⟨f - 1, by
            rcases f with _ | f
            · simp at hN; omega
            · rfl⟩
          rw [Nat.pow_succ] at hN
          have hN' : N / 2 < 2 ^ f' := by omega
          clear hN
          have htx : CrcTab wr := fun i hi => (hB2.cell (cell_lt (ht i hi))).trans (ht i hi)
          have hand := i64_and1 N hN2
          by_cases h1 : N % 2 = 1
          · have hmod : ((N : Int) % 2) = 1 := by omega
            have HF := Lib.hid (show pastF (f' + 1) m X N = pastF f' (twF m) (sqOf m X) (N / 2) by rw [pastF, if_neg (by omega), if_pos h1])
            rw [hmod] at hand
            clear h1 hmod
            go_wp2_with fail
            refine (sq_any g m X _ hX hl hm hb).mono ?_
            rintro e w1 ⟨rfl, rfl⟩
            go_wp2_with fail
            refine (tw_any g m _ hl hm hb).mono ?_
            rintro e w1 ⟨g', rfl, hb', hB3⟩
            go_wp2
            go_roundw
            case rel =>
              (repeat apply Exists.intro)
              exact ⟨⟨f', g', sqOf m X, N / 2, twF m, rfl, by go_num, rfl, sqOf_lt m hm X, hN', by omega, by simp [twF, hl], mem_sq_lt m hm m, hb', hB2.trans (hB3.mono hB2.size), by rw [← HF.out, HE.out]⟩, rfl⟩
            case measure => simp [intOf]; omega
          · have hmod : ((N : Int) % 2) = 0 := by omega
            have HF := Lib.hid (show pastF (f' + 1) m X N = pastF f' (twF m) X (N / 2) by rw [pastF, if_neg (by omega), if_neg h1])
            rw [hmod] at hand
            clear h1 hmod
            go_wp2_with fail
            refine (tw_any g m _ hl hm hb).mono ?_
            rintro e w1 ⟨g', rfl, hb', hB3⟩
            go_wp2
            go_roundw
            case rel =>
              (repeat apply Exists.intro)
              exact ⟨⟨f', g', X, N / 2, twF m, rfl, by go_num, rfl, hX, hN', by omega, by simp [twF, hl], mem_sq_lt m hm m, hb', hB2.trans (hB3.mono hB2.size), by rw [← HF.out, HE.out]⟩, rfl⟩
            case measure => simp [intOf]; omega
        · have : N = 0 := by omega
          subst this
          go_wp2
          go_ret
          exact ⟨ret_u32 (by rw [← HE.out, pastF_zero]), hB2⟩
end Go.Proofs.YtkgnihpcldgedaaDoor
