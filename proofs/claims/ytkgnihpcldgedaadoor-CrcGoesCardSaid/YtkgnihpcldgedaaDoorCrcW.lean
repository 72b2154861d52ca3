import Derived.Test.YtkgnihpcldgedaaDoorProg
import Derived.Test.YtkgnihpcldgedaaDoorCrcMath
import Derived.Test.YtkgnihpcldgedaaDoorBase
namespace Go.Proofs.YtkgnihpcldgedaaDoor
open Go.RowKit

/-- The table lies in its variable. -/
def CrcTab (w : World) : Prop := ∀ i, i < 16 → w.cell? ⟨3, i, none⟩ = some (.int .u32 (PCrc.tab.getD i 0 : Nat))
def CrcWhn (w : World) : Prop := ∀ i, i < 16 → w.cell? ⟨2, i, none⟩ = some (.int .u32 (PCrc.whn.getD i 0 : Nat))
theorem u32_and15 (x : Nat) (hx : x < 4294967296) : bits .and .u32 (x : Int) 15 = ((x % 16 : Nat) : Int) := by
  have := u32_and_nat x 15 hx (by omega)
  rw [nat_mask4] at this
  exact this
theorem u32_xor' (a : Int) (x b : Nat) (ha : a = x) (hx : x < 4294967296) (hb : b < 4294967296) : bits .xor .u32 a (b : Int) = ((x ^^^ b : Nat) : Int) := by
  rw [ha]; exact u32_xor_nat x b hx hb

set_option maxHeartbeats 400000 in
theorem half_any (x : Nat) (w : World) (hx : x < 4294967296) (ht : CrcTab w) :
    Calls Tryd.prog 56 #[.int .u32 x] w fun e w' => e = .returned (.int .u32 (PCrc.half x : Nat)) ∧ w = w' := by
  have hb := u32_and15 x hx
  have hc := ht (x % 16) (by omega)
  have htl := PCrc.tab_lt' (x % 16)
  obtain ⟨t, e⟩ : ∃ t, PCrc.tab.getD (x % 16) 0 = t := ⟨_, rfl⟩
  rw [e] at hc htl
  have H := Lib.hid e
  clear e
  go_enter Tryd.func56, Tryd.ntmps56
  go_wp2
  go_ret
  refine ⟨ret_u32 ?_, rfl⟩
  rw [PCrc.half, H.out]
  exact u32_xor' _ _ _ (by omega) (by omega) htl

set_option maxHeartbeats 400000 in
theorem whole_any (x : Nat) (w : World) (hx : x < 4294967296) (ht : CrcTab w) :
    Calls Tryd.prog 35 #[.int .u32 x] w fun e w' => e = .returned (.int .u32 (PCrc.whole x : Nat)) ∧ w = w' := by
  go_enter Tryd.func35, Tryd.ntmps35
  go_wp2_with fail
  refine (half_any _ _ hx ht).mono ?_
  rintro e w' ⟨rfl, rfl⟩
  go_wp2_with fail
  refine (half_any _ _ (PCrc.half_lt _ hx) ht).mono ?_
  rintro e w' ⟨rfl, rfl⟩
  go_wp2_with fail
  go_ret
  exact ⟨rfl, rfl⟩

/-- A run's struct: the sum, and how many bytes came. -/
def RunIs (w : World) (g s m : Nat) : Prop := Blk w g 32 [.int .u32 (s : Int), .int .i64 (m : Int)]
/-- Parts: slices of bytes. -/
def Parts (w : World) (v : Value) (ls : List (List UInt8)) : Prop :=
  ∃ A c vs, v = .slice A ls.length c ∧ Rd w A vs ∧ vs.length = ls.length ∧ ls.length ≤ maxLen ∧ (∀ u ∈ vs, ∃ A n c, u = .slice A n c) ∧ ∀ i (h : i < ls.length) (h' : i < vs.length), Byt w vs[i] ls[i]

theorem Parts.keep {w w' : World} {v : Value} {ls : List (List UInt8)} (h : Parts w v ls) (hk : ∀ (p : Addr) (u : Value), w.cell? p = some u → ((∃ n, u = .int .u8 n) ∨ ∃ A n c, u = .slice A n c) → w'.cell? p = w.cell? p) : Parts w' v ls := by
  obtain ⟨A, c, vs, e, hr, h1, h2, h3, h4⟩ := h
  exact ⟨A, c, vs, e, hr.keep fun p u hu hc => hk p u hc (.inr (h3 u hu)), h1, h2, h3, fun i h h' => (h4 i h h').keep fun p n hc => hk p _ hc (.inl ⟨n, rfl⟩)⟩
def total (ls : List (List UInt8)) : Nat := ls.flatten.length
theorem total_take (ls : List (List UInt8)) (k : Nat) (h : k < ls.length) : total (ls.take (k + 1)) = total (ls.take k) + ls[k].length := by
  unfold total; rw [List.take_succ_eq_append_getElem h, List.flatten_append]; simp
theorem total_take_le (ls : List (List UInt8)) (k : Nat) : total (ls.take k) ≤ total ls := by
  unfold total
  conv => rhs; rw [← List.take_append_drop k ls, List.flatten_append]
  simp
theorem flat_take (ls : List (List UInt8)) (k : Nat) (h : k < ls.length) : (ls.take (k + 1)).flatten = (ls.take k).flatten ++ ls[k] := by
  rw [List.take_succ_eq_append_getElem h, List.flatten_append]; simp
theorem u32_not (s : Nat) (hs : s < 4294967296) : bits .xor .u32 IntKind.u32.max (s : Int) = ((PCrc.inv s : Nat) : Int) := by
  obtain ⟨m, hm, hlt, hx⟩ := PCrc.inv_xor
  have e : IntKind.u32.max = ((m : Nat) : Int) := by rw [hm]; rfl
  rw [hx s hs, e]
  exact u32_xor_nat m s hlt hs
theorem reg_snoc (x : Nat) (l : List UInt8) (j : Nat) (h : j < l.length) : PCrc.reg x (l.take (j + 1)) = PCrc.whole (PCrc.reg x (l.take j) ^^^ l[j].toNat) := by
  rw [List.take_succ_eq_append_getElem h, PCrc.reg_append]; rfl

theorem RunIs.kind8 {w w' : World} {g s m : Nat} (h : RunIs w g s m) (hM : Mod (· = g) w w') {p : Addr} {n : Int} (hc : w.cell? p = some (.int .u8 n)) : w'.cell? p = w.cell? p :=
  hM.cell_kind h hc (by simp)
theorem RunIs.kindS {w w' : World} {g s m : Nat} (h : RunIs w g s m) (hM : Mod (· = g) w w') {p : Addr} {A n c} (hc : w.cell? p = some (.slice A n c)) : w'.cell? p = w.cell? p :=
  hM.cell_kind h hc (by simp)

set_option maxHeartbeats 1000000 in
theorem add_any (g s m : Nat) (v : Value) (ls : List (List UInt8)) (w : World) (hs : s < 4294967296) (hm : m + total ls ≤ 9223372036854775807) (ht : CrcTab w) (hr : RunIs w g s m) (hp : Parts w v ls) (hg : g ≠ 3) :
    Calls Tryd.prog 17 #[.pointer (some ⟨g, 0, none⟩), v] w fun e w' => e = .returned (.tuple #[]) ∧ RunIs w' g (PCrc.inv (PCrc.reg (PCrc.inv s) ls.flatten)) (m + total ls) ∧ Mod (· = g) w w' := by
  obtain ⟨A, c, vs, rfl, hA, hlen, hmax, hsl, hby⟩ := hp
  unfold maxLen at hmax
  have c0 := hr.cell 0
  have hnot := u32_not s hs
  go_enter Tryd.func17, Tryd.ntmps17
  go_wp2
  go_loopw [4, 18] (fun x i wr => ∃ k : Nat, k ≤ ls.length ∧ i = .int .i64 k ∧ x = .int .u32 (PCrc.reg (PCrc.inv s) (ls.take k).flatten : Nat) ∧ RunIs wr g s (m + total (ls.take k)) ∧ Mod (· = g) w wr)
    (fun _ i _ => ls.length - (intOf i).toNat)
  case atStart => exact ⟨0, Nat.zero_le _, rfl, rfl, hr, Mod.refl _ _⟩
  case round =>
    clear c0 hnot
    obtain ⟨k, hk, rfl, rfl, hrk, hM⟩ := hrel
    by_cases hlt : k < ls.length
    · obtain ⟨ad, rfl, hc⟩ := hA.at_ (k := k) (by omega)
      obtain ⟨A', c', ev, hbb, hl1, hl2⟩ := hby k hlt (by omega)
      rw [ev] at hc
      have hcr := (hr.kindS hM hc).trans hc
      have htr : CrcTab wr := fun i hi => (hM.cell (cell_lt (ht i hi)) (Ne.symm hg)).trans (ht i hi)
      have hx0 := PCrc.reg_lt (ls.take k).flatten _ (PCrc.inv_lt s hs)
      obtain ⟨X, eX⟩ : ∃ X, PCrc.reg (PCrc.inv s) (ls.take k).flatten = X := ⟨_, rfl⟩
      rw [eX] at hx0 ⊢
      have HX := Lib.hid eX
      clear eX ev
      obtain ⟨l, el⟩ : ∃ l, ls[k] = l := ⟨_, rfl⟩
      rw [el] at hcr hl1 hbb
      have HL := Lib.hid el
      clear el
      unfold maxLen at hl2
      go_wp2
      go_loop [4, 24] (fun x i => ∃ j : Nat, j ≤ l.length ∧ i = .int .i64 j ∧ x = .int .u32 (PCrc.reg X (l.take j) : Nat)) (fun _ i => l.length - (intOf i).toNat)
      case atStart => exact ⟨0, Nat.zero_le _, rfl, rfl⟩
      case round =>
        obtain ⟨j, hj, rfl, rfl⟩ := hrel
        by_cases hjl : j < l.length
        · obtain ⟨ad', rfl, hcb⟩ := hbb.at8 hjl
          have hcbr := (hr.kind8 hM hcb).trans hcb
          clear hcb
          have hb0 := l[j].toNat_lt
          have hxj := PCrc.reg_lt (l.take j) X hx0
          have hxor := u32_xor_nat (PCrc.reg X (l.take j)) l[j].toNat hxj (by omega)
          have hw := PCrc.xor_u8_lt _ l[j] hxj
          have HS := Lib.hid (reg_snoc X l j hjl)
          go_wp2_with fail
          refine (whole_any _ _ hw htr).mono ?_
          rintro e w' ⟨rfl, rfl⟩
          clear hxor
          go_wp2
          go_round
          case rel => exact ⟨j + 1, by omega, by go_num, by rw [HS.out]⟩
          case measure => simp [intOf]; omega
        · have ej : l.take j = l := List.take_of_length_le (by omega)
          rw [ej]
          have c1 := hrk.cell 1
          have f1 := hrk.frozen 1
          have hle := total_take_le ls (k + 1)
          have htt := total_take ls k hlt
          rw [HL.out] at htt
          have hb1 : m + total (ls.take k) + l.length ≤ 9223372036854775807 := by omega
          have HT := Lib.hid htt
          clear htt hle ej
          go_wp2
          go_roundw
          case rel =>
            refine ⟨k + 1, by omega, by go_num, ?_, ?_, ?_⟩
            · rw [flat_take ls k hlt, PCrc.reg_append, HX.out, HL.out]
            · have := hrk.set_ 1 (.int .i64 ((m + total (ls.take (k + 1)) : Nat) : Int))
              rw [HT.out] at this ⊢
              simpa [RunIs, Nat.add_assoc, Int.add_assoc] using this
            · exact hM.setCell (fun _ => rfl) _
          case measure => simp [intOf]; omega
    · have ek : ls.take k = ls := List.take_of_length_le (by omega)
      rw [ek] at hrk ⊢
      have hx0 := PCrc.reg_lt ls.flatten _ (PCrc.inv_lt s hs)
      have hnot := u32_not _ hx0
      have c0 := hrk.cell 0
      have f0 := hrk.frozen 0
      go_wp2
      go_end0
      refine ⟨rfl, ?_, hM.setCell (fun _ => rfl) _⟩
      exact hrk.set_ 0 _
end Go.Proofs.YtkgnihpcldgedaaDoor
