/- BitsH: the document's own answer for bits: Of. -/
import Derived.Test.YtkgnihpcldgedaaBitsG
namespace Go.Proofs.Ytkgnihpcldgedaa
open Go.RowKit
set_option maxRecDepth 100000 in
set_option maxHeartbeats 1000000 in
theorem of_ok (A : Option Addr) (ca n : Nat) (l : List UInt8) {w0 w : World} {L : List Pr} (H : Sp w0 L w) (hn : n = l.length) (hE : ∀ w', Sp w0 L w' → Byt w' (.slice A n ca) l) (hl : l.length ≤ 100000) :
    Calls Try.prog 51 #[.slice A n ca] w (Ret fun v w' => ∃ g, v = .pointer (some ⟨g, 0, none⟩) ∧ Sp w0 (Rw g (PBits.ofB l) 0 :: L) w') := by
  obtain ⟨i0, hi, hz0, hz1, hz2⟩ := info_parts infoB
  have hnb : n ≤ 100000 := by omega
  have HN := Lib.hid hn
  have HE := Lib.hid hE
  clear hn hE hl
  go_enter Try.func51, Try.ntmps51
  have H1 := (H.rowNil 4 1).newBk [.slice none 0 0, .int .i64 0] 66
  go_wp2
  generalize w.alloc _ = w1 at H1 ⊢
  generalize w.heap.size = g at H1 ⊢
  go_loopw [4] (fun i wr => ∃ (j : Nat) (v : Value), j ≤ n ∧ i = .int .i64 (j : Int) ∧ Sp w0 (RwB g v 0 :: Row 4 1 v (8 * j) (cellsB (PBits.ofB (l.take j))) :: L) wr) (fun i _ => n - (intOf i).toNat)
  case atStart => exact ⟨0, _, Nat.zero_le _, rfl, H1⟩
  case round =>
    obtain ⟨j, v, hj, rfl, H2⟩ := hrel
    by_cases hlt : j < n
    · have hlt' : (j : Int) < n := by omega
      have hjl : j < l.length := by rw [← HN.out]; exact hlt
      obtain ⟨_, _, eA, hr, _, _⟩ := HE.out _ (H2.pick 2 [])
      injection eA with eA e2 e3
      subst eA
      clear e2 e3
      obtain ⟨ad, rfl, hc⟩ := hr.at8 hjl
      clear hr
      obtain ⟨x, hx⟩ : ∃ x, l[j].toNat = x := ⟨_, rfl⟩
      rw [hx] at hc
      have hx2 : x < 256 := by rw [← hx]; exact (l[j]).toNat_lt
      have hof : PBits.ofB (l.take (j + 1)) = PBits.ofB (l.take j) ++ PBits.bitsOf x 8 := by
        rw [List.take_succ_eq_append_getElem hjl, PBits.ofB_snoc, hx]
      have HOF := Lib.hid hof
      obtain ⟨bs, hbs⟩ : ∃ bs, PBits.ofB (l.take j) = bs := ⟨_, rfl⟩
      rw [hbs] at H2 HOF
      clear hx hof hbs
      go_wp2_with fail
      clear hc
      go_loopw [5, 6] (fun c k wr => ∃ (t : Nat) (v : Value), t ≤ 8 ∧ c = .int .u8 ((x / 2 ^ t : Nat) : Int) ∧ k = .int .i64 (t : Int) ∧ Sp w0 (RwB g v 0 :: Row 4 1 v (8 * j + t) (cellsB (bs ++ PBits.bitsOf x t)) :: L) wr) (fun _ k _ => 8 - (intOf k).toNat)
      case atStart => exact ⟨0, v, by omega, by simp, rfl, by simpa [PBits.bitsOf] using H2⟩
      case round =>
        obtain ⟨t, v', ht, rfl, rfl, H3⟩ := hrel
        obtain ⟨y, hy⟩ : ∃ y, x / 2 ^ t = y := ⟨_, rfl⟩
        have hy2 : y < 256 := by rw [← hy]; exact Nat.lt_of_le_of_lt (Nat.div_le_self _ _) hx2
        rw [hy]
        have HY := Lib.hid hy
        clear hy
        obtain ⟨B, cb, rfl, _, _⟩ := Row.form H3 1 rfl
        by_cases ht8 : t < 8
        · have ht8' : (t : Int) < 8 := by omega
          obtain ⟨b, hb2⟩ : ∃ b, ((y : Int) % 2 == 1) = b := ⟨_, rfl⟩
          have HB := Lib.hid hb2
          have c0 : wr.cell? ⟨g, 0, none⟩ = some (.slice B (8 * j + t) cb) := H3.cell 0 rfl 0
          go_wp2_with (at_builtin; refine wpList_append_sp rfl _ _ 64 rfl 4 i0 (.bool false) 1 1 Try.underlying64 hi hz0 hz1 hz2 rfl (by decide) (.slice B (8 * j + t) cb) (8 * j + t) (cellsB (bs ++ PBits.bitsOf x t)) rfl ((H3.newBk [.bool b] _).pick 3 [2, 0, 1]) (some ⟨wr.heap.size, 0, none⟩) 1 1 [.bool b] rfl rfl (Rd.of_blk ((H3.newBk [.bool b] _).blk 0 rfl)) (by intro u hu; rw [List.mem_singleton.1 hu]; rfl) (by unfold maxLen; omega) (by omega) ?_)
          intro v1 w3 H4 _
          clear hb2 c0
          replace H4 : Sp w0 (RwB g (.slice B (8 * j + t) cb) 0 :: Row 4 1 v1 (8 * j + t + 1) (cellsB (bs ++ PBits.bitsOf x t) ++ [.bool b]) :: L) w3 := H4.pick 3 [2, 0]
          obtain ⟨B1, cb1, rfl, _, _⟩ := Row.form H4 1 rfl
          have c0 : w3.cell? ⟨g, 0, none⟩ = some (.slice B (8 * j + t) cb) := H4.cell 0 rfl 0
          have z0 : w3.frozen? ⟨g, 0, none⟩ = false := H4.frozen 0 rfl 0
          go_wp2
          go_roundw
          case rel =>
            refine ⟨t + 1, .slice B1 (8 * j + t + 1) cb1, by omega, ?_, by go_num, ?_⟩
            · rw [Nat.pow_succ, ← Nat.div_div_eq_div_mul, HY.out]; simp
            · have e : cellsB (bs ++ PBits.bitsOf x (t + 1)) = cellsB (bs ++ PBits.bitsOf x t) ++ [.bool b] := by
                have hbb : (y % 2 == 1) = b := by
                  rw [← HB.out, Bool.eq_iff_iff, beq_iff_eq, beq_iff_eq]; omega
                rw [PBits.bitsOf_snoc, HY.out, hbb]; simp [cellsB]
              rw [e]
              exact H4.set 0 (.slice B1 (8 * j + t + 1) cb1)
          case measure => simp [intOf]; omega
        · have ht8' : ¬ (t : Int) < 8 := by omega
          obtain rfl : t = 8 := by omega
          go_wp2
          go_roundw
          case rel =>
            refine ⟨j + 1, .slice B (8 * j + 8) cb, by omega, by go_num, ?_⟩
            rw [HOF.out]
            exact H3
          case measure => simp [intOf]; omega
    · have hlt' : ¬ (j : Int) < n := by omega
      obtain rfl : j = n := by omega
      go_wp2
      go_ret
      refine ⟨_, rfl, g, rfl, rw_shut (v := v) ?_⟩
      rw [List.take_of_length_le (by rw [← HN.out]; exact Nat.le_refl _)] at H2
      rw [PBits.ofB_length, ← HN.out]
      exact H2
end Go.Proofs.Ytkgnihpcldgedaa
