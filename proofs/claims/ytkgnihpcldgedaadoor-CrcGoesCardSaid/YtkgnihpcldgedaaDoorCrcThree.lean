/- CrcThree: the walk of the law. -/
import Derived.Test.YtkgnihpcldgedaaDoorCrcW4
import Derived.Test.YtkgnihpcldgedaaDoorRegionInv
import Derived.Deep.DeepCutAuto
import Derived.StillTailTactics
namespace Go.Proofs.YtkgnihpcldgedaaDoor
open Go.RowKit

theorem Byt.take {w : World} {A : Option Addr} {n c : Nat} {l : List UInt8} (h : Byt w (.slice A n c) l) (k : Nat) (hk : k ≤ l.length) : Byt w (.slice A k c) (l.take k) := by
  obtain ⟨A', c', e, hr, h1, h2⟩ := h
  injection e with e1 e2 e3
  subst e1 e3
  refine ⟨A, c, by rw [List.length_take, Nat.min_eq_left hk], fun hn => ?_, by simp; omega, h2⟩
  obtain ⟨ad, e, hc⟩ := hr (by intro h0; apply hn; unfold cells8 at h0 ⊢; rw [List.map_take, h0, List.take_nil])
  refine ⟨ad, e, fun j u hu => hc j u ?_⟩
  unfold cells8 at hu ⊢
  rw [List.map_take, List.getElem?_take] at hu
  split at hu
  · exact hu
  · cases hu

theorem info8 : (Tryd.prog.info? 5).map (fun i => (i.zero, i.size, i.bytes)) = some (some (.int .u8 0), 1, 1) := by kernel_rfl
theorem madeCells_8 (n : Nat) : madeCells (Value.int .u8 0).cells n = (cells8 (List.replicate n 0)).toArray := by
  apply Array.ext
  · simp [madeCells, cells8]
  · intro i h1 h2
    simp [madeCells, cells8, Value.cells, Nat.mod_one]
theorem make8 (n : Nat) (hn : n ≤ 281474976710656) (w : World) : (Instr.makeSlice 22 (.int .i64 (n : Int)) (.int .i64 (n : Int))).run Tryd.prog w = .ok (.slice (some ⟨w.heap.size, 0, none⟩) n n) (w.alloc (.cells (cells8 (List.replicate n 0)).toArray 5)) := by
  obtain ⟨i, hi, hz, hs, hb⟩ := info_parts info8
  have := run_make (P := Tryd.prog) w 22 5 i (.int .u8 0) Tryd.underlying22 hi hz .i64 .i64 n n (by omega) (by omega) (by rw [hb]; omega) (by omega)
  rw [hs, Nat.mul_one] at this
  simp only [Int.toNat_natCast] at this
  rw [madeCells_8] at this
  exact this

def z3 (a b c : List UInt8) : List UInt8 := List.zipWith (· ^^^ ·) (List.zipWith (· ^^^ ·) a b) c
def z3To (a b c : List UInt8) (n k : Nat) : List UInt8 := (z3 a b c).take k ++ List.replicate (n - k) 0

theorem z3_len (a b c : List UInt8) (n : Nat) (h1 : a.length = n) (h2 : b.length = n) (h3 : c.length = n) : (z3 a b c).length = n := by simp [z3]; omega
theorem z3To_len (a b c : List UInt8) (n k : Nat) (h1 : a.length = n) (h2 : b.length = n) (h3 : c.length = n) (hk : k ≤ n) : (z3To a b c n k).length = n := by
  have := z3_len a b c n h1 h2 h3
  simp [z3To]; omega
theorem z3To_succ (a b c : List UInt8) (n k : Nat) (h1 : a.length = n) (h2 : b.length = n) (h3 : c.length = n) (hk : k < n) (x : UInt8) (hx : x = a[k] ^^^ b[k] ^^^ c[k]) : (z3To a b c n k).set k x = z3To a b c n (k + 1) := by
  have hl := z3_len a b c n h1 h2 h3
  unfold z3To
  have e1 : ((z3 a b c).take k).length = k := by simp; omega
  rw [List.set_append, if_neg (by omega), e1, Nat.sub_self]
  rw [List.take_succ_eq_append_getElem (l := z3 a b c) (by omega), List.append_assoc]
  congr 1
  rw [show n - k = (n - (k + 1)) + 1 by omega, List.replicate_succ]
  subst hx
  simp [z3]
theorem z3To_all (a b c : List UInt8) (n : Nat) (h1 : a.length = n) (h2 : b.length = n) (h3 : c.length = n) : z3To a b c n n = z3 a b c := by
  have hl := z3_len a b c n h1 h2 h3
  unfold z3To; rw [List.take_of_length_le (by omega)]; simp
theorem cells8_set (l : List UInt8) (k : Nat) (x : UInt8) (m : Nat) (h : m = x.toNat) : cells8 (l.set k x) = (cells8 l).set k (.int .u8 (m : Int)) := by subst h; simp [cells8]
/-- what each operation of the last statement leaves. -/
def ThreeS (g n : Nat) (A B C : Option Addr) (ca cb cc : Nat) (a b c all : List UInt8) : Nat → Value → World → Prop
  | 0, v, _ => v = .slice (some ⟨g, 0, none⟩) n n
  | 1, v, w => Parts w v [all]
  | 2, v, _ => v = .int .u32 (PCrc.of all : Nat)
  | 3, v, _ => v = .slice A a.length ca
  | 4, v, _ => v = .int .i64 (n : Int)
  | 5, v, _ => v = .slice A n ca
  | 6, v, w => Parts w v [a.take n]
  | 7, v, _ => v = .int .u32 (PCrc.of (a.take n) : Nat)
  | 8, v, _ => v = .slice B b.length cb
  | 9, v, _ => v = .int .i64 (n : Int)
  | 10, v, _ => v = .slice B n cb
  | 11, v, w => Parts w v [b.take n]
  | 12, v, _ => v = .int .u32 (PCrc.of (b.take n) : Nat)
  | 13, v, _ => v = .int .u32 (PCrc.of (a.take n) ^^^ PCrc.of (b.take n) : Nat)
  | 14, v, _ => v = .slice C c.length cc
  | 15, v, _ => v = .int .i64 (n : Int)
  | 16, v, _ => v = .slice C n cc
  | 17, v, w => Parts w v [c.take n]
  | 18, v, _ => v = .int .u32 (PCrc.of (c.take n) : Nat)
  | 19, v, _ => v = .int .u32 (PCrc.of (a.take n) ^^^ PCrc.of (b.take n) ^^^ PCrc.of (c.take n) : Nat)
  | _, v, _ => v = .bool true
theorem Parts.below {w w' : World} {v : Value} {ls : List (List UInt8)} (h : Parts w v ls) (hB : Below w.heap.size w w') : Parts w' v ls := h.keep fun _ _ hc _ => hB.cell (cell_lt hc)
theorem Byt.below {w w' : World} {v : Value} {l : List UInt8} (h : Byt w v l) (hB : Below w.heap.size w w') : Byt w' v l := h.keep fun _ _ hc => hB.cell (cell_lt hc)
theorem ThreeS.keep (g n : Nat) (A B C : Option Addr) (ca cb cc : Nat) (a b c all : List UInt8) (i : Nat) (v : Value) (w w' : World) (h : ThreeS g n A B C ca cb cc a b c all i v w) (hB : Below w.heap.size w w') : ThreeS g n A B C ca cb cc a b c all i v w' := by
  unfold ThreeS at h ⊢
  split <;> simp only at h <;> first | exact h | exact Parts.below h hB
theorem Parts.one {w : World} {g : Nat} {v : Value} {l : List UInt8} (h : Byt w v l) (t : TypeId) (hg : w.heap.size = g) : Parts (w.alloc (.cells #[v] t)) (.slice (some ⟨g, 0, none⟩) 1 1) [l] :=
  Parts.of_new [v] [l] hg rfl rfl (by simp [maxLen]) fun i h1 h2 => by
    obtain rfl : i = 0 := by simpa using h1
    exact h
theorem tot_one (l : List UInt8) : total [l] = l.length := by simp [total]

set_option maxRecDepth 100000 in
set_option maxHeartbeats 2000000 in
theorem three_any (A B C : Option Addr) (ca cb cc : Nat) (a b c : List UInt8) (w : World) (ht : CrcTab w) (ha : Byt w (.slice A a.length ca) a) (hb : Byt w (.slice B b.length cb) b) (hc : Byt w (.slice C c.length cc) c) :
    Calls Tryd.prog 4 #[.slice A a.length ca, .slice B b.length cb, .slice C c.length cc] w fun e w' => e = .returned (.bool true) ∧ Below w.heap.size w w' := by
  have hmk : ∀ (n : Nat) (_ : n ≤ 281474976710656) (w : World), _ := make8
  obtain ⟨_, _, _, ra, ha1, ha2⟩ := id ha
  obtain ⟨_, _, _, rb, hb1, hb2⟩ := id hb
  obtain ⟨_, _, _, rc, hc1, hc2⟩ := id hc
  unfold maxLen at ha2 hb2 hc2
  obtain ⟨n, hn⟩ : ∃ n : Nat, n = min (min (min a.length b.length) c.length) 1000 := ⟨_, rfl⟩
  have hmn : ∀ W : World, (Builtin.min_ #[3, 3, 3, 3] 3 #[.int .i64 (a.length : Int), .int .i64 (b.length : Int), .int .i64 (c.length : Int), .int .i64 1000]).run Tryd.prog W = .ok (.int .i64 (n : Int)) W := fun W => by
    simp [Builtin.min_, Builtin.min2]
    repeat' split
    all_goals omega
  have hna : n ≤ a.length := by omega
  have hnb : n ≤ b.length := by omega
  have hnc : n ≤ c.length := by omega
  have hnk : n ≤ 1000 := by omega
  clear hn
  have hmk' := make8 n (by omega)
  clear hmk
  go_enter Tryd.func4, Tryd.ntmps4
  go_wp2
  clear hmn hmk'
  go_loopw [9, 21] (fun _ i wr => ∃ k : Nat, k ≤ n ∧ i = .int .i64 k ∧ Blk wr w.heap.size 5 (cells8 (z3To (a.take n) (b.take n) (c.take n) n k)) ∧ Below w.heap.size w wr) (fun _ i _ => n - (intOf i).toNat)
  case atStart =>
    refine ⟨0, Nat.zero_le _, rfl, ?_, (Below.refl _ _).alloc (Nat.le_refl _) _⟩
    have := Blk.new w 5 (cells8 (List.replicate n 0))
    simpa [z3To] using this
  case round =>
    obtain ⟨k, hk, rfl, hbk, hB⟩ := hrel
    by_cases hlt : k < n
    · obtain ⟨ad, rfl, qa⟩ := ra.at8 (k := k) (by omega)
      obtain ⟨bd, rfl, qb⟩ := rb.at8 (k := k) (by omega)
      obtain ⟨cd, rfl, qc⟩ := rc.at8 (k := k) (by omega)
      have qa := (hB.cell (cell_lt qa)).trans qa
      have qb := (hB.cell (cell_lt qb)).trans qb
      have qc := (hB.cell (cell_lt qc)).trans qc
      have ea := a[k].toNat_lt
      have eb := b[k].toNat_lt
      have ec := c[k].toNat_lt
      have x1 := u8_xor_nat a[k].toNat b[k].toNat (by omega) (by omega)
      have x2 := u8_xor_nat (a[k].toNat ^^^ b[k].toNat) c[k].toNat (Nat.xor_lt_two_pow (n := 8) (by omega) (by omega)) (by omega)
      have hl : (z3To (a.take n) (b.take n) (c.take n) n k).length = n := by simp [z3To, z3]; omega
      have q0 := hbk.cell k
      have f0 := hbk.frozen k
      rw [List.getElem?_eq_getElem (by simp [cells8, hl]; omega)] at q0
      have hka : k < a.length := by omega
      have hkb : k < b.length := by omega
      have hkc : k < c.length := by omega
      have hbk' := hbk
      clear hbk
      go_wp2
      go_still_tail 17, (by kernel_rfl)
      change wpList _ _ _ _ _ wr.drew
      go_wp2
      go_roundw
      case rel =>
        refine ⟨k + 1, by omega, by go_num, ?_, (hB.setCell (Nat.le_refl _) _).drew⟩
        have hs := z3To_succ (a.take n) (b.take n) (c.take n) n k (by simp; omega) (by simp; omega) (by simp; omega) hlt (a[k] ^^^ b[k] ^^^ c[k]) (by simp)
        rw [← hs, cells8_set _ k _ (a[k].toNat ^^^ b[k].toNat ^^^ c[k].toNat) (by simp only [UInt8.toNat_xor])]
        exact hbk'.set_ k _
      case measure => simp [intOf]; omega
    · have ekn : k = n := by omega
      subst ekn
      rw [z3To_all _ _ _ k (by simp; omega) (by simp; omega) (by simp; omega)] at hbk
      obtain ⟨all, hall⟩ : ∃ all, z3 (a.take k) (b.take k) (c.take k) = all := ⟨_, rfl⟩
      have hallen := z3_len (a.take k) (b.take k) (c.take k) k (by simp; omega) (by simp; omega) (by simp; omega)
      rw [hall] at hbk hallen
      have HA := Lib.hid hall
      clear hall hk hlt
      have hball : Byt wr (.slice (some ⟨w.heap.size, 0, none⟩) k k) all := by
        have := Byt.of_blk all hbk (by rw [hallen]; unfold maxLen; omega)
        rwa [hallen] at this
      have HL := Lib.hid hallen
      clear hallen
      go_wp2
      have htr : CrcTab wr := ht.below hB (Nat.le_refl _)
      refine wp_region_each (fun w w' => Below w.heap.size w w') (ThreeS w.heap.size k A B C ca cb cc a b c all)
        [some 42, some 43, some 44, some 45, some 46, some 47, some 48, some 49, some 50, some 51, some 52, some 53, some 54, some 55, some 56, some 57, some 58, some 59, some 60, some 61, some 62, some 63, some 64, some 65, some 6]
        [[], [0], [1], [], [], [3, 4], [5], [6, 2], [], [], [8, 9], [10], [11, 7], [7, 12], [], [], [14, 15], [16], [17, 12], [13, 18], [2, 19], [20, 18], [21, 21], [21, 22], [23, 22, 0, 1, 2, 3, 4, 5, 6, 7, 8, 9, 10, 11, 12, 13, 14, 15, 16, 17, 18, 19, 20, 21, 22, 23]]
        (by kernel_rfl) rfl (by decide) (by rfl) (by decide) (fun w => Below.refl _ _) (fun _ _ _ h1 h2 => h1.trans (h2.mono h1.size)) (ThreeS.keep _ _ _ _ _ _ _ _ _ _ _ _) ?hstep ?hend
      case hstep =>
        refine stepAll_cons ?_ (stepAll_cons ?_ (stepAll_cons ?_ (stepAll_cons ?_ (stepAll_cons ?_ (stepAll_cons ?_ (stepAll_cons ?_ (stepAll_cons ?_ (stepAll_cons ?_ (stepAll_cons ?_ (stepAll_cons ?_ (stepAll_cons ?_ (stepAll_cons ?_ (stepAll_cons ?_ (stepAll_cons ?_ (stepAll_cons ?_ (stepAll_cons ?_ (stepAll_cons ?_ (stepAll_cons ?_ (stepAll_cons ?_ (stepAll_cons ?_ (stepAll_cons ?_ (stepAll_cons ?_ (stepAll_cons ?_ (stepAll_cons ?_ (stepAll_nil)))))))))))))))))))))))))
        all_goals
          intro x wx A' hA' hT0 hp hu
          clear hu
          have hT : Below wr.heap.size wr wx := ⟨hT0.os, hT0.tape, hT0.output, hT0.size, hT0.block⟩
          clear hT0
          simp only [putAll, Act.put, List.setIfInBounds_toArray, List.set_cons_succ, List.set_cons_zero, Nat.reduceAdd] at hA'
          subst hA'
        · go_wp2
          exact done_of (.slice (some ⟨w.heap.size, 0, none⟩) k k) rfl (Below.refl _ _) (by simp only [Act.put, List.setIfInBounds_toArray, List.set_cons_succ, List.set_cons_zero])
        · have p0 : x 0 = _ := hp 0 (by decide)
          go_wp2
          exact done_of (.slice (some ⟨wx.heap.size, 0, none⟩) 1 1) (Parts.one (hball.below hT) _ rfl) ((Below.refl _ _).alloc (Nat.le_refl _) _) (by simp only [Act.put, List.setIfInBounds_toArray, List.set_cons_succ, List.set_cons_zero])
        · have q1 : Parts wx (x 1) [all] := hp 1 (by decide)
          go_wp2_with fail
          refine (of_val _ [all] (PCrc.of (all)) _ (by simp) (by rw [tot_one]; rw [HL.out]; omega) (htr.below hT (Nat.le_refl _)) q1).mono ?_
          rintro e w1 ⟨rfl, hBx⟩
          go_wp2
          exact done_of (.int .u32 (PCrc.of (all) : Nat)) rfl hBx (by simp only [Act.put, List.setIfInBounds_toArray, List.set_cons_succ, List.set_cons_zero])
        · go_wp2
          exact done_of (.slice A a.length ca) rfl (Below.refl _ _) (by simp only [Act.put, List.setIfInBounds_toArray, List.set_cons_succ, List.set_cons_zero])
        · go_wp2
          exact done_of (.int .i64 (k : Int)) rfl (Below.refl _ _) (by simp only [Act.put, List.setIfInBounds_toArray, List.set_cons_succ, List.set_cons_zero])
        · have p3 : x 3 = _ := hp 3 (by decide)
          have p4 : x 4 = _ := hp 4 (by decide)
          go_wp2
          exact done_of (.slice A k ca) rfl (Below.refl _ _) (by simp only [Act.put, List.setIfInBounds_toArray, List.set_cons_succ, List.set_cons_zero])
        · have p5 : x 5 = _ := hp 5 (by decide)
          go_wp2
          exact done_of (.slice (some ⟨wx.heap.size, 0, none⟩) 1 1) (Parts.one (((ha.take k (by omega)).below (hB.trans (hT.mono hB.size)))) _ rfl) ((Below.refl _ _).alloc (Nat.le_refl _) _) (by simp only [Act.put, List.setIfInBounds_toArray, List.set_cons_succ, List.set_cons_zero])
        · have q6 : Parts wx (x 6) [a.take k] := hp 6 (by decide)
          go_wp2_with fail
          refine (of_val _ [a.take k] (PCrc.of (a.take k)) _ (by simp) (by rw [tot_one]; rw [List.length_take]; omega) (htr.below hT (Nat.le_refl _)) q6).mono ?_
          rintro e w1 ⟨rfl, hBx⟩
          go_wp2
          exact done_of (.int .u32 (PCrc.of (a.take k) : Nat)) rfl hBx (by simp only [Act.put, List.setIfInBounds_toArray, List.set_cons_succ, List.set_cons_zero])
        · go_wp2
          exact done_of (.slice B b.length cb) rfl (Below.refl _ _) (by simp only [Act.put, List.setIfInBounds_toArray, List.set_cons_succ, List.set_cons_zero])
        · go_wp2
          exact done_of (.int .i64 (k : Int)) rfl (Below.refl _ _) (by simp only [Act.put, List.setIfInBounds_toArray, List.set_cons_succ, List.set_cons_zero])
        · have p8 : x 8 = _ := hp 8 (by decide)
          have p9 : x 9 = _ := hp 9 (by decide)
          go_wp2
          exact done_of (.slice B k cb) rfl (Below.refl _ _) (by simp only [Act.put, List.setIfInBounds_toArray, List.set_cons_succ, List.set_cons_zero])
        · have p10 : x 10 = _ := hp 10 (by decide)
          go_wp2
          exact done_of (.slice (some ⟨wx.heap.size, 0, none⟩) 1 1) (Parts.one (((hb.take k (by omega)).below (hB.trans (hT.mono hB.size)))) _ rfl) ((Below.refl _ _).alloc (Nat.le_refl _) _) (by simp only [Act.put, List.setIfInBounds_toArray, List.set_cons_succ, List.set_cons_zero])
        · have q11 : Parts wx (x 11) [b.take k] := hp 11 (by decide)
          go_wp2_with fail
          refine (of_val _ [b.take k] (PCrc.of (b.take k)) _ (by simp) (by rw [tot_one]; rw [List.length_take]; omega) (htr.below hT (Nat.le_refl _)) q11).mono ?_
          rintro e w1 ⟨rfl, hBx⟩
          go_wp2
          exact done_of (.int .u32 (PCrc.of (b.take k) : Nat)) rfl hBx (by simp only [Act.put, List.setIfInBounds_toArray, List.set_cons_succ, List.set_cons_zero])
        · have x1 := u32_xor_nat _ _ (PCrc.of_lt (a.take k)) (PCrc.of_lt (b.take k))
          have p7 : x 7 = _ := hp 7 (by decide)
          have p12 : x 12 = _ := hp 12 (by decide)
          go_wp2
          exact done_of (.int .u32 (PCrc.of (a.take k) ^^^ PCrc.of (b.take k) : Nat)) rfl (Below.refl _ _) (by simp only [Act.put, List.setIfInBounds_toArray, List.set_cons_succ, List.set_cons_zero])
        · go_wp2
          exact done_of (.slice C c.length cc) rfl (Below.refl _ _) (by simp only [Act.put, List.setIfInBounds_toArray, List.set_cons_succ, List.set_cons_zero])
        · go_wp2
          exact done_of (.int .i64 (k : Int)) rfl (Below.refl _ _) (by simp only [Act.put, List.setIfInBounds_toArray, List.set_cons_succ, List.set_cons_zero])
        · have p14 : x 14 = _ := hp 14 (by decide)
          have p15 : x 15 = _ := hp 15 (by decide)
          go_wp2
          exact done_of (.slice C k cc) rfl (Below.refl _ _) (by simp only [Act.put, List.setIfInBounds_toArray, List.set_cons_succ, List.set_cons_zero])
        · have p16 : x 16 = _ := hp 16 (by decide)
          go_wp2
          exact done_of (.slice (some ⟨wx.heap.size, 0, none⟩) 1 1) (Parts.one (((hc.take k (by omega)).below (hB.trans (hT.mono hB.size)))) _ rfl) ((Below.refl _ _).alloc (Nat.le_refl _) _) (by simp only [Act.put, List.setIfInBounds_toArray, List.set_cons_succ, List.set_cons_zero])
        · have q17 : Parts wx (x 17) [c.take k] := hp 17 (by decide)
          go_wp2_with fail
          refine (of_val _ [c.take k] (PCrc.of (c.take k)) _ (by simp) (by rw [tot_one]; rw [List.length_take]; omega) (htr.below hT (Nat.le_refl _)) q17).mono ?_
          rintro e w1 ⟨rfl, hBx⟩
          go_wp2
          exact done_of (.int .u32 (PCrc.of (c.take k) : Nat)) rfl hBx (by simp only [Act.put, List.setIfInBounds_toArray, List.set_cons_succ, List.set_cons_zero])
        · have x2 := u32_xor_nat _ _ (Nat.xor_lt_two_pow (n := 32) (PCrc.of_lt (a.take k)) (PCrc.of_lt (b.take k))) (PCrc.of_lt (c.take k))
          have p13 : x 13 = _ := hp 13 (by decide)
          have p18 : x 18 = _ := hp 18 (by decide)
          go_wp2
          exact done_of (.int .u32 (PCrc.of (a.take k) ^^^ PCrc.of (b.take k) ^^^ PCrc.of (c.take k) : Nat)) rfl (Below.refl _ _) (by simp only [Act.put, List.setIfInBounds_toArray, List.set_cons_succ, List.set_cons_zero])
        · have p2 : x 2 = _ := hp 2 (by decide)
          have p19 : x 19 = _ := hp 19 (by decide)
          have h3 : PCrc.of all = PCrc.of (a.take k) ^^^ PCrc.of (b.take k) ^^^ PCrc.of (c.take k) := by
            rw [← HA.out]; exact PCrc.of_three _ _ _ (by simp; omega) (by simp; omega)
          rw [h3] at p2
          go_wp2
          exact done_of (.bool true) rfl (Below.refl _ _) (by simp only [Act.put, List.setIfInBounds_toArray, List.set_cons_succ, List.set_cons_zero])
        · have p20 : x 20 = _ := hp 20 (by decide)
          go_wp2
          exact done_of (x 20) p20 (Below.refl _ _) (by simp only [Act.put, List.setIfInBounds_toArray, List.set_cons_succ, List.set_cons_zero])
        · have p21 : x 21 = _ := hp 21 (by decide)
          go_wp2_with fail
          refine (tells_any _ (htr.below hT (Nat.le_refl _))).mono ?_
          rintro e w1 ⟨rfl, hBx⟩
          go_wp2
          exact done_of (.bool true) rfl hBx (by simp only [Act.put, List.setIfInBounds_toArray, List.set_cons_succ, List.set_cons_zero, p21])
        · have p21 : x 21 = _ := hp 21 (by decide)
          have p22 : x 22 = _ := hp 22 (by decide)
          go_wp2
          exact done_of (.bool true) rfl (Below.refl _ _) (by simp only [Act.put, List.setIfInBounds_toArray, List.set_cons_succ, List.set_cons_zero])
        · have p23 : x 23 = _ := hp 23 (by decide)
          go_wp2
          exact done_of (x 23) p23 (Below.refl _ _) (by simp only [Act.put, List.setIfInBounds_toArray, List.set_cons_succ, List.set_cons_zero])
      case hend =>
        intro x wx A' hA' hT0 hS
        have hT : Below wr.heap.size wr wx := ⟨hT0.os, hT0.tape, hT0.output, hT0.size, hT0.block⟩
        clear hT0
        have p24 : x 24 = .bool true := hS 24 (by decide)
        simp only [putAll, Act.put, List.setIfInBounds_toArray, List.set_cons_succ, List.set_cons_zero, Nat.reduceAdd] at hA'
        subst hA'
        rw [p24]
        go_wp2
        go_ret
        exact ⟨rfl, hB.trans (hT.mono hB.size)⟩
end Go.Proofs.YtkgnihpcldgedaaDoor
