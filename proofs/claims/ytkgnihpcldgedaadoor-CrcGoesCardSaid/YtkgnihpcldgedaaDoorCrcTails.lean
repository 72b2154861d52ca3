/- CrcTails: the walk of the law. -/
import Derived.Test.YtkgnihpcldgedaaDoorCrcTail
import Derived.Test.YtkgnihpcldgedaaDoorCrcBurst
namespace Go.Proofs.YtkgnihpcldgedaaDoor
open Go.RowKit

theorem word_inj (a b c d e f g h : UInt8) : PCrc.word a b c d = PCrc.word e f g h ↔ a = e ∧ b = f ∧ c = g ∧ d = h := by
  rw [PCrc.word_eq, PCrc.word_eq]
  have A := a.toNat_lt; have B := b.toNat_lt; have C := c.toNat_lt; have D := d.toNat_lt
  have E := e.toNat_lt; have F := f.toNat_lt; have G := g.toNat_lt; have H := h.toNat_lt
  simp only [← UInt8.toNat_inj]
  omega
theorem Parts.two {w : World} {g : Nat} {v u : Value} {l m : List UInt8} (h : Byt w v l) (h' : Byt w u m) (t : TypeId) (hg : w.heap.size = g) : Parts (w.alloc (.cells #[v, u] t)) (.slice (some ⟨g, 0, none⟩) 2 2) [l, m] :=
  Parts.of_new [v, u] [l, m] hg rfl rfl (by simp [maxLen]) fun i h1 h2 => by
    match i, h1, h2 with
    | 0, _, _ => exact h
    | 1, _, _ => exact h'
def TailsS (g5 g7 n : Nat) (A : Option Addr) (ca t : Nat) (b : List UInt8) (o0 o1 o2 o3 t0 t1 t2 t3 : UInt8) (zz : Bool) : Nat → Value → World → Prop
  | 0, v, _ => v = .slice A n ca
  | 1, v, _ => v = .slice (some ⟨g7, 0, none⟩) 4 4
  | 2, v, w => Parts w v [b, [t0, t1, t2, t3]]
  | 3, v, _ => v = .int .u32 (t : Int)
  | 4, v, _ => v = .int .u32 (t : Int)
  | 7, v, _ => v = .slice A n ca
  | 8, v, _ => v = .slice (some ⟨g5, 0, none⟩) 4 4
  | 9, v, w => Parts w v [b, [o0, o1, o2, o3]]
  | 10, v, _ => v = .int .u32 (PCrc.of (b ++ [o0, o1, o2, o3]) : Nat)
  | 11, v, _ => v = .int .u32 (t : Int)
  | 12, v, _ => v = .bool zz
  | 13, v, _ => v = .agg #[.int .u8 (o0.toNat : Int), .int .u8 (o1.toNat : Int), .int .u8 (o2.toNat : Int), .int .u8 (o3.toNat : Int)]
  | 14, v, _ => v = .agg #[.int .u8 (t0.toNat : Int), .int .u8 (t1.toNat : Int), .int .u8 (t2.toNat : Int), .int .u8 (t3.toNat : Int)]
  | 15, v, _ => v = .bool zz
  | _, v, _ => v = .bool true
theorem TailsS.keep (g5 g7 n : Nat) (A : Option Addr) (ca t : Nat) (b : List UInt8) (o0 o1 o2 o3 t0 t1 t2 t3 : UInt8) (zz : Bool) (i : Nat) (v : Value) (w w' : World) (hs : TailsS g5 g7 n A ca t b o0 o1 o2 o3 t0 t1 t2 t3 zz i v w) (hB : Below w.heap.size w w') : TailsS g5 g7 n A ca t b o0 o1 o2 o3 t0 t1 t2 t3 zz i v w' := by
  unfold TailsS at hs ⊢
  split <;> simp only at hs <;> first | exact hs | exact Parts.below hs hB
theorem CrcWhn.below {w w' : World} {B : Nat} (h : CrcWhn w) (hB : Below B w w') (hb : w.heap.size ≤ B) : CrcWhn w' := fun i hi => by
  rw [hB.cell (Nat.lt_of_lt_of_le (cell_lt (h i hi)) hb)]; exact h i hi

set_option maxRecDepth 100000 in
set_option maxHeartbeats 2000000 in
theorem tails_any (A : Option Addr) (ca : Nat) (b0 : List UInt8) (t : Nat) (o0 o1 o2 o3 : UInt8) (w : World) (ht : CrcTab w) (hw : CrcWhn w) (ha : Byt w (.slice A b0.length ca) b0) (htt : t < 4294967296) :
    Calls Tryd.prog 6 #[.slice A b0.length ca, .int .u32 (t : Int), .agg #[.int .u8 (o0.toNat : Int), .int .u8 (o1.toNat : Int), .int .u8 (o2.toNat : Int), .int .u8 (o3.toNat : Int)]] w fun r w' => r = .returned (.bool true) ∧ Below w.heap.size w w' := by
  obtain ⟨_, _, _, ra, ha1, ha2⟩ := id ha
  unfold maxLen at ha2
  obtain ⟨n, hn⟩ : ∃ n : Nat, n = min b0.length 1000 := ⟨_, rfl⟩
  have hmn : ∀ W : World, (Builtin.min_ #[3, 3] 3 #[.int .i64 (b0.length : Int), .int .i64 1000]).run Tryd.prog W = .ok (.int .i64 (n : Int)) W := fun W => by
    simp [Builtin.min_, Builtin.min2]
    split <;> omega
  have hna : n ≤ b0.length := by omega
  have hnk : n ≤ 1000 := by omega
  clear hn
  have hb := ha.take n hna
  obtain ⟨b, eb⟩ : ∃ b, b0.take n = b := ⟨_, rfl⟩
  have hbl : b.length = n := by rw [← eb]; simp; omega
  rw [eb] at hb
  have HL := Lib.hid hbl
  clear hbl eb
  go_enter Tryd.func6, Tryd.ntmps6
  go_wp2_with fail
  clear hmn
  refine (of_val _ [b] (PCrc.of b) _ (by simp) (by rw [tot_one, HL.out]; omega) (by exact (ht.alloc _).alloc _) (Parts.one (hb.alloc _) _ (by simp))).mono ?_
  rintro r w1 ⟨rfl, hB1⟩
  have hB : Below (w.heap.size + 1) (w.alloc (.cells (cells8 [o0, o1, o2, o3]).toArray 24)) w1 := ((Below.refl _ _).alloc (by simp) _).trans (hB1.mono (by simp))
  have hBo : Blk w1 w.heap.size 24 (cells8 [o0, o1, o2, o3]) := (hB.block _ (by omega)).trans (Blk.new w 24 (cells8 [o0, o1, o2, o3]))
  have hBw : Below w.heap.size w w1 := ((Below.refl _ _).alloc (Nat.le_refl _) _).trans (hB.mono (by omega))
  clear hB1 hB
  go_wp2_with fail
  refine (tail_any (PCrc.of b) t _ (PCrc.of_lt b) htt (ht.below hBw (Nat.le_refl _)) (hw.below hBw (Nat.le_refl _))).mono ?_
  rintro r w2 ⟨rfl, hB2⟩
  have HW := Lib.hid (word_tb _ (PCrc.tail_lt (PCrc.of b) t (PCrc.of_lt b) htt))
  obtain ⟨t0, e0⟩ : ∃ t0, tb (PCrc.tail (PCrc.of b) t) 0 = t0 := ⟨_, rfl⟩
  obtain ⟨t1, e1⟩ : ∃ t1, tb (PCrc.tail (PCrc.of b) t) 1 = t1 := ⟨_, rfl⟩
  obtain ⟨t2, e2⟩ : ∃ t2, tb (PCrc.tail (PCrc.of b) t) 2 = t2 := ⟨_, rfl⟩
  obtain ⟨t3, e3⟩ : ∃ t3, tb (PCrc.tail (PCrc.of b) t) 3 = t3 := ⟨_, rfl⟩
  rw [e0, e1, e2, e3] at HW ⊢
  clear e0 e1 e2 e3
  have hBo2 : Blk w2 w.heap.size 24 (cells8 [o0, o1, o2, o3]) := (hB2.block _ hBo.lt).trans hBo
  have hBw2 := hBw.trans (hB2.mono hBw.size)
  clear hB2 hBo hBw
  go_wp2
  generalize hwr : w2.alloc (Obj.cells #[.int .u8 (t0.toNat : Int), .int .u8 (t1.toNat : Int), .int .u8 (t2.toNat : Int), .int .u8 (t3.toNat : Int)] 24) = wr
  have hBt : Blk wr w2.heap.size 24 (cells8 [t0, t1, t2, t3]) := by rw [← hwr]; exact Blk.new w2 24 (cells8 [t0, t1, t2, t3])
  have hBo3 : Blk wr w.heap.size 24 (cells8 [o0, o1, o2, o3]) := by rw [← hwr]; exact hBo2.alloc _
  have hB3 : Below w.heap.size w wr := by rw [← hwr]; exact hBw2.alloc hBw2.size _
  clear hwr hBo2 hBw2
  obtain ⟨g7, e7⟩ : ∃ g7, w2.heap.size = g7 := ⟨_, rfl⟩
  rw [e7] at hBt ⊢
  clear e7
  have htr := ht.below hB3 (Nat.le_refl _)
  have hbb := hb.below hB3
  have hbt : Byt wr (.slice (some ⟨g7, 0, none⟩) 4 4) [t0, t1, t2, t3] := Byt.of_blk [t0, t1, t2, t3] hBt (by simp [maxLen])
  have hbo : Byt wr (.slice (some ⟨w.heap.size, 0, none⟩) 4 4) [o0, o1, o2, o3] := Byt.of_blk [o0, o1, o2, o3] hBo3 (by simp [maxLen])
  have HF1 := Lib.hid ((PCrc.of_tail b t htt t0 t1 t2 t3).2 HW.out)
  have HF2 := Lib.hid (PCrc.of_tail b t htt o0 o1 o2 o3)
  obtain ⟨zz, hzz⟩ : ∃ zz, decide (o0 = t0 ∧ o1 = t1 ∧ o2 = t2 ∧ o3 = t3) = zz := ⟨_, rfl⟩
  have HEq : Hid ((((PCrc.of (b ++ [o0, o1, o2, o3]) : Nat) : Int) == (t : Int)) = zz) := by
    rw [← hzz, Bool.eq_iff_iff, beq_iff_eq, decide_eq_true_eq, Int.natCast_inj, HF2.out, ← HW.out]; exact word_inj _ _ _ _ _ _ _ _
  have HAE : Hid (∀ W : World, (Op.equalIn 10000 24 (.agg #[.int .u8 (o0.toNat : Int), .int .u8 (o1.toNat : Int), .int .u8 (o2.toNat : Int), .int .u8 (o3.toNat : Int)]) (.agg #[.int .u8 (t0.toNat : Int), .int .u8 (t1.toNat : Int), .int .u8 (t2.toNat : Int), .int .u8 (t3.toNat : Int)])).run Tryd.prog W = .ok zz W) := by
    rw [← hzz]; exact eq4 o0 o1 o2 o3 t0 t1 t2 t3
  clear hzz
  refine wp_region_each (fun w w' => Below w.heap.size w w') (TailsS w.heap.size g7 n A ca t b o0 o1 o2 o3 t0 t1 t2 t3 zz)
    [some 18, some 19, some 20, some 21, some 22, some 23, some 24, some 25, some 26, some 27, some 28, some 29, some 30, some 31, some 32, some 33, some 34, some 35, some 36, some 37, some 38, some 6]
    [[], [], [0, 1], [2], [], [3, 4], [5, 3], [6], [6], [7, 8, 6], [9, 6, 6], [6], [10, 11, 6], [6], [6], [13, 14, 6], [12, 15, 6], [6, 16], [17, 10], [18, 18], [18, 19], [20, 19, 0, 1, 2, 3, 4, 5, 6, 7, 8, 9, 10, 11, 12, 13, 14, 15, 16, 17, 18, 19, 20]]
    (by kernel_rfl) rfl (by decide) (by rfl) (by decide) (fun w => Below.refl _ _) (fun _ _ _ h1 h2 => h1.trans (h2.mono h1.size)) (TailsS.keep _ _ _ _ _ _ _ _ _ _ _ _ _ _ _ _) ?hstep ?hend
  case hstep =>
    refine stepAll_cons ?_ (stepAll_cons ?_ (stepAll_cons ?_ (stepAll_cons ?_ (stepAll_cons ?_ (stepAll_cons ?_ (stepAll_cons ?_ (stepAll_cons ?_ (stepAll_cons ?_ (stepAll_cons ?_ (stepAll_cons ?_ (stepAll_cons ?_ (stepAll_cons ?_ (stepAll_cons ?_ (stepAll_cons ?_ (stepAll_cons ?_ (stepAll_cons ?_ (stepAll_cons ?_ (stepAll_cons ?_ (stepAll_cons ?_ (stepAll_cons ?_ (stepAll_cons ?_ (stepAll_nil))))))))))))))))))))))
    all_goals
      intro x wx A' hA' hT0 hp hu
      clear hu
      have hT : Below wr.heap.size wr wx := ⟨hT0.os, hT0.tape, hT0.output, hT0.size, hT0.block⟩
      clear hT0
      simp only [putAll, Act.put, List.setIfInBounds_toArray, List.set_cons_succ, List.set_cons_zero, Nat.reduceAdd] at hA'
      subst hA'
    · go_wp2
      exact done_of (.slice A n ca) rfl (Below.refl _ _) (by simp only [Act.put, List.setIfInBounds_toArray, List.set_cons_succ, List.set_cons_zero])
    · go_wp2
      exact done_of (.slice (some ⟨g7, 0, none⟩) 4 4) rfl (Below.refl _ _) (by simp only [Act.put, List.setIfInBounds_toArray, List.set_cons_succ, List.set_cons_zero])
    · have p0 : x 0 = _ := hp 0 (by decide)
      have p1 : x 1 = _ := hp 1 (by decide)
      go_wp2
      exact done_of (.slice (some ⟨wx.heap.size, 0, none⟩) 2 2) (Parts.two (hbb.below hT) (hbt.below hT) _ rfl) ((Below.refl _ _).alloc (Nat.le_refl _) _) (by simp only [Act.put, List.setIfInBounds_toArray, List.set_cons_succ, List.set_cons_zero])
    · have q2 : Parts wx (x 2) [b, [t0, t1, t2, t3]] := hp 2 (by decide)
      go_wp2_with fail
      refine (of_val _ [b, [t0, t1, t2, t3]] t _ (by simp [HF1.out]) (by simp [total, HL.out]; omega) (htr.below hT (Nat.le_refl _)) q2).mono ?_
      rintro e' w1 ⟨rfl, hBx⟩
      go_wp2
      exact done_of (.int .u32 (t : Int)) rfl hBx (by simp only [Act.put, List.setIfInBounds_toArray, List.set_cons_succ, List.set_cons_zero])
    · go_wp2
      exact done_of (.int .u32 (t : Int)) rfl (Below.refl _ _) (by simp only [Act.put, List.setIfInBounds_toArray, List.set_cons_succ, List.set_cons_zero])
    · have p3 : x 3 = _ := hp 3 (by decide)
      have p4 : x 4 = _ := hp 4 (by decide)
      go_wp2
      exact done_of (.bool true) rfl (Below.refl _ _) (by simp only [Act.put, List.setIfInBounds_toArray, List.set_cons_succ, List.set_cons_zero])
    · have p5 : x 5 = _ := hp 5 (by decide)
      go_wp2
      exact done_of (x 5) p5 (Below.refl _ _) (by simp only [Act.put, List.setIfInBounds_toArray, List.set_cons_succ, List.set_cons_zero])
    · have p6 : x 6 = _ := hp 6 (by decide)
      go_wp2
      exact done_of (.slice A n ca) rfl (Below.refl _ _) (by simp only [Act.put, List.setIfInBounds_toArray, List.set_cons_succ, List.set_cons_zero, p6])
    · have p6 : x 6 = _ := hp 6 (by decide)
      go_wp2
      exact done_of (.slice (some ⟨w.heap.size, 0, none⟩) 4 4) rfl (Below.refl _ _) (by simp only [Act.put, List.setIfInBounds_toArray, List.set_cons_succ, List.set_cons_zero, p6])
    · have p6 : x 6 = _ := hp 6 (by decide)
      have p7 : x 7 = _ := hp 7 (by decide)
      have p8 : x 8 = _ := hp 8 (by decide)
      go_wp2
      exact done_of (.slice (some ⟨wx.heap.size, 0, none⟩) 2 2) (Parts.two (hbb.below hT) (hbo.below hT) _ rfl) ((Below.refl _ _).alloc (Nat.le_refl _) _) (by simp only [Act.put, List.setIfInBounds_toArray, List.set_cons_succ, List.set_cons_zero, p6, p7, p8])
    · have p6 : x 6 = _ := hp 6 (by decide)
      have q9 : Parts wx (x 9) [b, [o0, o1, o2, o3]] := hp 9 (by decide)
      go_wp2_with fail
      refine (of_val _ [b, [o0, o1, o2, o3]] (PCrc.of (b ++ [o0, o1, o2, o3])) _ (by simp) (by simp [total, HL.out]; omega) (htr.below hT (Nat.le_refl _)) q9).mono ?_
      rintro e' w1 ⟨rfl, hBx⟩
      go_wp2
      exact done_of (.int .u32 (PCrc.of (b ++ [o0, o1, o2, o3]) : Nat)) rfl hBx (by simp only [Act.put, List.setIfInBounds_toArray, List.set_cons_succ, List.set_cons_zero, p6])
    · have p6 : x 6 = _ := hp 6 (by decide)
      go_wp2
      exact done_of (.int .u32 (t : Int)) rfl (Below.refl _ _) (by simp only [Act.put, List.setIfInBounds_toArray, List.set_cons_succ, List.set_cons_zero, p6])
    · have p6 : x 6 = _ := hp 6 (by decide)
      have hEq := HEq.out
      have p10 : x 10 = _ := hp 10 (by decide)
      have p11 : x 11 = _ := hp 11 (by decide)
      go_wp2
      exact done_of (.bool zz) rfl (Below.refl _ _) (by simp only [Act.put, List.setIfInBounds_toArray, List.set_cons_succ, List.set_cons_zero, p6, p10, p11])
    · have p6 : x 6 = _ := hp 6 (by decide)
      have hBx : Blk wx w.heap.size 24 (cells8 [o0, o1, o2, o3]) := (hT.block _ hBo3.lt).trans hBo3
      have c0 : wx.cell? ⟨w.heap.size, 0, none⟩ = some (.int .u8 (o0.toNat : Int)) := hBx.cell 0
      have c1 : wx.cell? ⟨w.heap.size, 1, none⟩ = some (.int .u8 (o1.toNat : Int)) := hBx.cell 1
      have c2 : wx.cell? ⟨w.heap.size, 2, none⟩ = some (.int .u8 (o2.toNat : Int)) := hBx.cell 2
      have c3 : wx.cell? ⟨w.heap.size, 3, none⟩ = some (.int .u8 (o3.toNat : Int)) := hBx.cell 3
      go_wp2
      exact done_of (.agg #[.int .u8 (o0.toNat : Int), .int .u8 (o1.toNat : Int), .int .u8 (o2.toNat : Int), .int .u8 (o3.toNat : Int)]) rfl (Below.refl _ _) (by simp only [Act.put, List.setIfInBounds_toArray, List.set_cons_succ, List.set_cons_zero, p6])
    · have p6 : x 6 = _ := hp 6 (by decide)
      have hBx : Blk wx g7 24 (cells8 [t0, t1, t2, t3]) := (hT.block _ hBt.lt).trans hBt
      have c0 : wx.cell? ⟨g7, 0, none⟩ = some (.int .u8 (t0.toNat : Int)) := hBx.cell 0
      have c1 : wx.cell? ⟨g7, 1, none⟩ = some (.int .u8 (t1.toNat : Int)) := hBx.cell 1
      have c2 : wx.cell? ⟨g7, 2, none⟩ = some (.int .u8 (t2.toNat : Int)) := hBx.cell 2
      have c3 : wx.cell? ⟨g7, 3, none⟩ = some (.int .u8 (t3.toNat : Int)) := hBx.cell 3
      go_wp2
      exact done_of (.agg #[.int .u8 (t0.toNat : Int), .int .u8 (t1.toNat : Int), .int .u8 (t2.toNat : Int), .int .u8 (t3.toNat : Int)]) rfl (Below.refl _ _) (by simp only [Act.put, List.setIfInBounds_toArray, List.set_cons_succ, List.set_cons_zero, p6])
    · have p6 : x 6 = _ := hp 6 (by decide)
      have hae := HAE.out
      have hgd := guard4
      have p13 : x 13 = _ := hp 13 (by decide)
      have p14 : x 14 = _ := hp 14 (by decide)
      go_wp2
      exact done_of (.bool zz) rfl (Below.refl _ _) (by simp only [Act.put, List.setIfInBounds_toArray, List.set_cons_succ, List.set_cons_zero, p6, p13, p14])
    · have p6 : x 6 = _ := hp 6 (by decide)
      have p12 : x 12 = _ := hp 12 (by decide)
      have p15 : x 15 = _ := hp 15 (by decide)
      go_wp2
      exact done_of (.bool true) rfl (Below.refl _ _) (by simp only [Act.put, List.setIfInBounds_toArray, List.set_cons_succ, List.set_cons_zero, p6, p12, p15])
    · have p6 : x 6 = _ := hp 6 (by decide)
      have p16 : x 16 = _ := hp 16 (by decide)
      go_wp2
      exact done_of (.bool true) rfl (Below.refl _ _) (by simp only [Act.put, List.setIfInBounds_toArray, List.set_cons_succ, List.set_cons_zero])
    · have p17 : x 17 = _ := hp 17 (by decide)
      go_wp2
      exact done_of (x 17) p17 (Below.refl _ _) (by simp only [Act.put, List.setIfInBounds_toArray, List.set_cons_succ, List.set_cons_zero])
    · have p18 : x 18 = _ := hp 18 (by decide)
      go_wp2_with fail
      refine (tells_any _ (htr.below hT (Nat.le_refl _))).mono ?_
      rintro e' w1 ⟨rfl, hBx⟩
      go_wp2
      exact done_of (.bool true) rfl hBx (by simp only [Act.put, List.setIfInBounds_toArray, List.set_cons_succ, List.set_cons_zero, p18])
    · have p18 : x 18 = _ := hp 18 (by decide)
      have p19 : x 19 = _ := hp 19 (by decide)
      go_wp2
      exact done_of (.bool true) rfl (Below.refl _ _) (by simp only [Act.put, List.setIfInBounds_toArray, List.set_cons_succ, List.set_cons_zero])
    · have p20 : x 20 = _ := hp 20 (by decide)
      go_wp2
      exact done_of (x 20) p20 (Below.refl _ _) (by simp only [Act.put, List.setIfInBounds_toArray, List.set_cons_succ, List.set_cons_zero])
  case hend =>
    intro x wx A' hA' hT0 hS
    have hT : Below wr.heap.size wr wx := ⟨hT0.os, hT0.tape, hT0.output, hT0.size, hT0.block⟩
    clear hT0
    simp only [putAll, Act.put, List.setIfInBounds_toArray, List.set_cons_succ, List.set_cons_zero, Nat.reduceAdd] at hA'
    subst hA'
    have p21 : x 21 = .bool true := hS 21 (by decide)
    rw [p21]
    go_wp2
    go_ret
    exact ⟨rfl, hB3.trans (hT.mono hB3.size)⟩
end Go.Proofs.YtkgnihpcldgedaaDoor
