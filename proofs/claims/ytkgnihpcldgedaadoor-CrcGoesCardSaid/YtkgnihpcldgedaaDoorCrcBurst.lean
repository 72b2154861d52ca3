/- CrcBurst: the walk of the law. -/
import Derived.Test.YtkgnihpcldgedaaDoorCrcThree
import Derived.Test.YtkgnihpcldgedaaDoorOwn
import Derived.ChangeKeysEq
namespace Go.Proofs.YtkgnihpcldgedaaDoor
open Go.RowKit

/-- after i rounds. -/
def xt (b : List UInt8) (k : Nat) (bys : List UInt8) : Nat → List UInt8
  | 0 => b
  | i + 1 => (xt b k bys i).set (k + i) ((xt b k bys i).getD (k + i) 0 ^^^ bys.getD i 0)
theorem xt_len (b : List UInt8) (k : Nat) (bys : List UInt8) (i : Nat) : (xt b k bys i).length = b.length := by
  induction i with
  | zero => rfl
  | succ i ih => simp [xt, ih]
theorem xt_four (b : List UInt8) (k : Nat) (e f g h : UInt8) (hk : k + 4 ≤ b.length) :
    PCrc.of b = PCrc.of (xt b k [e, f, g, h] 4) ↔ e = 0 ∧ f = 0 ∧ g = 0 ∧ h = 0 := by
  obtain ⟨p, q0, q1, q2, q3, r, rfl, hp⟩ : ∃ p q0 q1 q2 q3 r, b = p ++ ([q0, q1, q2, q3] ++ r) ∧ p.length = k := by
    refine ⟨b.take k, b[k], b[k + 1], b[k + 2], b[k + 3], b.drop (k + 4), ?_, by simp; omega⟩
    conv => lhs; rw [← List.take_append_drop k b]
    congr 1
    rw [List.drop_eq_getElem_cons (by omega), List.drop_eq_getElem_cons (by omega), List.drop_eq_getElem_cons (by omega), List.drop_eq_getElem_cons (by omega)]
    rfl
  subst hp
  have e1 : xt (p ++ ([q0, q1, q2, q3] ++ r)) p.length [e, f, g, h] 4 = p ++ ([q0 ^^^ e, q1 ^^^ f, q2 ^^^ g, q3 ^^^ h] ++ r) := by
    simp [xt]
  rw [e1]
  have hM : (4294967295 : Nat) < 4294967296 := by omega
  have hs := PCrc.reg_lt p 4294967295 hM
  have hb := PCrc.reg_burst (PCrc.reg 4294967295 p) hs q0 q1 q2 q3 e f g h r
  rw [← hb]
  unfold PCrc.of
  rw [PCrc.reg_append 4294967295 p ([q0, q1, q2, q3] ++ r), PCrc.reg_append 4294967295 p ([q0 ^^^ e, q1 ^^^ f, q2 ^^^ g, q3 ^^^ h] ++ r)]
  constructor
  · intro hh
    have l1 := PCrc.reg_lt ([q0, q1, q2, q3] ++ r) _ hs
    have l2 := PCrc.reg_lt ([q0 ^^^ e, q1 ^^^ f, q2 ^^^ g, q3 ^^^ h] ++ r) _ hs
    rw [← PCrc.inv_inv _ l1, ← PCrc.inv_inv _ l2, hh]
  · intro hh; rw [hh]
theorem info8' : (Tryd.prog.info? 5).map (fun i => (i.zero, i.size, i.bytes)) = some (some (.int .u8 0), 1, 1) := info8

def BurstS (g0 n cap : Nat) (A : Option Addr) (ca : Nat) (b o : List UInt8) (e f g h : UInt8) (zz : Bool) : Nat → Value → World → Prop
  | 0, v, _ => v = .slice A n ca
  | 1, v, w => Parts w v [b]
  | 2, v, _ => v = .int .u32 (PCrc.of b : Nat)
  | 3, v, _ => v = .slice (some ⟨g0, 0, none⟩) n cap
  | 4, v, w => Parts w v [o]
  | 5, v, _ => v = .int .u32 (PCrc.of o : Nat)
  | 6, v, _ => v = .bool zz
  | 7, v, _ => v = .agg #[.int .u8 (e.toNat : Int), .int .u8 (f.toNat : Int), .int .u8 (g.toNat : Int), .int .u8 (h.toNat : Int)]
  | 8, v, _ => v = .agg #[.int .u8 0, .int .u8 0, .int .u8 0, .int .u8 0]
  | 9, v, _ => v = .bool zz
  | _, v, _ => v = .bool true
theorem BurstS.keep (g0 n cap : Nat) (A : Option Addr) (ca : Nat) (b o : List UInt8) (e f g h : UInt8) (zz : Bool) (i : Nat) (v : Value) (w w' : World) (hs : BurstS g0 n cap A ca b o e f g h zz i v w) (hB : Below w.heap.size w w') : BurstS g0 n cap A ca b o e f g h zz i v w' := by
  unfold BurstS at hs ⊢
  split <;> simp only at hs <;> first | exact hs | exact Parts.below hs hB
theorem u8_beq (x y : UInt8) : ((x.toNat : Int) == (y.toNat : Int)) = (x == y) := by
  rw [Bool.eq_iff_iff, beq_iff_eq, beq_iff_eq, ← UInt8.toNat_inj]; omega
theorem guard4 : Tryd.prog.eqGuardType Tryd.prog.depth 24 = false := by kernel_rfl
theorem cells8u : Tryd.prog.cellsOf 5 = 1 := by kernel_rfl
theorem part4 (v0 v1 v2 v3 : Value) (W : World) : (part 5 #[v0, v1, v2, v3] (0 * 1)).run Tryd.prog W = .ok v0 W ∧ (part 5 #[v0, v1, v2, v3] (1 * 1)).run Tryd.prog W = .ok v1 W ∧ (part 5 #[v0, v1, v2, v3] (2 * 1)).run Tryd.prog W = .ok v2 W ∧ (part 5 #[v0, v1, v2, v3] (3 * 1)).run Tryd.prog W = .ok v3 W := by
  obtain ⟨i8, hi, hz, hs, hb⟩ := info_parts info8
  refine ⟨?_, ?_, ?_, ?_⟩ <;> simp [part, sizeOf, typeInfo, hi, hs]
theorem eq4 (e f g h a b c d : UInt8) (W : World) : (Op.equalIn 10000 24 (.agg #[.int .u8 (e.toNat : Int), .int .u8 (f.toNat : Int), .int .u8 (g.toNat : Int), .int .u8 (h.toNat : Int)]) (.agg #[.int .u8 (a.toNat : Int), .int .u8 (b.toNat : Int), .int .u8 (c.toNat : Int), .int .u8 (d.toNat : Int)])).run Tryd.prog W = .ok (decide (e = a ∧ f = b ∧ g = c ∧ h = d)) W := by
  obtain ⟨i8, hi, hz, hs, hb⟩ := info_parts info8
  rw [run_equalIn_array W 9999 _ _ Tryd.underlying24 hi, cells8u]
  simp only [List.range_succ, List.range_zero, List.nil_append, List.cons_append, Op.eqItems, Sem.run_bind]
  have q : ∀ x y : UInt8, (Op.equalIn 9999 5 (.int .u8 (x.toNat : Int)) (.int .u8 (y.toNat : Int))).run Tryd.prog W = .ok (x == y) W := fun x y => by
    rw [← u8_beq]; exact run_equalIn_int W 9998 5 .u8 .u8 _ _ Tryd.underlying5
  have p0 := fun v0 v1 v2 v3 => (part4 v0 v1 v2 v3 W).1
  have p1 := fun v0 v1 v2 v3 => (part4 v0 v1 v2 v3 W).2.1
  have p2 := fun v0 v1 v2 v3 => (part4 v0 v1 v2 v3 W).2.2.1
  have p3 := fun v0 v1 v2 v3 => (part4 v0 v1 v2 v3 W).2.2.2
  simp only [p0, q, Result.andThen_ok]
  by_cases h1 : e = a
  · by_cases h2 : f = b
    · by_cases h3 : g = c
      · by_cases h4 : h = d
        · subst h1 h2 h3 h4
          simp [p1, p2, p3, q]
        · subst h1 h2 h3
          have n4 : (h == d) = false := by simpa using h4
          simp [p1, p2, p3, q, h4]
      · subst h1 h2
        simp [p1, p2, q, h3]
    · subst h1
      simp [p1, q, h2]
  · simp [h1]
set_option maxRecDepth 100000 in
set_option maxHeartbeats 2000000 in
theorem burst_any (A : Option Addr) (ca : Nat) (b0 : List UInt8) (at_ : Nat) (e f g h : UInt8) (w : World) (ht : CrcTab w) (ha : Byt w (.slice A b0.length ca) b0) (hat : at_ < 65536) :
    Calls Tryd.prog 3 #[.slice A b0.length ca, .int .u16 (at_ : Int), .agg #[.int .u8 (e.toNat : Int), .int .u8 (f.toNat : Int), .int .u8 (g.toNat : Int), .int .u8 (h.toNat : Int)]] w fun r w' => r = .returned (.bool true) ∧ Below w.heap.size w w' := by
  obtain ⟨_, _, _, ra, ha1, ha2⟩ := id ha
  unfold maxLen at ha2
  obtain ⟨n, hn⟩ : ∃ n : Nat, n = min b0.length 2000 := ⟨_, rfl⟩
  have hmn : ∀ W : World, (Builtin.min_ #[3, 3] 3 #[.int .i64 (b0.length : Int), .int .i64 2000]).run Tryd.prog W = .ok (.int .i64 (n : Int)) W := fun W => by
    simp [Builtin.min_, Builtin.min2]
    split <;> omega
  have hna : n ≤ b0.length := by omega
  have hnk : n ≤ 2000 := by omega
  clear hn
  by_cases h4 : n < 4
  · go_enter Tryd.func3, Tryd.ntmps3
    go_wp2_with fail
    refine (tells_any _ (ht.alloc _)).mono ?_
    rintro r w1 ⟨rfl, hB⟩
    go_wp2
    go_ret
    exact ⟨rfl, ((Below.refl _ _).alloc (Nat.le_refl _) _).trans (hB.mono (by simp))⟩
  · have hn4 : 4 ≤ n := by omega
    clear h4
    have hb := ha.take n hna
    obtain ⟨b, eb⟩ : ∃ b, b0.take n = b := ⟨_, rfl⟩
    have hbl : b.length = n := by rw [← eb]; simp; omega
    rw [eb] at hb
    have rb : Rd w A (cells8 b) := by
      obtain ⟨A', c', e', hr, _⟩ := id hb
      injection e' with e1
      subst e1; exact hr
    have HL := Lib.hid hbl
    clear hbl eb
    obtain ⟨k, hk⟩ : ∃ k : Nat, k = at_ % (n - 3) := ⟨_, rfl⟩
    have hk4 : k + 4 ≤ n := by have := Nat.mod_lt at_ (show 0 < n - 3 by omega); omega
    have hkk : ((at_ : Int) % ((n : Int) - 3)) = (k : Int) := by
      rw [hk, show ((n : Int) - 3) = ((n - 3 : Nat) : Int) by omega]; exact (Int.natCast_emod _ _).symm
    clear hk
    obtain ⟨i8, hi, hz, hs, hby⟩ := info_parts info8
    go_enter Tryd.func3, Tryd.ntmps3
    go_wp2_with (at_builtin; refine wpList_append_rd _ rfl _ _ 22 rfl (w.heap.size + 1) 5 i8 (.int .u8 0) 1 1 Tryd.underlying22 hi hz hs hby rfl (by decide) (.slice none 0 0) 0 [] rfl (own_nil _ _ _ _) A n ca (cells8 b) rfl (by simp [cells8, HL.out]) (rb.alloc _) (cells8_one b) (by simp [maxLen]; omega) (by omega) (by simp) ?_)
    intro v' w1 hown hg hnil _
    have hv' : v' ≠ .slice none 0 0 := fun hc => by have := hnil.1 hc; omega
    have hB0 : Below (w.heap.size + 1) (w.alloc (.cells #[.int .u8 (e.toNat : Int), .int .u8 (f.toNat : Int), .int .u8 (g.toNat : Int), .int .u8 (h.toNat : Int)] 24)) w1 :=
      (Below.refl _ _).grown hg (by simp) (by simp [Value.ownBlock])
    have hBy : Blk w1 w.heap.size 24 (cells8 [e, f, g, h]) := (hB0.block _ (by omega)).trans (Blk.new w 24 (cells8 [e, f, g, h]))
    have hBw : Below w.heap.size w w1 := ((Below.refl _ _).alloc (Nat.le_refl _) _).trans (hB0.mono (by omega))
    clear hg hnil hB0
    obtain ⟨g0, cap, rfl, hg0, hcap, hcm, _⟩ := own_form hown hv'
    clear hv' hmn
    unfold maxLen at hcm
    go_wp2
    rw [hkk]
    clear hkk
    go_loopw [9, 27] (fun _ j wr => ∃ i : Nat, i ≤ 4 ∧ j = .int .i64 i ∧ wr.ownsRow (w.heap.size + 1) 5 1 (.slice (some ⟨g0, 0, none⟩) n cap) n (cells8 (xt b k [e, f, g, h] i)) ∧ Blk wr w.heap.size 24 (cells8 [e, f, g, h]) ∧ Below w.heap.size w wr) (fun _ j _ => 4 - (intOf j).toNat)
    case atStart => exact ⟨0, by omega, rfl, hown, hBy, hBw⟩
    case round =>
      clear hown hBy hBw
      obtain ⟨i, hi4, rfl, hown, hBy, hB⟩ := hrel
      by_cases hlt : i < 4
      · have hxl := xt_len b k [e, f, g, h] i
        rw [HL.out] at hxl
        have hki : k + i < n := by omega
        have q1 := hown.cellAt (k + i) (by omega)
        rw [cells8_get _ _ (by omega)] at q1
        have q2 := hBy.cell i
        rw [cells8_get _ _ (by simpa using hlt)] at q2
        have f1 := hown.frozenAt (k + i)
        have HX : Hid (xt b k [e, f, g, h] (i + 1) = (xt b k [e, f, g, h] i).set (k + i) ((xt b k [e, f, g, h] i).getD (k + i) 0 ^^^ [e, f, g, h].getD i 0)) := rfl
        obtain ⟨X, eX⟩ : ∃ X, (xt b k [e, f, g, h] i).getD (k + i) 0 = X := ⟨_, rfl⟩
        obtain ⟨Y, eY⟩ : ∃ Y, [e, f, g, h].getD i 0 = Y := ⟨_, rfl⟩
        rw [eX] at q1 HX
        rw [eY] at q2 HX
        clear eX eY hxl
        have hX := X.toNat_lt
        have hY := Y.toNat_lt
        have hxor := u8_xor_nat X.toNat Y.toNat (by omega) (by omega)
        have hsum : IntKind.i64.wrap ((k : Int) + (i : Int)) = (k : Int) + (i : Int) := IntWalk.i64_in _ (by omega)
        have z1 : (0 : Int) ≤ (k : Int) + i := by omega
        have z2 : (k : Int) + i < n := by omega
        have z3 : ((k : Int) + (i : Int)).toNat = k + i := by omega
        have z4 : (i : Int) < 4 := by omega
        clear hi4
        go_wp2
        go_still_tail 11, (by kernel_rfl)
        change wpList _ _ _ _ _ wr.drew
        go_wp2
        go_roundw
        case rel =>
          refine ⟨i + 1, by omega, by go_num, ?_, hBy.far (p := ⟨g0, k + i, none⟩) (by show w.heap.size ≠ g0; omega) _, (hB.setCell (by show w.heap.size ≤ g0; omega) _).drew⟩
          rw [HX.out, cells8_set _ (k + i) _ (X.toNat ^^^ Y.toNat) (by simp)]
          exact (hown.stored _ _).1
        case measure => simp [intOf]; omega
      · have e4 : i = 4 := by omega
        rw [e4] at hown
        clear e4
        have HF := Lib.hid (xt_four b k e f g h (by rw [HL.out]; exact hk4))
        have hol : (xt b k [e, f, g, h] 4).length = n := by rw [xt_len, HL.out]
        obtain ⟨o, eo⟩ : ∃ o, xt b k [e, f, g, h] 4 = o := ⟨_, rfl⟩
        rw [eo] at HF hown hol
        clear eo
        have hbo : Byt wr (.slice (some ⟨g0, 0, none⟩) n cap) o := by
          rw [← hol] at hown ⊢
          exact own_byt hown
        have hbb : Byt wr (.slice A n ca) b := hb.below hB
        have HO := Lib.hid hol
        have htr := ht.below hB (Nat.le_refl _)
        clear hol hown
        obtain ⟨zz, hzz⟩ : ∃ zz, decide (e = 0 ∧ f = 0 ∧ g = 0 ∧ h = 0) = zz := ⟨_, rfl⟩
        have HEq : Hid ((((PCrc.of b : Nat) : Int) == ((PCrc.of o : Nat) : Int)) = zz) := by
          rw [← hzz, Bool.eq_iff_iff, beq_iff_eq, decide_eq_true_eq, ← HF.out]; exact Int.natCast_inj
        have HAE : Hid (∀ W : World, (Op.equalIn 10000 24 (.agg #[.int .u8 (e.toNat : Int), .int .u8 (f.toNat : Int), .int .u8 (g.toNat : Int), .int .u8 (h.toNat : Int)]) (.agg #[.int .u8 0, .int .u8 0, .int .u8 0, .int .u8 0])).run Tryd.prog W = .ok zz W) := by
          rw [← hzz]; exact eq4 e f g h 0 0 0 0
        clear hzz
        go_wp2
        refine wp_region_each (fun w w' => Below w.heap.size w w') (BurstS g0 n cap A ca b o e f g h zz)
          [some 42, some 43, some 44, some 45, some 46, some 47, some 48, some 49, some 50, some 51, some 52, some 53, some 54, some 55, some 6]
          [[], [0], [1], [], [3], [4, 2], [2, 5], [], [], [7, 8], [6, 9], [10, 5], [11, 11], [11, 12], [13, 12, 0, 1, 2, 3, 4, 5, 6, 7, 8, 9, 10, 11, 12, 13]]
          (by kernel_rfl) rfl (by decide) (by rfl) (by decide) (fun w => Below.refl _ _) (fun _ _ _ h1 h2 => h1.trans (h2.mono h1.size)) (BurstS.keep _ _ _ _ _ _ _ _ _ _ _ _) ?hstep ?hend
        case hstep =>
          refine stepAll_cons ?_ (stepAll_cons ?_ (stepAll_cons ?_ (stepAll_cons ?_ (stepAll_cons ?_ (stepAll_cons ?_ (stepAll_cons ?_ (stepAll_cons ?_ (stepAll_cons ?_ (stepAll_cons ?_ (stepAll_cons ?_ (stepAll_cons ?_ (stepAll_cons ?_ (stepAll_cons ?_ (stepAll_cons ?_ (stepAll_nil)))))))))))))))
          all_goals
            intro x wx A' hA' hT0 hp hu
            clear hu
            have hT : Below wr.heap.size wr wx := ⟨hT0.os, hT0.tape, hT0.output, hT0.size, hT0.block⟩
            clear hT0
            simp only [putAll, Act.put, List.setIfInBounds_toArray, List.set_cons_succ, List.set_cons_zero, Nat.reduceAdd] at hA'
            subst hA'
          · go_wp2
            exact done_of (.slice A n ca) rfl (Below.refl _ _) (by simp only [Act.put, List.setIfInBounds_toArray, List.set_cons_succ, List.set_cons_zero])
          · have p0 : x 0 = _ := hp 0 (by decide)
            go_wp2
            exact done_of (.slice (some ⟨wx.heap.size, 0, none⟩) 1 1) (Parts.one (hbb.below hT) _ rfl) ((Below.refl _ _).alloc (Nat.le_refl _) _) (by simp only [Act.put, List.setIfInBounds_toArray, List.set_cons_succ, List.set_cons_zero])
          · have q1 : Parts wx (x 1) [b] := hp 1 (by decide)
            go_wp2_with fail
            refine (of_val _ [b] (PCrc.of b) _ (by simp) (by rw [tot_one, HL.out]; omega) (htr.below hT (Nat.le_refl _)) q1).mono ?_
            rintro e' w1 ⟨rfl, hBx⟩
            go_wp2
            exact done_of (.int .u32 (PCrc.of b : Nat)) rfl hBx (by simp only [Act.put, List.setIfInBounds_toArray, List.set_cons_succ, List.set_cons_zero])
          · go_wp2
            exact done_of (.slice (some ⟨g0, 0, none⟩) n cap) rfl (Below.refl _ _) (by simp only [Act.put, List.setIfInBounds_toArray, List.set_cons_succ, List.set_cons_zero])
          · have p3 : x 3 = _ := hp 3 (by decide)
            go_wp2
            exact done_of (.slice (some ⟨wx.heap.size, 0, none⟩) 1 1) (Parts.one (hbo.below hT) _ rfl) ((Below.refl _ _).alloc (Nat.le_refl _) _) (by simp only [Act.put, List.setIfInBounds_toArray, List.set_cons_succ, List.set_cons_zero])
          · have q4 : Parts wx (x 4) [o] := hp 4 (by decide)
            go_wp2_with fail
            refine (of_val _ [o] (PCrc.of o) _ (by simp) (by rw [tot_one, HO.out]; omega) (htr.below hT (Nat.le_refl _)) q4).mono ?_
            rintro e' w1 ⟨rfl, hBx⟩
            go_wp2
            exact done_of (.int .u32 (PCrc.of o : Nat)) rfl hBx (by simp only [Act.put, List.setIfInBounds_toArray, List.set_cons_succ, List.set_cons_zero])
          · have hEq := HEq.out
            have p2 : x 2 = _ := hp 2 (by decide)
            have p5 : x 5 = _ := hp 5 (by decide)
            go_wp2
            exact done_of (.bool zz) rfl (Below.refl _ _) (by simp only [Act.put, List.setIfInBounds_toArray, List.set_cons_succ, List.set_cons_zero])
          · have hBx : Blk wx w.heap.size 24 (cells8 [e, f, g, h]) := (hT.block _ hBy.lt).trans hBy
            have c0 : wx.cell? ⟨w.heap.size, 0, none⟩ = some (.int .u8 (e.toNat : Int)) := hBx.cell 0
            have c1 : wx.cell? ⟨w.heap.size, 1, none⟩ = some (.int .u8 (f.toNat : Int)) := hBx.cell 1
            have c2 : wx.cell? ⟨w.heap.size, 2, none⟩ = some (.int .u8 (g.toNat : Int)) := hBx.cell 2
            have c3 : wx.cell? ⟨w.heap.size, 3, none⟩ = some (.int .u8 (h.toNat : Int)) := hBx.cell 3
            go_wp2
            exact done_of (.agg #[.int .u8 (e.toNat : Int), .int .u8 (f.toNat : Int), .int .u8 (g.toNat : Int), .int .u8 (h.toNat : Int)]) rfl (Below.refl _ _) (by simp only [Act.put, List.setIfInBounds_toArray, List.set_cons_succ, List.set_cons_zero])
          · go_wp2
            exact done_of (.agg #[.int .u8 0, .int .u8 0, .int .u8 0, .int .u8 0]) rfl (Below.refl _ _) (by simp only [Act.put, List.setIfInBounds_toArray, List.set_cons_succ, List.set_cons_zero])
          · have hae := HAE.out
            have hgd := guard4
            have p7 : x 7 = _ := hp 7 (by decide)
            have p8 : x 8 = _ := hp 8 (by decide)
            go_wp2
            exact done_of (.bool zz) rfl (Below.refl _ _) (by simp only [Act.put, List.setIfInBounds_toArray, List.set_cons_succ, List.set_cons_zero])
          · have p6 : x 6 = _ := hp 6 (by decide)
            have p9 : x 9 = _ := hp 9 (by decide)
            go_wp2
            exact done_of (.bool true) rfl (Below.refl _ _) (by simp only [Act.put, List.setIfInBounds_toArray, List.set_cons_succ, List.set_cons_zero])
          · have p10 : x 10 = _ := hp 10 (by decide)
            go_wp2
            exact done_of (x 10) p10 (Below.refl _ _) (by simp only [Act.put, List.setIfInBounds_toArray, List.set_cons_succ, List.set_cons_zero])
          · have p11 : x 11 = _ := hp 11 (by decide)
            go_wp2_with fail
            refine (tells_any _ (htr.below hT (Nat.le_refl _))).mono ?_
            rintro e' w1 ⟨rfl, hBx⟩
            go_wp2
            exact done_of (.bool true) rfl hBx (by simp only [Act.put, List.setIfInBounds_toArray, List.set_cons_succ, List.set_cons_zero, p11])
          · have p11 : x 11 = _ := hp 11 (by decide)
            have p12 : x 12 = _ := hp 12 (by decide)
            go_wp2
            exact done_of (.bool true) rfl (Below.refl _ _) (by simp only [Act.put, List.setIfInBounds_toArray, List.set_cons_succ, List.set_cons_zero])
          · have p13 : x 13 = _ := hp 13 (by decide)
            go_wp2
            exact done_of (x 13) p13 (Below.refl _ _) (by simp only [Act.put, List.setIfInBounds_toArray, List.set_cons_succ, List.set_cons_zero])
        case hend =>
          intro x wx A' hA' hT0 hS
          have hT : Below wr.heap.size wr wx := ⟨hT0.os, hT0.tape, hT0.output, hT0.size, hT0.block⟩
          clear hT0
          simp only [putAll, Act.put, List.setIfInBounds_toArray, List.set_cons_succ, List.set_cons_zero, Nat.reduceAdd] at hA'
          subst hA'
          have p14 : x 14 = .bool true := hS 14 (by decide)
          rw [p14]
          go_wp2
          go_ret
          exact ⟨rfl, hB.trans (hT.mono hB.size)⟩
end Go.Proofs.YtkgnihpcldgedaaDoor
