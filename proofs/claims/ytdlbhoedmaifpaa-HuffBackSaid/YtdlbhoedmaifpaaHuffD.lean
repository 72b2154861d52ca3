/- HuffD: State of what may not be; the first codes. -/
import Derived.Test.YtdlbhoedmaifpaaHuffC
import Derived.Test.YtdlbhoedmaifpaaLib4
import Derived.StillTailTactics
namespace Go.Proofs.Ytdlbhoedmaifpaa
open Go.RowKit
set_option maxRecDepth 100000 in
theorem state_bad (A : Option Addr) (n c : Nat) (l : List Int) {w0 w : World} {L : List Pr} (H : Sp w0 L w) (hn : n = l.length) (hb : Ent L fun w => Rd w A (cells64 l)) (hl : n ≤ 1000000000) (hm : PH.may l = false) :
    Calls Try.prog 33 #[.slice A n c] w fun e w' => e = .returned (.tuple #[.int .i64 0, .int .i64 1]) ∧ Sp w0 L w' := by
  have hmay := hmay_ok A n c l H hn hb hl
  rw [hm] at hmay
  clear hn hb hm
  go_enter Try.func33, Try.ntmps33
  go_wp2_with fail
  refine hmay.mono ?_
  rintro _ w1 ⟨rfl, H1⟩
  clear hmay
  go_wp2_with fail
  go_ret2
  exact ⟨rfl, H1⟩
/-- Seventeen codes, as cells. -/
def cntU (f : Nat → Nat) : List Value := (List.range 17).map fun i => .int .u32 (f i : Int)
theorem cntU_get (f : Nat → Nat) (i : Nat) (h : i < 17) : (cntU f)[i]? = some (.int .u32 (f i : Int)) := by
  unfold cntU
  rw [List.getElem?_map, List.getElem?_range h]
  rfl
theorem cntU_set (f : Nat → Nat) (x v : Nat) : (cntU f).set x (.int .u32 (v : Int)) = cntU fun i => if i = x then v else f i := by
  apply List.ext_getElem?
  intro i
  rw [List.getElem?_set]
  by_cases h : i < 17
  · rw [cntU_get _ _ h, cntU_get _ _ h]
    by_cases e : x = i
    · subst e
      rw [if_pos rfl, if_pos (by simp [cntU]; exact h), if_pos rfl]
    · rw [if_neg e, if_neg (fun h => e h.symm)]
  · have h1 : (cntU f)[i]? = none := List.getElem?_eq_none (by simp [cntU]; omega)
    have h2 : (cntU fun i => if i = x then v else f i)[i]? = none := List.getElem?_eq_none (by simp [cntU]; omega)
    rw [h1, h2]
    split
    · rw [if_neg (by simp [cntU]; omega)]
    · rfl
theorem cntU_one (f : Nat → Nat) : ∀ v ∈ cntU f, v.oneCell' = true := by
  intro v hv
  obtain ⟨i, _, rfl⟩ := List.mem_map.1 hv
  rfl
set_option maxRecDepth 100000 in
set_option maxHeartbeats 4000000 in
theorem firsts_ok (m : List Nat) {w0 w : World} {L : List Pr} (H : Sp w0 L w) (hs : PH.sum m ≤ 32768) (hl : m.length ≤ 1024) :
    Calls Try.prog 59 #[tallyV m] w fun e w' => e = .returned (.agg (cntU (PH.fst m)).toArray) ∧ Sp w0 L w' := by
  have hf : ∀ k, k ≤ 16 → PH.fst m k ≤ 65536 := fun k hk => PH.fst_le m k hk hs
  have HF := Lib.hid hf
  clear hf
  obtain ⟨t, ht⟩ : ∃ t, Value.agg (cntU (PH.fst m)).toArray = t := ⟨_, rfl⟩
  rw [ht]
  have HT := Lib.hid ht
  clear ht
  have es1 : (w.alloc (.cells (cntV (PH.tal m)).toArray 112)).heap.size = w.heap.size + 1 := Array.size_push _
  have es2 : ((w.alloc (.cells (cntV (PH.tal m)).toArray 112)).alloc (.cells #[.int .u32 0, .int .u32 0, .int .u32 0, .int .u32 0, .int .u32 0, .int .u32 0, .int .u32 0, .int .u32 0, .int .u32 0, .int .u32 0, .int .u32 0, .int .u32 0, .int .u32 0, .int .u32 0, .int .u32 0, .int .u32 0, .int .u32 0] 117)).heap.size = w.heap.size + 1 + 1 := by
    rw [← es1]; exact Array.size_push _
  have H1 := ((H.newBk (cntV (PH.tal m)) 112).newBk [.int .u32 0, .int .u32 0, .int .u32 0, .int .u32 0, .int .u32 0, .int .u32 0, .int .u32 0, .int .u32 0, .int .u32 0, .int .u32 0, .int .u32 0, .int .u32 0, .int .u32 0, .int .u32 0, .int .u32 0, .int .u32 0, .int .u32 0] 117).newBk [.int .u32 0, .int .u32 0, .int .u32 0, .int .u32 0, .int .u32 0, .int .u32 0, .int .u32 0, .int .u32 0, .int .u32 0, .int .u32 0, .int .u32 0, .int .u32 0, .int .u32 0, .int .u32 0, .int .u32 0, .int .u32 0, .int .u32 0] 117
  rw [es2, es1] at H1
  clear es1 es2
  unfold tallyV
  go_enter Try.func59, Try.ntmps59
  go_wp2_with fail
  generalize w.heap.size + 1 + 1 = g3 at H1 ⊢
  generalize w.heap.size + 1 = g2 at H1 ⊢
  generalize w.heap.size = g1 at H1 ⊢
  generalize ((w.alloc _).alloc _).alloc _ = w1 at H1 ⊢
  obtain ⟨G3, hG3⟩ : ∃ G : Addr, (⟨g3, 0, none⟩ : Addr) = G := ⟨_, rfl⟩
  obtain ⟨G1, hG1⟩ : ∃ G : Addr, (⟨g1, 0, none⟩ : Addr) = G := ⟨_, rfl⟩
  rw [hG3, hG1]
  have HG3 := Lib.hid hG3
  have HG1 := Lib.hid hG1
  clear hG3 hG1
  go_loopw [4] (fun iv wr => ∃ i : Nat, iv = .int .i64 (i : Int) ∧ 1 ≤ i ∧ i ≤ 16 ∧ Sp w0 (Bk g3 117 (cntU (fun k => if k ≤ i then PH.fst m k else 0)) :: Bk g2 117 [.int .u32 0, .int .u32 0, .int .u32 0, .int .u32 0, .int .u32 0, .int .u32 0, .int .u32 0, .int .u32 0, .int .u32 0, .int .u32 0, .int .u32 0, .int .u32 0, .int .u32 0, .int .u32 0, .int .u32 0, .int .u32 0, .int .u32 0] :: Bk g1 112 (cntV (PH.tal m)) :: L) wr) (fun iv _ => 16 - (intOf iv).toNat)
  case atStart =>
    refine ⟨1, rfl, Nat.le_refl _, by omega, ?_⟩
    have e : cntU (fun k => if k ≤ 1 then PH.fst m k else 0) = [.int .u32 0, .int .u32 0, .int .u32 0, .int .u32 0, .int .u32 0, .int .u32 0, .int .u32 0, .int .u32 0, .int .u32 0, .int .u32 0, .int .u32 0, .int .u32 0, .int .u32 0, .int .u32 0, .int .u32 0, .int .u32 0, .int .u32 0] := rfl
    rw [e]; exact H1
  case round =>
    obtain ⟨i, rfl, hi1, hi2, H2⟩ := hrel
    by_cases hin : i ≤ 15
    · have k1 : (i : Int) ≤ 15 := by omega
      obtain ⟨i1, hi11⟩ : ∃ j, i + 1 = j := ⟨_, rfl⟩
      have y1 : (i : Int) + 1 = (i1 : Int) := by omega
      obtain ⟨a, ha⟩ : ∃ a, PH.fst m i = a := ⟨_, rfl⟩
      obtain ⟨b, hb⟩ : ∃ b, PH.tal m i = b := ⟨_, rfl⟩
      obtain ⟨s, hs2⟩ : ∃ s, a + b = s := ⟨_, rfl⟩
      obtain ⟨nv, hv⟩ : ∃ v, s * 2 = v := ⟨_, rfl⟩
      have ha2 : a ≤ 65536 := by rw [← ha]; exact HF.out i (by omega)
      have hb2 : b ≤ 1024 := by rw [← hb]; exact Nat.le_trans (PH.tal_le m i) hl
      have hvv : PH.fst m i1 = nv := by
        obtain ⟨j, rfl⟩ : ∃ j, i = j + 1 := ⟨i - 1, by omega⟩
        rw [← hi11, ← hv, ← hs2, ← ha, ← hb]; rfl
      have y2 : (a : Int) + (b : Int) = (s : Int) := by omega
      have y3 : (s : Int) * 2 = (nv : Int) := by omega
      have HA := Lib.hid ha
      have HBB := Lib.hid hb
      have HV := Lib.hid hvv
      have hk2 : i1 < 17 := by omega
      have y4 : (i : Int) < 17 := by omega
      have y5 : (i : Int) < 16 := by omega
      have y6 : (i1 : Int) < 17 := by omega
      have hs3 : s ≤ 100000 := by omega
      clear ha hb hs2 hv hvv
      go_wp2_with fail
      refine wp_region_sp (L := Bk g2 117 [.int .u32 0, .int .u32 0, .int .u32 0, .int .u32 0, .int .u32 0, .int .u32 0, .int .u32 0, .int .u32 0, .int .u32 0, .int .u32 0, .int .u32 0, .int .u32 0, .int .u32 0, .int .u32 0, .int .u32 0, .int .u32 0, .int .u32 0] :: Bk g1 112 (cntV (PH.tal m)) :: L) (fun ix vx => ([(· = .int .i64 (i : Int)), (· = .int .i64 (i1 : Int)), (· = .int .i64 (i : Int)), (· = .pointer (some (G3.add i))), (· = .int .u32 (a : Int)), (· = .int .i64 (i : Int)), (· = .pointer (some (G1.add i))), (· = .int .i64 (b : Int)), (· = .int .u32 (b : Int)), (· = .int .u32 (s : Int)), (· = .int .u32 (nv : Int)), (· = .pointer (some (G3.add i1))), (fun _ => True)] : List (Value → Prop)).getD ix (fun _ => True) vx)
        (fun ix vx => ([fun _ => [], fun _ => [], fun _ => [], fun _ => [], fun _ => [], fun _ => [], fun _ => [], fun _ => [], fun _ => [], fun _ => [], fun _ => [], fun _ => [], fun _ => [Bk g3 117 (cntU (fun k => if k ≤ i + 1 then PH.fst m k else 0))]] : List (Value → List Pr)).getD ix (fun _ => []) vx) (fun ix => ([[], [], [], [], [], [], [], [], [], [], [], [], [Bk g3 117 (cntU (fun k => if k ≤ i then PH.fst m k else 0))]] : List (List Pr)).getD ix []) 13 22
        [some 9, some 10, some 11, some 12, some 13, some 14, some 15, some 16, some 17, some 18, some 19, some 20, none]
        [[], [0], [], [2], [3], [], [5], [6], [7], [4, 8], [9], [1, 0, 1, 2, 3, 4, 5, 6, 7, 8, 9, 10], [11, 10, 0, 1, 2, 3, 4, 5, 6, 7, 8, 9, 10]]
        [[], [0], [], [2], [2, 3], [], [5], [5, 6], [5, 6, 7], [2, 3, 4, 5, 6, 7, 8], [2, 3, 4, 5, 6, 7, 8, 9], [0, 1, 2, 3, 4, 5, 6, 7, 8, 9, 10], [0, 1, 2, 3, 4, 5, 6, 7, 8, 9, 10, 11]]
        [[], [], [], [], [], [], [], [], [], [], [], [], []]
        [[], [], [], [], [12], [], [], [], [], [], [], [], []]
        [(1, .pointer (some G1)), (3, .pointer (some G3)), (4, .int .i64 (i : Int))]
        (by kernel_rfl) rfl (by decide) (by rfl) rfl (by decide +kernel) (by decide +kernel) (by rfl) rfl rfl (by decide) (by simp) (by rfl) (H2) ?hstep ?hend
      case hstep =>
        refine ⟨?_, ⟨?_, ⟨?_, ⟨?_, ⟨?_, ⟨?_, ⟨?_, ⟨?_, ⟨?_, ⟨?_, ⟨?_, ⟨?_, ⟨?_, trivial⟩⟩⟩⟩⟩⟩⟩⟩⟩⟩⟩⟩⟩
        · intro x wx A rest hN hS hE H K hK0
          have e4 : A.tmps[4]?.getD undef = .int .i64 (i : Int) := hN (4, .int .i64 (i : Int)) (by simp)
          replace H : Sp w0 (rest) wx := H
          have hK : Hid (∀ (v : Value) (w' : World), v = .int .i64 (i : Int) → Sp w0 (rest) w' → K (A.put (some 9) v) w') := Lib.hid hK0
          clear hK0 hN hS hE
          change Oper.wp _ _ A wx K _
          go_step
          exact hK.out _ _ rfl (H)
        · intro x wx A rest hN hS hE H K hK0
          have e9 : A.tmps[9]?.getD undef = .int .i64 (i : Int) := ((hS 0 (by decide)).2 9 rfl).trans (hS 0 (by decide)).1
          replace H : Sp w0 (rest) wx := H
          have hK : Hid (∀ (v : Value) (w' : World), v = .int .i64 (i1 : Int) → Sp w0 (rest) w' → K (A.put (some 10) v) w') := Lib.hid hK0
          clear hK0 hN hS hE
          change Oper.wp _ _ A wx K _
          go_step
          exact hK.out _ _ rfl (H)
        · intro x wx A rest hN hS hE H K hK0
          have e4 : A.tmps[4]?.getD undef = .int .i64 (i : Int) := hN (4, .int .i64 (i : Int)) (by simp)
          replace H : Sp w0 (rest) wx := H
          have hK : Hid (∀ (v : Value) (w' : World), v = .int .i64 (i : Int) → Sp w0 (rest) w' → K (A.put (some 11) v) w') := Lib.hid hK0
          clear hK0 hN hS hE
          change Oper.wp _ _ A wx K _
          go_step
          exact hK.out _ _ rfl (H)
        · intro x wx A rest hN hS hE H K hK0
          have e3 : A.tmps[3]?.getD undef = .pointer (some G3) := hN (3, .pointer (some G3)) (by simp)
          have e11 : A.tmps[11]?.getD undef = .int .i64 (i : Int) := ((hS 2 (by decide)).2 11 rfl).trans (hS 2 (by decide)).1
          replace H : Sp w0 (rest) wx := H
          have hK : Hid (∀ (v : Value) (w' : World), v = .pointer (some (G3.add i)) → Sp w0 (rest) w' → K (A.put (some 12) v) w') := Lib.hid hK0
          clear hK0 hN hS hE
          change Oper.wp _ _ A wx K _
          go_step
          exact hK.out _ _ rfl (H)
        · intro x wx A rest hN hS hE H K hK0
          have e12 : A.tmps[12]?.getD undef = .pointer (some (G3.add i)) := ((hS 3 (by decide)).2 12 rfl).trans (hS 3 (by decide)).1
          replace H : Sp w0 ((Bk g3 117 (cntU (fun k => if k ≤ i then PH.fst m k else 0))) :: rest) wx := H
          have hK : Hid (∀ (v : Value) (w' : World), v = .int .u32 (a : Int) → Sp w0 ((Bk g3 117 (cntU (fun k => if k ≤ i then PH.fst m k else 0))) :: rest) w' → K (A.put (some 13) v) w') := Lib.hid hK0
          clear hK0 hN hS hE
          have c : wx.cell? (G3.add i) = some (.int .u32 (a : Int)) := by
            rw [← HG3.out, addr0, H.cell 0 rfl i, cntU_get _ _ (by omega), if_pos (Nat.le_refl _), HA.out]
          change Oper.wp _ _ A wx K _
          go_step
          exact hK.out _ _ rfl (H)
        · intro x wx A rest hN hS hE H K hK0
          have e4 : A.tmps[4]?.getD undef = .int .i64 (i : Int) := hN (4, .int .i64 (i : Int)) (by simp)
          replace H : Sp w0 (rest) wx := H
          have hK : Hid (∀ (v : Value) (w' : World), v = .int .i64 (i : Int) → Sp w0 (rest) w' → K (A.put (some 14) v) w') := Lib.hid hK0
          clear hK0 hN hS hE
          change Oper.wp _ _ A wx K _
          go_step
          exact hK.out _ _ rfl (H)
        · intro x wx A rest hN hS hE H K hK0
          have e1 : A.tmps[1]?.getD undef = .pointer (some G1) := hN (1, .pointer (some G1)) (by simp)
          have e14 : A.tmps[14]?.getD undef = .int .i64 (i : Int) := ((hS 5 (by decide)).2 14 rfl).trans (hS 5 (by decide)).1
          replace H : Sp w0 (rest) wx := H
          have hK : Hid (∀ (v : Value) (w' : World), v = .pointer (some (G1.add i)) → Sp w0 (rest) w' → K (A.put (some 15) v) w') := Lib.hid hK0
          clear hK0 hN hS hE
          change Oper.wp _ _ A wx K _
          go_step
          exact hK.out _ _ rfl (H)
        · intro x wx A rest hN hS hE H K hK0
          have e15 : A.tmps[15]?.getD undef = .pointer (some (G1.add i)) := ((hS 6 (by decide)).2 15 rfl).trans (hS 6 (by decide)).1
          replace H : Sp w0 (rest) wx := H
          have hK : Hid (∀ (v : Value) (w' : World), v = .int .i64 (b : Int) → Sp w0 (rest) w' → K (A.put (some 16) v) w') := Lib.hid hK0
          clear hK0 hN hS
          have c : wx.cell? (G1.add i) = some (.int .i64 (b : Int)) := hE (fun w => w.cell? (G1.add i) = some (.int .i64 (b : Int))) (fun _ _ H => by show World.cell? _ _ = _; rw [← HG1.out, addr0, H.cell 1 rfl i, cntV_get _ _ (by omega), HBB.out]) _ _ H
          change Oper.wp _ _ A wx K _
          go_step
          exact hK.out _ _ rfl (H)
        · intro x wx A rest hN hS hE H K hK0
          have e16 : A.tmps[16]?.getD undef = .int .i64 (b : Int) := ((hS 7 (by decide)).2 16 rfl).trans (hS 7 (by decide)).1
          replace H : Sp w0 (rest) wx := H
          have hK : Hid (∀ (v : Value) (w' : World), v = .int .u32 (b : Int) → Sp w0 (rest) w' → K (A.put (some 17) v) w') := Lib.hid hK0
          clear hK0 hN hS hE
          change Oper.wp _ _ A wx K _
          go_step
          exact hK.out _ _ rfl (H)
        · intro x wx A rest hN hS hE H K hK0
          have e13 : A.tmps[13]?.getD undef = .int .u32 (a : Int) := ((hS 4 (by decide)).2 13 rfl).trans (hS 4 (by decide)).1
          have e17 : A.tmps[17]?.getD undef = .int .u32 (b : Int) := ((hS 8 (by decide)).2 17 rfl).trans (hS 8 (by decide)).1
          replace H : Sp w0 (rest) wx := H
          have hK : Hid (∀ (v : Value) (w' : World), v = .int .u32 (s : Int) → Sp w0 (rest) w' → K (A.put (some 18) v) w') := Lib.hid hK0
          clear hK0 hN hS hE
          change Oper.wp _ _ A wx K _
          go_step
          exact hK.out _ _ rfl (H)
        · intro x wx A rest hN hS hE H K hK0
          have e18 : A.tmps[18]?.getD undef = .int .u32 (s : Int) := ((hS 9 (by decide)).2 18 rfl).trans (hS 9 (by decide)).1
          replace H : Sp w0 (rest) wx := H
          have hK : Hid (∀ (v : Value) (w' : World), v = .int .u32 (nv : Int) → Sp w0 (rest) w' → K (A.put (some 19) v) w') := Lib.hid hK0
          clear hK0 hN hS hE
          change Oper.wp _ _ A wx K _
          go_step
          exact hK.out _ _ rfl (H)
        · intro x wx A rest hN hS hE H K hK0
          have e3 : A.tmps[3]?.getD undef = .pointer (some G3) := hN (3, .pointer (some G3)) (by simp)
          have e10 : A.tmps[10]?.getD undef = .int .i64 (i1 : Int) := ((hS 1 (by decide)).2 10 rfl).trans (hS 1 (by decide)).1
          replace H : Sp w0 (rest) wx := H
          have hK : Hid (∀ (v : Value) (w' : World), v = .pointer (some (G3.add i1)) → Sp w0 (rest) w' → K (A.put (some 20) v) w') := Lib.hid hK0
          clear hK0 hN hS hE
          change Oper.wp _ _ A wx K _
          go_step
          exact hK.out _ _ rfl (H)
        · intro x wx A rest hN hS hE H K hK0
          have e20 : A.tmps[20]?.getD undef = .pointer (some (G3.add i1)) := ((hS 11 (by decide)).2 20 rfl).trans (hS 11 (by decide)).1
          have e19 : A.tmps[19]?.getD undef = .int .u32 (nv : Int) := ((hS 10 (by decide)).2 19 rfl).trans (hS 10 (by decide)).1
          replace H : Sp w0 ((Bk g3 117 (cntU (fun k => if k ≤ i then PH.fst m k else 0))) :: rest) wx := H
          have hK : Hid (∀ (v : Value) (w' : World), True → Sp w0 ((Bk g3 117 (cntU (fun k => if k ≤ i + 1 then PH.fst m k else 0))) :: rest) w' → K (A.put none v) w') := Lib.hid hK0
          clear hK0 hN hS hE
          have c : wx.cell? (G3.add i1) = some (.int .u32 0) := by
            rw [← HG3.out, addr0, H.cell 0 rfl i1, cntU_get _ _ (by omega), if_neg (by omega)]; rfl
          have z : wx.frozen? (G3.add i1) = false := by
            rw [← HG3.out, addr0]; exact H.frozen 0 rfl i1
          have hset : Sp w0 (Bk g3 117 (cntU (fun k => if k ≤ i + 1 then PH.fst m k else 0)) :: rest) (wx.setCell (G3.add i1) (.int .u32 (nv : Int))) := by
            have h := H.set i1 (.int .u32 (nv : Int))
            rw [cntU_set] at h
            rw [← HG3.out, addr0]
            have e : (fun k => if k ≤ i + 1 then PH.fst m k else 0) = fun k => if k = i1 then nv else if k ≤ i then PH.fst m k else 0 := by
              funext k
              by_cases ek : k = i1
              · rw [if_pos ek, if_pos (by omega), ek]; exact HV.out
              · rw [if_neg ek]
                by_cases e2 : k ≤ i
                · rw [if_pos e2, if_pos (by omega)]
                · rw [if_neg e2, if_neg (by omega)]
            rw [e]; exact h
          have HS := Lib.hid hset
          clear hset
          change Oper.wp _ _ A wx K _
          go_step
          exact hK.out undef _ trivial HS.out
      case hend =>
        intro x wx A hA hS H
        replace H : Sp w0 ((Bk g3 117 (cntU (fun k => if k ≤ i + 1 then PH.fst m k else 0))) :: Bk g2 117 [.int .u32 0, .int .u32 0, .int .u32 0, .int .u32 0, .int .u32 0, .int .u32 0, .int .u32 0, .int .u32 0, .int .u32 0, .int .u32 0, .int .u32 0, .int .u32 0, .int .u32 0, .int .u32 0, .int .u32 0, .int .u32 0, .int .u32 0] :: Bk g1 112 (cntV (PH.tal m)) :: L) wx := H
        clear hS
        simp only [putAll, Act.put, List.setIfInBounds_toArray, List.set_cons_succ, List.set_cons_zero, Nat.reduceAdd] at hA
        subst hA
        go_wp2
        go_roundw
        case rel => exact ⟨i + 1, by first | go_num | (rw [← hi11]; rfl) | rfl, by omega, by omega, H⟩
        case measure => first | (simp [intOf]; omega) | simp [intOf]
    · have k1 : ¬ (i : Int) ≤ 15 := by omega
      obtain rfl : i = 16 := by omega
      have e : cntU (fun k => if k ≤ 16 then PH.fst m k else 0) = cntU (PH.fst m) := by
        unfold cntU
        refine List.map_congr_left fun k hk => ?_
        show Value.int .u32 (((if k ≤ 16 then PH.fst m k else 0 : Nat)) : Int) = _
        rw [if_pos (by have := List.mem_range.1 hk; omega)]
      rw [e] at H2
      have HH := Lib.hid H2
      have hsw := H2.swap
      have HSW := Lib.hid hsw
      clear hsw H2
      obtain rfl := HG3.out
      obtain rfl := HG1.out
      go_wp2_with (first | (refine wpList_load_whole rfl 117 _ rfl g3 117 (cntU (PH.fst m)) rfl (HH.out.blk 0 rfl) Try.isAgg117 Try.sizeOf117 ?_) | (refine wpList_store_whole rfl 117 _ _ rfl g2 117 _ (cntU (PH.fst m)) rfl rfl HSW.out rfl Try.sizeOf117 (cntU_one _) ?_))
      intro w9 H9
      go_wp2_with fail
      have hld := run_loadCells_list (P := Try.prog) w9 ⟨g2, 0, none⟩ (cntU (PH.fst m)) (fun j v hj => by rw [addr0, H9.cell 0 rfl]; exact hj)
      rw [show (cntU (PH.fst m)).length = 17 from rfl] at hld
      refine bodyPost_ret (v := .agg (cntU (PH.fst m)).toArray) (by simp [results, Try.results59, Try.isAgg117, Try.sizeOf117, hld, Result.andThen, asAddr, loadVar]) rfl ?_
      exact ⟨by rw [HT.out], H9.pick 3 []⟩
end Go.Proofs.Ytdlbhoedmaifpaa
