/- BitsWrites: the walk of the law. -/
import Derived.Test.YtkgnihpcldgedaaBitsK
namespace Go.Proofs.Ytkgnihpcldgedaa
open Go.RowKit
/-- What a call has left: the same of both. -/
def WritesMid (w0 : World) (L : List Pr) (r f ga : Nat) (cs : List Value) (n i : Nat) (s8 s9 s19 : Value) (wx : World) : Prop :=
  ∃ (e : Int) (B : List Bool), s8 = .int .i64 e ∧ s9 = .int .i64 e ∧ s19 = .int .i64 (i : Int) ∧ B.length ≤ n ∧
    Sp w0 (Bk ga 68 cs :: Wr r (PBits.num B) B.length :: Rw f B 0 :: L) wx
set_option maxRecDepth 100000 in
set_option maxHeartbeats 8000000 in
theorem writes_any (A2 : Option Addr) (len ca2 : Nat) (ts : List BAct) {w0 w : World} {L : List Pr} (H : Sp w0 L w) (hE2 : Ent L (fun w' => Acts w' A2 ts)) (hlen : len = ts.length) (hlm0 : len ≤ maxLen) :
    Calls Try.prog 8 #[.slice A2 len ca2] w fun e w' => e = .returned (.bool true) ∧ Sp w0 L w' := by
  have hlm := hlm0
  unfold maxLen at hlm
  have HE2 := Lib.hid hE2
  have HLEN := Lib.hid hlen
  clear hE2 hlen
  go_enter Try.func8, Try.ntmps8
  go_wp2_with fail
  refine (newWriter_ok H).mono ?_
  rintro _ w1 ⟨_, rfl, r, rfl, H1⟩
  have H2 := (H1.rowNil 4 1).newBk [.slice none 0 0, .int .i64 0] 66
  go_wp2_with fail
  generalize w1.alloc _ = w2 at H2 ⊢
  generalize w1.heap.size = f at H2 ⊢
  have H3 : Sp w0 (Rw f [] 0 :: Wr r 0 0 :: L) w2 := rw_shut (v := .slice none 0 0) H2
  clear H2
  go_loopw [19] (fun i wr => ∃ (j : Nat) (B : List Bool), j ≤ len ∧ j ≤ 60 ∧ B.length ≤ 160 * j ∧ i = .int .i64 (j : Int) ∧ Sp w0 (Wr r (PBits.num B) B.length :: Rw f B 0 :: L) wr) (fun i _ => len - (intOf i).toNat)
  case atStart => exact ⟨0, [], Nat.zero_le _, Nat.zero_le _, Nat.zero_le _, rfl, H3.swap⟩
  case round =>
    obtain ⟨i, B, hi, hi6, hBl, rfl, H5⟩ := hrel
    by_cases hit : i < len
    · have hit' : (i : Int) < len := by omega
      have hil : i < ts.length := by rw [← HLEN.out]; exact hit
      obtain ⟨ad, eA, t0c, t1c, t2c, t3c, tb, tn, tm⟩ := HE2.out _ _ (H5.pick 2 []) i hil
      have hbe : Ent L (fun w' => Byt w' ts[i].v ts[i].b) := HE2.out.mono fun w' h => by
        obtain ⟨_, _, _, _, _, _, tb, _⟩ := h i hil
        exact tb
      obtain ⟨x, hx⟩ : ∃ x, ts[i] = x := ⟨_, rfl⟩
      rw [hx] at t0c t1c t2c t3c tb tn tm hbe
      subst eA
      obtain ⟨tw, tm0, tn0, tb0, tv0⟩ := x
      simp only at t0c t1c t2c t3c tb tn tm hbe
      rw [← field_addr ad (i * 4) 1 (by decide)] at t1c
      rw [← field_addr ad (i * 4) 2 (by decide)] at t2c
      rw [← field_addr ad (i * 4) 3 (by decide)] at t3c
      obtain ⟨B3, cb3, rfl, _, hb1, hb2⟩ := id tb
      unfold maxLen at hb2
      obtain ⟨nb, hnb⟩ : ∃ nb : Nat, nb = min tb0.length 20 := ⟨_, rfl⟩
      have hmn : ∀ W : World, (Builtin.min_ #[3, 3] 3 #[.int .i64 (tb0.length : Int), .int .i64 20]).run Try.prog W = .ok (.int .i64 (nb : Int)) W := fun W => by
        simp [Builtin.min_, Builtin.min2]
        split <;> omega
      have hna : nb ≤ tb0.length := by omega
      have hnk : nb ≤ 20 := by omega
      have hnc : (nb : Int) ≤ cb3 := by omega
      obtain ⟨bl, hbl⟩ : ∃ bl, tb0.take nb = bl := ⟨_, rfl⟩
      have hbll : bl.length = nb := by rw [← hbl, List.length_take]; omega
      have hbe2 : Ent L (fun w' => Byt w' (.slice B3 nb cb3) bl) := hbe.mono fun w' h => by rw [← hbl]; exact h.take nb hna
      have HBE := Lib.hid hbe2
      have HBLL := Lib.hid hbll
      clear hx tb hbe hbe2 hbl hbll hnb
      have H6 := H5.newBk [.int .i64 tw, .int .i64 tm0, .int .u64 (tn0 : Int), .slice B3 tb0.length cb3] 68
      by_cases hi60 : i = 60
      · have hi60' : ((i : Int) == 60) = true := by rw [beq_iff_eq]; omega
        clear hi60
        go_wp2_with fail
        have H7 : Sp w0 L _ := H6.pick 3 []
        refine (wakes_ok H7).mono ?_
        rintro e w14 ⟨rfl, H14⟩
        go_wp2
        go_ret
        exact ⟨rfl, H14⟩
      · have hi60' : ((i : Int) == 60) = false := by rw [beq_eq_false_iff_ne]; omega
        have hi59 : i + 1 ≤ 60 := by omega
        clear hi60
        go_upto_block 2 with (fail)
        generalize wr.alloc _ = w5 at H6 ⊢
        generalize wr.heap.size = ga at H6 ⊢
        clear t0c t1c t2c t3c hmn hnc
        go_cut [8, 9, 10, 11, 19] from 19 to 138 (fun s8 s9 s10 s11 s19 wx => WritesMid w0 L r f ga [.int .i64 tw, .int .i64 tm0, .int .u64 (tn0 : Int), .slice B3 tb0.length cb3] (160 * i + 160) i s8 s9 s19 wx)
        case first =>
          have x0 : w5.cell? ⟨ga, 0, none⟩ = some (.int .i64 tw) := H6.cell 0 rfl 0
          by_cases e0 : tw = 0
          · subst e0
            go_wp2_with fail
            clear x0
            refine wp_region_sp (L := Bk ga 68 [.int .i64 0, .int .i64 tm0, .int .u64 (tn0 : Int), .slice B3 tb0.length cb3] :: L) (fun ix vx => ([(· = .pointer (some ⟨r, 0, none⟩)), (· = .pointer (some ⟨ga, 2, none⟩)), (· = .int .u64 (tn0 : Int)), (· = .pointer (some ⟨ga, 1, none⟩)), (· = .int .i64 tm0), (· = .int .i64 (PBits.cd tn0 tm0)), (· = .pointer (some ⟨f, 0, none⟩)), (· = .pointer (some ⟨ga, 2, none⟩)), (· = .int .u64 (tn0 : Int)), (· = .pointer (some ⟨ga, 1, none⟩)), (· = .int .i64 tm0), (· = .int .i64 (PBits.cd tn0 tm0)), (· = .int .i64 (PBits.cd tn0 tm0)), (· = .int .i64 (PBits.cd tn0 tm0))] : List (Value → Prop)).getD ix (fun _ => True) vx)
              (fun ix vx => ([fun _ => [], fun _ => [], fun _ => [], fun _ => [], fun _ => [], fun _ => [Wr r (PBits.num (PBits.addP B tn0 tm0)) (PBits.addP B tn0 tm0).length], fun _ => [], fun _ => [], fun _ => [], fun _ => [], fun _ => [], fun _ => [Rw f (PBits.addP B tn0 tm0) 0], fun _ => [], fun _ => []] : List (Value → List Pr)).getD ix (fun _ => []) vx) (fun ix => ([[], [], [], [], [], [Wr r (PBits.num B) B.length], [], [], [], [], [], [Rw f B 0], [], []] : List (List Pr)).getD ix []) 14 140
              [some 37, some 38, some 39, some 40, some 41, some 42, some 43, some 44, some 45, some 46, some 47, some 48, some 8, some 9]
              [[], [], [1], [], [3], [0, 2, 4], [], [], [7], [], [9], [6, 8, 10, 5], [5, 11, 0, 1, 2, 3, 4, 5], [11, 12, 0, 1, 2, 3, 4, 5, 6, 7, 8, 9, 10, 11, 12]]
              [[], [], [1], [], [3], [0, 1, 2, 3, 4], [], [], [7], [], [9], [0, 1, 2, 3, 4, 5, 6, 7, 8, 9, 10], [0, 1, 2, 3, 4, 5, 6, 7, 8, 9, 10, 11], [0, 1, 2, 3, 4, 5, 6, 7, 8, 9, 10, 11, 12]]
              [[], [], [], [], [], [], [], [], [], [], [], [], [], []]
              [[], [], [], [], [], [], [], [], [], [], [], [], [], []]
              [(3, .pointer (some ⟨r, 0, none⟩)), (4, .pointer (some ⟨f, 0, none⟩)), (6, .pointer (some ⟨ga, 0, none⟩))]
              (by kernel_rfl) rfl (by decide) (by rfl) rfl (by decide +kernel) (by decide +kernel) (by rfl) rfl rfl (by decide) (by simp) (by rfl) (H6.pick 3 [1, 2, 0]) ?hstep ?hend
            case hstep =>
              refine ⟨?_, ⟨?_, ⟨?_, ⟨?_, ⟨?_, ⟨?_, ⟨?_, ⟨?_, ⟨?_, ⟨?_, ⟨?_, ⟨?_, ⟨?_, ⟨?_, trivial⟩⟩⟩⟩⟩⟩⟩⟩⟩⟩⟩⟩⟩⟩
              · intro x wx A rest hN hS hE H K hK0
                have e3 : A.tmps[3]?.getD undef = .pointer (some ⟨r, 0, none⟩) := hN (3, .pointer (some ⟨r, 0, none⟩)) (by simp)
                replace H : Sp w0 (rest) wx := H
                have hK : Hid (∀ (v : Value) (w' : World), v = .pointer (some ⟨r, 0, none⟩) → Sp w0 (rest) w' → K (A.put (some 37) v) w') := Lib.hid hK0
                clear hK0 hN hS hE
                change Oper.wp _ _ A wx K _
                go_step
                exact hK.out _ _ rfl (H)
              · intro x wx A rest hN hS hE H K hK0
                have e6 : A.tmps[6]?.getD undef = .pointer (some ⟨ga, 0, none⟩) := hN (6, .pointer (some ⟨ga, 0, none⟩)) (by simp)
                replace H : Sp w0 (rest) wx := H
                have hK : Hid (∀ (v : Value) (w' : World), v = .pointer (some ⟨ga, 2, none⟩) → Sp w0 (rest) w' → K (A.put (some 38) v) w') := Lib.hid hK0
                clear hK0 hN hS hE
                change Oper.wp _ _ A wx K _
                go_step
                exact hK.out _ _ rfl (H)
              · intro x wx A rest hN hS hE H K hK0
                have e38 : A.tmps[38]?.getD undef = .pointer (some ⟨ga, 2, none⟩) := ((hS 1 (by decide)).2 38 rfl).trans (hS 1 (by decide)).1
                replace H : Sp w0 (rest) wx := H
                have hK : Hid (∀ (v : Value) (w' : World), v = .int .u64 (tn0 : Int) → Sp w0 (rest) w' → K (A.put (some 39) v) w') := Lib.hid hK0
                clear hK0 hN hS
                have c2 : wx.cell? ⟨ga, 2, none⟩ = some (.int .u64 (tn0 : Int)) := hE (fun w => w.cell? ⟨ga, 2, none⟩ = some (.int .u64 (tn0 : Int))) (fun _ _ H => H.cell 0 rfl 2) _ _ H
                change Oper.wp _ _ A wx K _
                go_step
                exact hK.out _ _ rfl (H)
              · intro x wx A rest hN hS hE H K hK0
                have e6 : A.tmps[6]?.getD undef = .pointer (some ⟨ga, 0, none⟩) := hN (6, .pointer (some ⟨ga, 0, none⟩)) (by simp)
                replace H : Sp w0 (rest) wx := H
                have hK : Hid (∀ (v : Value) (w' : World), v = .pointer (some ⟨ga, 1, none⟩) → Sp w0 (rest) w' → K (A.put (some 40) v) w') := Lib.hid hK0
                clear hK0 hN hS hE
                change Oper.wp _ _ A wx K _
                go_step
                exact hK.out _ _ rfl (H)
              · intro x wx A rest hN hS hE H K hK0
                have e40 : A.tmps[40]?.getD undef = .pointer (some ⟨ga, 1, none⟩) := ((hS 3 (by decide)).2 40 rfl).trans (hS 3 (by decide)).1
                replace H : Sp w0 (rest) wx := H
                have hK : Hid (∀ (v : Value) (w' : World), v = .int .i64 tm0 → Sp w0 (rest) w' → K (A.put (some 41) v) w') := Lib.hid hK0
                clear hK0 hN hS
                have c1 : wx.cell? ⟨ga, 1, none⟩ = some (.int .i64 tm0) := hE (fun w => w.cell? ⟨ga, 1, none⟩ = some (.int .i64 tm0)) (fun _ _ H => H.cell 0 rfl 1) _ _ H
                change Oper.wp _ _ A wx K _
                go_step
                exact hK.out _ _ rfl (H)
              · intro x wx A rest hN hS hE H K hK0
                have e37 : A.tmps[37]?.getD undef = .pointer (some ⟨r, 0, none⟩) := ((hS 0 (by decide)).2 37 rfl).trans (hS 0 (by decide)).1
                have e39 : A.tmps[39]?.getD undef = .int .u64 (tn0 : Int) := ((hS 2 (by decide)).2 39 rfl).trans (hS 2 (by decide)).1
                have e41 : A.tmps[41]?.getD undef = .int .i64 tm0 := ((hS 4 (by decide)).2 41 rfl).trans (hS 4 (by decide)).1
                replace H : Sp w0 ((Wr r (PBits.num B) B.length) :: rest) wx := H
                have hK : Hid (∀ (v : Value) (w' : World), v = .int .i64 (PBits.cd tn0 tm0) → Sp w0 ((Wr r (PBits.num (PBits.addP B tn0 tm0)) (PBits.addP B tn0 tm0).length) :: rest) w' → K (A.put (some 42) v) w') := Lib.hid hK0
                clear hK0 hN hS hE
                change Oper.wp _ _ A wx K _
                go_wp2_with fail
                refine (wput_all r B tn0 tm0 H (by omega)).mono ?_
                rintro _ w9 ⟨rfl, H9⟩
                exact hK.out _ _ rfl H9
              · intro x wx A rest hN hS hE H K hK0
                have e4 : A.tmps[4]?.getD undef = .pointer (some ⟨f, 0, none⟩) := hN (4, .pointer (some ⟨f, 0, none⟩)) (by simp)
                replace H : Sp w0 (rest) wx := H
                have hK : Hid (∀ (v : Value) (w' : World), v = .pointer (some ⟨f, 0, none⟩) → Sp w0 (rest) w' → K (A.put (some 43) v) w') := Lib.hid hK0
                clear hK0 hN hS hE
                change Oper.wp _ _ A wx K _
                go_step
                exact hK.out _ _ rfl (H)
              · intro x wx A rest hN hS hE H K hK0
                have e6 : A.tmps[6]?.getD undef = .pointer (some ⟨ga, 0, none⟩) := hN (6, .pointer (some ⟨ga, 0, none⟩)) (by simp)
                replace H : Sp w0 (rest) wx := H
                have hK : Hid (∀ (v : Value) (w' : World), v = .pointer (some ⟨ga, 2, none⟩) → Sp w0 (rest) w' → K (A.put (some 44) v) w') := Lib.hid hK0
                clear hK0 hN hS hE
                change Oper.wp _ _ A wx K _
                go_step
                exact hK.out _ _ rfl (H)
              · intro x wx A rest hN hS hE H K hK0
                have e44 : A.tmps[44]?.getD undef = .pointer (some ⟨ga, 2, none⟩) := ((hS 7 (by decide)).2 44 rfl).trans (hS 7 (by decide)).1
                replace H : Sp w0 (rest) wx := H
                have hK : Hid (∀ (v : Value) (w' : World), v = .int .u64 (tn0 : Int) → Sp w0 (rest) w' → K (A.put (some 45) v) w') := Lib.hid hK0
                clear hK0 hN hS
                have c2 : wx.cell? ⟨ga, 2, none⟩ = some (.int .u64 (tn0 : Int)) := hE (fun w => w.cell? ⟨ga, 2, none⟩ = some (.int .u64 (tn0 : Int))) (fun _ _ H => H.cell 0 rfl 2) _ _ H
                change Oper.wp _ _ A wx K _
                go_step
                exact hK.out _ _ rfl (H)
              · intro x wx A rest hN hS hE H K hK0
                have e6 : A.tmps[6]?.getD undef = .pointer (some ⟨ga, 0, none⟩) := hN (6, .pointer (some ⟨ga, 0, none⟩)) (by simp)
                replace H : Sp w0 (rest) wx := H
                have hK : Hid (∀ (v : Value) (w' : World), v = .pointer (some ⟨ga, 1, none⟩) → Sp w0 (rest) w' → K (A.put (some 46) v) w') := Lib.hid hK0
                clear hK0 hN hS hE
                change Oper.wp _ _ A wx K _
                go_step
                exact hK.out _ _ rfl (H)
              · intro x wx A rest hN hS hE H K hK0
                have e46 : A.tmps[46]?.getD undef = .pointer (some ⟨ga, 1, none⟩) := ((hS 9 (by decide)).2 46 rfl).trans (hS 9 (by decide)).1
                replace H : Sp w0 (rest) wx := H
                have hK : Hid (∀ (v : Value) (w' : World), v = .int .i64 tm0 → Sp w0 (rest) w' → K (A.put (some 47) v) w') := Lib.hid hK0
                clear hK0 hN hS
                have c1 : wx.cell? ⟨ga, 1, none⟩ = some (.int .i64 tm0) := hE (fun w => w.cell? ⟨ga, 1, none⟩ = some (.int .i64 tm0)) (fun _ _ H => H.cell 0 rfl 1) _ _ H
                change Oper.wp _ _ A wx K _
                go_step
                exact hK.out _ _ rfl (H)
              · intro x wx A rest hN hS hE H K hK0
                have e43 : A.tmps[43]?.getD undef = .pointer (some ⟨f, 0, none⟩) := ((hS 6 (by decide)).2 43 rfl).trans (hS 6 (by decide)).1
                have e45 : A.tmps[45]?.getD undef = .int .u64 (tn0 : Int) := ((hS 8 (by decide)).2 45 rfl).trans (hS 8 (by decide)).1
                have e47 : A.tmps[47]?.getD undef = .int .i64 tm0 := ((hS 10 (by decide)).2 47 rfl).trans (hS 10 (by decide)).1
                replace H : Sp w0 ((Rw f B 0) :: rest) wx := H
                have hK : Hid (∀ (v : Value) (w' : World), v = .int .i64 (PBits.cd tn0 tm0) → Sp w0 ((Rw f (PBits.addP B tn0 tm0) 0) :: rest) w' → K (A.put (some 48) v) w') := Lib.hid hK0
                clear hK0 hN hS hE
                change Oper.wp _ _ A wx K _
                go_wp2_with fail
                refine (fput_all f B 0 tn0 tm0 H tn (by omega)).mono ?_
                rintro _ w9 ⟨rfl, H9⟩
                exact hK.out _ _ rfl H9
              · intro x wx A rest hN hS hE H K hK0
                have e42 : A.tmps[42]?.getD undef = .int .i64 (PBits.cd tn0 tm0) := ((hS 5 (by decide)).2 42 rfl).trans (hS 5 (by decide)).1
                replace H : Sp w0 (rest) wx := H
                have hK : Hid (∀ (v : Value) (w' : World), v = .int .i64 (PBits.cd tn0 tm0) → Sp w0 (rest) w' → K (A.put (some 8) v) w') := Lib.hid hK0
                clear hK0 hN hS hE
                change Oper.wp _ _ A wx K _
                go_step
                exact hK.out _ _ rfl (H)
              · intro x wx A rest hN hS hE H K hK0
                have e48 : A.tmps[48]?.getD undef = .int .i64 (PBits.cd tn0 tm0) := ((hS 11 (by decide)).2 48 rfl).trans (hS 11 (by decide)).1
                replace H : Sp w0 (rest) wx := H
                have hK : Hid (∀ (v : Value) (w' : World), v = .int .i64 (PBits.cd tn0 tm0) → Sp w0 (rest) w' → K (A.put (some 9) v) w') := Lib.hid hK0
                clear hK0 hN hS hE
                change Oper.wp _ _ A wx K _
                go_step
                exact hK.out _ _ rfl (H)
            case hend =>
              intro x wx A hA hS H
              replace H : Sp w0 ((Wr r (PBits.num (PBits.addP B tn0 tm0)) (PBits.addP B tn0 tm0).length) :: (Rw f (PBits.addP B tn0 tm0) 0) :: Bk ga 68 [.int .i64 0, .int .i64 tm0, .int .u64 (tn0 : Int), .slice B3 tb0.length cb3] :: L) wx := H
              have y12 : x 12 = .int .i64 (PBits.cd tn0 tm0) := hS 12 (by decide)
              have y13 : x 13 = .int .i64 (PBits.cd tn0 tm0) := hS 13 (by decide)
              clear hS
              simp only [putAll, Act.put, List.setIfInBounds_toArray, List.set_cons_succ, List.set_cons_zero, Nat.reduceAdd] at hA
              subst hA
              go_wp2_with fail
              go_meet
              exact ⟨PBits.cd tn0 tm0, PBits.addP B tn0 tm0, y12, y13, rfl, Nat.le_trans (PBits.addP_len B tn0 tm0) (by omega), H.pick 3 [2, 0, 1]⟩
          · have e0' : (tw == 0) = false := by rw [beq_eq_false_iff_ne]; exact e0
            by_cases e1 : tw = 1
            · subst e1
              go_wp2_with fail
              clear x0
              refine wp_region_sp (L := Bk ga 68 [.int .i64 1, .int .i64 tm0, .int .u64 (tn0 : Int), .slice B3 tb0.length cb3] :: L) (fun ix vx => ([(· = .pointer (some ⟨r, 0, none⟩)), (· = .pointer (some ⟨ga, 2, none⟩)), (· = .int .u64 (tn0 : Int)), (· = .pointer (some ⟨ga, 1, none⟩)), (· = .int .i64 tm0), (· = .int .i64 (PBits.cd tn0 tm0)), (· = .pointer (some ⟨f, 0, none⟩)), (· = .pointer (some ⟨ga, 2, none⟩)), (· = .int .u64 (tn0 : Int)), (· = .pointer (some ⟨ga, 1, none⟩)), (· = .int .i64 tm0), (· = .int .i64 (PBits.cd tn0 tm0)), (· = .int .i64 (PBits.cd tn0 tm0)), (· = .int .i64 (PBits.cd tn0 tm0))] : List (Value → Prop)).getD ix (fun _ => True) vx)
                (fun ix vx => ([fun _ => [], fun _ => [], fun _ => [], fun _ => [], fun _ => [], fun _ => [Wr r (PBits.num (PBits.addC B tn0 tm0)) (PBits.addC B tn0 tm0).length], fun _ => [], fun _ => [], fun _ => [], fun _ => [], fun _ => [], fun _ => [Rw f (PBits.addC B tn0 tm0) 0], fun _ => [], fun _ => []] : List (Value → List Pr)).getD ix (fun _ => []) vx) (fun ix => ([[], [], [], [], [], [Wr r (PBits.num B) B.length], [], [], [], [], [], [Rw f B 0], [], []] : List (List Pr)).getD ix []) 14 140
                [some 51, some 52, some 53, some 54, some 55, some 56, some 57, some 58, some 59, some 60, some 61, some 62, some 8, some 9]
                [[], [], [1], [], [3], [0, 2, 4], [], [], [7], [], [9], [6, 8, 10, 5], [5, 11, 0, 1, 2, 3, 4, 5], [11, 12, 0, 1, 2, 3, 4, 5, 6, 7, 8, 9, 10, 11, 12]]
                [[], [], [1], [], [3], [0, 1, 2, 3, 4], [], [], [7], [], [9], [0, 1, 2, 3, 4, 5, 6, 7, 8, 9, 10], [0, 1, 2, 3, 4, 5, 6, 7, 8, 9, 10, 11], [0, 1, 2, 3, 4, 5, 6, 7, 8, 9, 10, 11, 12]]
                [[], [], [], [], [], [], [], [], [], [], [], [], [], []]
                [[], [], [], [], [], [], [], [], [], [], [], [], [], []]
                [(3, .pointer (some ⟨r, 0, none⟩)), (4, .pointer (some ⟨f, 0, none⟩)), (6, .pointer (some ⟨ga, 0, none⟩))]
                (by kernel_rfl) rfl (by decide) (by rfl) rfl (by decide +kernel) (by decide +kernel) (by rfl) rfl rfl (by decide) (by simp) (by rfl) (H6.pick 3 [1, 2, 0]) ?hstep ?hend
              case hstep =>
                refine ⟨?_, ⟨?_, ⟨?_, ⟨?_, ⟨?_, ⟨?_, ⟨?_, ⟨?_, ⟨?_, ⟨?_, ⟨?_, ⟨?_, ⟨?_, ⟨?_, trivial⟩⟩⟩⟩⟩⟩⟩⟩⟩⟩⟩⟩⟩⟩
                · intro x wx A rest hN hS hE H K hK0
                  have e3 : A.tmps[3]?.getD undef = .pointer (some ⟨r, 0, none⟩) := hN (3, .pointer (some ⟨r, 0, none⟩)) (by simp)
                  replace H : Sp w0 (rest) wx := H
                  have hK : Hid (∀ (v : Value) (w' : World), v = .pointer (some ⟨r, 0, none⟩) → Sp w0 (rest) w' → K (A.put (some 51) v) w') := Lib.hid hK0
                  clear hK0 hN hS hE
                  change Oper.wp _ _ A wx K _
                  go_step
                  exact hK.out _ _ rfl (H)
                · intro x wx A rest hN hS hE H K hK0
                  have e6 : A.tmps[6]?.getD undef = .pointer (some ⟨ga, 0, none⟩) := hN (6, .pointer (some ⟨ga, 0, none⟩)) (by simp)
                  replace H : Sp w0 (rest) wx := H
                  have hK : Hid (∀ (v : Value) (w' : World), v = .pointer (some ⟨ga, 2, none⟩) → Sp w0 (rest) w' → K (A.put (some 52) v) w') := Lib.hid hK0
                  clear hK0 hN hS hE
                  change Oper.wp _ _ A wx K _
                  go_step
                  exact hK.out _ _ rfl (H)
                · intro x wx A rest hN hS hE H K hK0
                  have e52 : A.tmps[52]?.getD undef = .pointer (some ⟨ga, 2, none⟩) := ((hS 1 (by decide)).2 52 rfl).trans (hS 1 (by decide)).1
                  replace H : Sp w0 (rest) wx := H
                  have hK : Hid (∀ (v : Value) (w' : World), v = .int .u64 (tn0 : Int) → Sp w0 (rest) w' → K (A.put (some 53) v) w') := Lib.hid hK0
                  clear hK0 hN hS
                  have c2 : wx.cell? ⟨ga, 2, none⟩ = some (.int .u64 (tn0 : Int)) := hE (fun w => w.cell? ⟨ga, 2, none⟩ = some (.int .u64 (tn0 : Int))) (fun _ _ H => H.cell 0 rfl 2) _ _ H
                  change Oper.wp _ _ A wx K _
                  go_step
                  exact hK.out _ _ rfl (H)
                · intro x wx A rest hN hS hE H K hK0
                  have e6 : A.tmps[6]?.getD undef = .pointer (some ⟨ga, 0, none⟩) := hN (6, .pointer (some ⟨ga, 0, none⟩)) (by simp)
                  replace H : Sp w0 (rest) wx := H
                  have hK : Hid (∀ (v : Value) (w' : World), v = .pointer (some ⟨ga, 1, none⟩) → Sp w0 (rest) w' → K (A.put (some 54) v) w') := Lib.hid hK0
                  clear hK0 hN hS hE
                  change Oper.wp _ _ A wx K _
                  go_step
                  exact hK.out _ _ rfl (H)
                · intro x wx A rest hN hS hE H K hK0
                  have e54 : A.tmps[54]?.getD undef = .pointer (some ⟨ga, 1, none⟩) := ((hS 3 (by decide)).2 54 rfl).trans (hS 3 (by decide)).1
                  replace H : Sp w0 (rest) wx := H
                  have hK : Hid (∀ (v : Value) (w' : World), v = .int .i64 tm0 → Sp w0 (rest) w' → K (A.put (some 55) v) w') := Lib.hid hK0
                  clear hK0 hN hS
                  have c1 : wx.cell? ⟨ga, 1, none⟩ = some (.int .i64 tm0) := hE (fun w => w.cell? ⟨ga, 1, none⟩ = some (.int .i64 tm0)) (fun _ _ H => H.cell 0 rfl 1) _ _ H
                  change Oper.wp _ _ A wx K _
                  go_step
                  exact hK.out _ _ rfl (H)
                · intro x wx A rest hN hS hE H K hK0
                  have e51 : A.tmps[51]?.getD undef = .pointer (some ⟨r, 0, none⟩) := ((hS 0 (by decide)).2 51 rfl).trans (hS 0 (by decide)).1
                  have e53 : A.tmps[53]?.getD undef = .int .u64 (tn0 : Int) := ((hS 2 (by decide)).2 53 rfl).trans (hS 2 (by decide)).1
                  have e55 : A.tmps[55]?.getD undef = .int .i64 tm0 := ((hS 4 (by decide)).2 55 rfl).trans (hS 4 (by decide)).1
                  replace H : Sp w0 ((Wr r (PBits.num B) B.length) :: rest) wx := H
                  have hK : Hid (∀ (v : Value) (w' : World), v = .int .i64 (PBits.cd tn0 tm0) → Sp w0 ((Wr r (PBits.num (PBits.addC B tn0 tm0)) (PBits.addC B tn0 tm0).length) :: rest) w' → K (A.put (some 56) v) w') := Lib.hid hK0
                  clear hK0 hN hS hE
                  change Oper.wp _ _ A wx K _
                  go_wp2_with fail
                  refine (wcode_all r B tn0 tm0 H (by omega)).mono ?_
                  rintro _ w9 ⟨rfl, H9⟩
                  exact hK.out _ _ rfl H9
                · intro x wx A rest hN hS hE H K hK0
                  have e4 : A.tmps[4]?.getD undef = .pointer (some ⟨f, 0, none⟩) := hN (4, .pointer (some ⟨f, 0, none⟩)) (by simp)
                  replace H : Sp w0 (rest) wx := H
                  have hK : Hid (∀ (v : Value) (w' : World), v = .pointer (some ⟨f, 0, none⟩) → Sp w0 (rest) w' → K (A.put (some 57) v) w') := Lib.hid hK0
                  clear hK0 hN hS hE
                  change Oper.wp _ _ A wx K _
                  go_step
                  exact hK.out _ _ rfl (H)
                · intro x wx A rest hN hS hE H K hK0
                  have e6 : A.tmps[6]?.getD undef = .pointer (some ⟨ga, 0, none⟩) := hN (6, .pointer (some ⟨ga, 0, none⟩)) (by simp)
                  replace H : Sp w0 (rest) wx := H
                  have hK : Hid (∀ (v : Value) (w' : World), v = .pointer (some ⟨ga, 2, none⟩) → Sp w0 (rest) w' → K (A.put (some 58) v) w') := Lib.hid hK0
                  clear hK0 hN hS hE
                  change Oper.wp _ _ A wx K _
                  go_step
                  exact hK.out _ _ rfl (H)
                · intro x wx A rest hN hS hE H K hK0
                  have e58 : A.tmps[58]?.getD undef = .pointer (some ⟨ga, 2, none⟩) := ((hS 7 (by decide)).2 58 rfl).trans (hS 7 (by decide)).1
                  replace H : Sp w0 (rest) wx := H
                  have hK : Hid (∀ (v : Value) (w' : World), v = .int .u64 (tn0 : Int) → Sp w0 (rest) w' → K (A.put (some 59) v) w') := Lib.hid hK0
                  clear hK0 hN hS
                  have c2 : wx.cell? ⟨ga, 2, none⟩ = some (.int .u64 (tn0 : Int)) := hE (fun w => w.cell? ⟨ga, 2, none⟩ = some (.int .u64 (tn0 : Int))) (fun _ _ H => H.cell 0 rfl 2) _ _ H
                  change Oper.wp _ _ A wx K _
                  go_step
                  exact hK.out _ _ rfl (H)
                · intro x wx A rest hN hS hE H K hK0
                  have e6 : A.tmps[6]?.getD undef = .pointer (some ⟨ga, 0, none⟩) := hN (6, .pointer (some ⟨ga, 0, none⟩)) (by simp)
                  replace H : Sp w0 (rest) wx := H
                  have hK : Hid (∀ (v : Value) (w' : World), v = .pointer (some ⟨ga, 1, none⟩) → Sp w0 (rest) w' → K (A.put (some 60) v) w') := Lib.hid hK0
                  clear hK0 hN hS hE
                  change Oper.wp _ _ A wx K _
                  go_step
                  exact hK.out _ _ rfl (H)
                · intro x wx A rest hN hS hE H K hK0
                  have e60 : A.tmps[60]?.getD undef = .pointer (some ⟨ga, 1, none⟩) := ((hS 9 (by decide)).2 60 rfl).trans (hS 9 (by decide)).1
                  replace H : Sp w0 (rest) wx := H
                  have hK : Hid (∀ (v : Value) (w' : World), v = .int .i64 tm0 → Sp w0 (rest) w' → K (A.put (some 61) v) w') := Lib.hid hK0
                  clear hK0 hN hS
                  have c1 : wx.cell? ⟨ga, 1, none⟩ = some (.int .i64 tm0) := hE (fun w => w.cell? ⟨ga, 1, none⟩ = some (.int .i64 tm0)) (fun _ _ H => H.cell 0 rfl 1) _ _ H
                  change Oper.wp _ _ A wx K _
                  go_step
                  exact hK.out _ _ rfl (H)
                · intro x wx A rest hN hS hE H K hK0
                  have e57 : A.tmps[57]?.getD undef = .pointer (some ⟨f, 0, none⟩) := ((hS 6 (by decide)).2 57 rfl).trans (hS 6 (by decide)).1
                  have e59 : A.tmps[59]?.getD undef = .int .u64 (tn0 : Int) := ((hS 8 (by decide)).2 59 rfl).trans (hS 8 (by decide)).1
                  have e61 : A.tmps[61]?.getD undef = .int .i64 tm0 := ((hS 10 (by decide)).2 61 rfl).trans (hS 10 (by decide)).1
                  replace H : Sp w0 ((Rw f B 0) :: rest) wx := H
                  have hK : Hid (∀ (v : Value) (w' : World), v = .int .i64 (PBits.cd tn0 tm0) → Sp w0 ((Rw f (PBits.addC B tn0 tm0) 0) :: rest) w' → K (A.put (some 62) v) w') := Lib.hid hK0
                  clear hK0 hN hS hE
                  change Oper.wp _ _ A wx K _
                  go_wp2_with fail
                  refine (fcode_all f B 0 tn0 tm0 H tn (by omega)).mono ?_
                  rintro _ w9 ⟨rfl, H9⟩
                  exact hK.out _ _ rfl H9
                · intro x wx A rest hN hS hE H K hK0
                  have e56 : A.tmps[56]?.getD undef = .int .i64 (PBits.cd tn0 tm0) := ((hS 5 (by decide)).2 56 rfl).trans (hS 5 (by decide)).1
                  replace H : Sp w0 (rest) wx := H
                  have hK : Hid (∀ (v : Value) (w' : World), v = .int .i64 (PBits.cd tn0 tm0) → Sp w0 (rest) w' → K (A.put (some 8) v) w') := Lib.hid hK0
                  clear hK0 hN hS hE
                  change Oper.wp _ _ A wx K _
                  go_step
                  exact hK.out _ _ rfl (H)
                · intro x wx A rest hN hS hE H K hK0
                  have e62 : A.tmps[62]?.getD undef = .int .i64 (PBits.cd tn0 tm0) := ((hS 11 (by decide)).2 62 rfl).trans (hS 11 (by decide)).1
                  replace H : Sp w0 (rest) wx := H
                  have hK : Hid (∀ (v : Value) (w' : World), v = .int .i64 (PBits.cd tn0 tm0) → Sp w0 (rest) w' → K (A.put (some 9) v) w') := Lib.hid hK0
                  clear hK0 hN hS hE
                  change Oper.wp _ _ A wx K _
                  go_step
                  exact hK.out _ _ rfl (H)
              case hend =>
                intro x wx A hA hS H
                replace H : Sp w0 ((Wr r (PBits.num (PBits.addC B tn0 tm0)) (PBits.addC B tn0 tm0).length) :: (Rw f (PBits.addC B tn0 tm0) 0) :: Bk ga 68 [.int .i64 1, .int .i64 tm0, .int .u64 (tn0 : Int), .slice B3 tb0.length cb3] :: L) wx := H
                have y12 : x 12 = .int .i64 (PBits.cd tn0 tm0) := hS 12 (by decide)
                have y13 : x 13 = .int .i64 (PBits.cd tn0 tm0) := hS 13 (by decide)
                clear hS
                simp only [putAll, Act.put, List.setIfInBounds_toArray, List.set_cons_succ, List.set_cons_zero, Nat.reduceAdd] at hA
                subst hA
                go_wp2_with fail
                go_meet
                exact ⟨PBits.cd tn0 tm0, PBits.addC B tn0 tm0, y12, y13, rfl, Nat.le_trans (PBits.addC_len B tn0 tm0) (by omega), H.pick 3 [2, 0, 1]⟩
            · have e1' : (tw == 1) = false := by rw [beq_eq_false_iff_ne]; exact e1
              by_cases e2 : tw = 2
              · subst e2
                go_wp2_with fail
                refine (align_ok r (PBits.num B) B.length (H6.pick 3 [1, 0, 2]) (PBits.num_lt B) (by omega)).mono ?_
                rintro _ w6 ⟨rfl, H7⟩
                clear x0
                go_wp2_with fail
                refine (ffill_ok f B 0 (H7.pick 3 [2, 0, 1]) (by omega)).mono ?_
                rintro _ w7 ⟨rfl, H8⟩
                go_wp2_with fail
                go_meet
                have el : (B ++ List.replicate ((8 - B.length % 8) % 8) false).length = (B.length + 7) / 8 * 8 := by rw [List.length_append, List.length_replicate]; omega
                refine ⟨0, B ++ List.replicate ((8 - B.length % 8) % 8) false, rfl, rfl, rfl, by rw [el]; omega, ?_⟩
                rw [el, PBits.num_append, PBits.num_false, Nat.mul_zero, Nat.add_zero]
                exact H8.pick 3 [2, 1, 0]
              · have e2' : (tw == 2) = false := by rw [beq_eq_false_iff_ne]; exact e2
                by_cases e3 : tw = 3
                · subst e3
                  go_wp2_with fail
                  refine (clone_ok H6 (HBE.out _ _ (H6.pick 3 [])) (by rw [HBLL.out]; omega)).mono ?_
                  rintro _ w6 ⟨v, rfl, H7⟩
                  clear x0
                  rw [HBLL.out] at H7
                  obtain ⟨D, dc, rfl, hd1, hd2⟩ := Row.form H7 0 rfl
                  unfold maxLen at hd2
                  by_cases h8 : B.length % 8 = 0
                  · go_wp2_with fail
                    refine (bytes_ok r (PBits.num B) B.length (H7.pick 3 [2, 0, 1]) (H7.row_byt 0 (by rw [HBLL.out]; rfl)) h8 (PBits.num_lt B) (by omega) (by rw [HBLL.out]; omega)).mono ?_
                    rintro _ w7 ⟨rfl, H8⟩
                    go_wp2_with fail
                    refine (flay_ok f B 0 B3 cb3 nb bl (H8.pick 4 [3, 0, 1, 2]) HBLL.out.symm (Ent.pick 3 [] HBE.out) (by rw [HBLL.out]; omega) (by omega) h8).mono ?_
                    rintro _ w8 ⟨rfl, H9⟩
                    replace H9 := H9.pick 4 [2, 3, 1, 0]
                    go_wp2_with fail
                    go_loopw [81] (fun ix wr => ∃ (j : Nat) (xs : List Value), j ≤ nb ∧ ix = .int .i64 (j : Int) ∧ U8s xs ∧ Sp w0 (Row 5 1 (.slice D nb dc) nb xs :: Bk ga 68 [.int .i64 3, .int .i64 tm0, .int .u64 (tn0 : Int), .slice B3 tb0.length cb3] :: Wr r (PBits.num B + PBits.le bl * 2 ^ B.length) (B.length + 8 * bl.length) :: Rw f (B ++ PBits.ofB bl) 0 :: L) wr) (fun ix _ => nb - (intOf ix).toNat)
                    case atStart => exact ⟨0, _, Nat.zero_le _, rfl, U8s.cells bl, H9⟩
                    case round =>
                      obtain ⟨j, xs, hj, rfl, hu, H4⟩ := hrel
                      by_cases hlt : j < nb
                      · have hlt' : (j : Int) < nb := by omega
                        obtain ⟨ad, c9, ev, _, hc, hz, hset⟩ := H4.rowSet hlt
                        injection ev with ev e2 e3
                        subst ev
                        clear e2 e3
                        have hjx : j < xs.length := by
                          have := (H4.owns 0 rfl).1
                          omega
                        rw [List.getElem?_eq_getElem hjx] at hc
                        obtain ⟨z, hzz⟩ := hu _ (List.getElem_mem hjx)
                        rw [hzz] at hc
                        have HU := Lib.hid hu
                        have HS := Lib.hid hset
                        clear hu hset hzz
                        go_wp2
                        go_roundw
                        case rel => exact ⟨j + 1, _, by omega, by go_num, HU.out.set_ j _, HS.out _⟩
                        case measure => simp [intOf]; omega
                      · have hlt' : ¬ (j : Int) < nb := by omega
                        clear hu
                        go_wp2_with fail
                        go_meet
                        have el : (B ++ PBits.ofB bl).length = B.length + 8 * bl.length := by rw [List.length_append, PBits.ofB_length]
                        refine ⟨0, B ++ PBits.ofB bl, rfl, rfl, rfl, by rw [el, HBLL.out]; omega, ?_⟩
                        rw [el, PBits.num_append, PBits.num_ofB, Nat.mul_comm (2 ^ B.length)]
                        exact H4.tail
                  · go_wp2_with fail
                    refine (bytes_bad r (PBits.num B) B.length _ (H7.pick 3 [2, 0, 1]) h8).mono ?_
                    rintro _ w7 ⟨rfl, rfl⟩
                    go_wp2_with fail
                    refine (flay_bad f _ B 0 (H7.pick 4 [3, 0, 1, 2]) (by omega) h8).mono ?_
                    rintro _ w8 ⟨rfl, rfl⟩
                    have H9 := H7
                    go_wp2_with fail
                    go_loopw [81] (fun ix wr => ∃ (j : Nat) (xs : List Value), j ≤ nb ∧ ix = .int .i64 (j : Int) ∧ U8s xs ∧ Sp w0 (Row 5 1 (.slice D nb dc) nb xs :: Bk ga 68 [.int .i64 3, .int .i64 tm0, .int .u64 (tn0 : Int), .slice B3 tb0.length cb3] :: Wr r (PBits.num B) B.length :: Rw f B 0 :: L) wr) (fun ix _ => nb - (intOf ix).toNat)
                    case atStart => exact ⟨0, _, Nat.zero_le _, rfl, U8s.cells bl, H9⟩
                    case round =>
                      obtain ⟨j, xs, hj, rfl, hu, H4⟩ := hrel
                      by_cases hlt : j < nb
                      · have hlt' : (j : Int) < nb := by omega
                        obtain ⟨ad, c9, ev, _, hc, hz, hset⟩ := H4.rowSet hlt
                        injection ev with ev e2 e3
                        subst ev
                        clear e2 e3
                        have hjx : j < xs.length := by
                          have := (H4.owns 0 rfl).1
                          omega
                        rw [List.getElem?_eq_getElem hjx] at hc
                        obtain ⟨z, hzz⟩ := hu _ (List.getElem_mem hjx)
                        rw [hzz] at hc
                        have HU := Lib.hid hu
                        have HS := Lib.hid hset
                        clear hu hset hzz
                        go_wp2
                        go_roundw
                        case rel => exact ⟨j + 1, _, by omega, by go_num, HU.out.set_ j _, HS.out _⟩
                        case measure => simp [intOf]; omega
                      · have hlt' : ¬ (j : Int) < nb := by omega
                        clear hu
                        go_wp2_with fail
                        go_meet
                        exact ⟨1, B, rfl, rfl, rfl, by omega, H4.tail⟩
                · have e3' : (tw == 3) = false := by rw [beq_eq_false_iff_ne]; exact e3
                  go_wp2_with fail
                  go_meet
                  exact ⟨0, B, rfl, rfl, rfl, by omega, H6⟩
        case rest =>
          clear H6 hBl H5
          obtain ⟨e, B, rfl, rfl, rfl, hBl, H7⟩ := hcut
          clear hi60'
          obtain ⟨V, hV⟩ : ∃ V, PBits.num B = V := ⟨_, rfl⟩
          obtain ⟨n, hn⟩ : ∃ n, B.length = n := ⟨_, rfl⟩
          obtain ⟨dn, hdn⟩ : ∃ dn, (n + 7) / 8 = dn := ⟨_, rfl⟩
          obtain ⟨bs, hbs⟩ : ∃ bs, PBits.bytesOf V dn = bs := ⟨_, rfl⟩
          have hbsl : bs.length = dn := by rw [← hbs]; exact PBits.bytesOf_length _ _
          rw [hn] at hBl
          rw [hV, hn] at H7
          have hdb : dn ≤ 2000 := by omega
          have HV := Lib.hid hV
          have HN := Lib.hid hn
          have HDN := Lib.hid hdn
          have HBS := Lib.hid hbs
          have HBSL := Lib.hid hbsl
          clear hV hn hdn hbs hbsl
          obtain ⟨kk, hkk⟩ : ∃ kk : Nat, (kk : Int) = min (max tm0 0) 64 := ⟨(min (max tm0 0) 64).toNat, by omega⟩
          have HKK := Lib.hid hkk
          clear hkk
          obtain ⟨rv, hrv⟩ : ∃ rv, PBits.rev tn0 kk = rv := ⟨_, rfl⟩
          have HRV := Lib.hid hrv
          clear hrv
          go_wp2_with fail
          refine (done_ok r V n (H7.pick 2 [1, 0]) (by omega)).mono ?_
          rintro _ w9 ⟨v, rfl, H8⟩
          rw [HDN.out, HBS.out] at H8
          obtain ⟨D, dc, rfl, hd1, hd2⟩ := Row.form H8 0 rfl
          unfold maxLen at hd2
          go_wp2_with fail
          refine wp_region_sp (L := Row 5 1 (.slice D dn dc) dn (cells8 bs) :: Wr r V n :: Bk ga 68 [.int .i64 tw, .int .i64 tm0, .int .u64 (tn0 : Int), .slice B3 tb0.length cb3] :: L) (fun ix vx => ([(· = .int .i64 e), (· = .int .i64 e), (· = .bool false), (· = .bool false), (· = .pointer (some ⟨r, 0, none⟩)), (· = .int .i64 (n : Int)), (· = .pointer (some ⟨f, 0, none⟩)), (· = .pointer (some ⟨f, 0, none⟩)), (· = .pointer (some ⟨f, 0, none⟩)), (fun v => ∃ U c, v = .slice U n c), (· = .int .i64 (n : Int)), (· = .bool false), (· = .bool false), (· = .bool false), (· = .slice D dn dc), (· = .pointer (some ⟨f, 0, none⟩)), (fun _ => True), (· = .bool true), (· = .bool false), (· = .bool false), (· = .bool false), (· = .pointer (some ⟨ga, 2, none⟩)), (· = .int .u64 (tn0 : Int)), (· = .pointer (some ⟨ga, 1, none⟩)), (· = .int .i64 tm0), (· = .int .u64 (rv : Int)), (· = .pointer (some ⟨ga, 2, none⟩)), (· = .int .u64 (tn0 : Int)), (· = .pointer (some ⟨ga, 1, none⟩)), (· = .int .i64 tm0), (· = .int .u64 (rv : Int)), (· = .bool false), (· = .bool false)] : List (Value → Prop)).getD ix (fun _ => True) vx)
            (fun ix vx => ([fun _ => [], fun _ => [], fun _ => [], fun _ => [], fun _ => [], fun _ => [], fun _ => [], fun _ => [], fun _ => [], fun _ => [], fun _ => [], fun _ => [], fun _ => [], fun _ => [], fun _ => [], fun _ => [], fun v => [Row 5 1 v dn (cells8 bs), Rw f B 0], fun _ => [Rw f B 0], fun _ => [], fun _ => [], fun _ => [], fun _ => [], fun _ => [], fun _ => [], fun _ => [], fun _ => [], fun _ => [], fun _ => [], fun _ => [], fun _ => [], fun _ => [], fun _ => [], fun _ => []] : List (Value → List Pr)).getD ix (fun _ => []) vx) (fun ix => ([[], [], [], [], [], [], [], [], [], [], [], [], [], [], [], [], [Rw f B 0], [], [], [], [], [], [], [], [], [], [], [], [], [], [], [], []] : List (List Pr)).getD ix []) 33 140
            [some 93, some 94, some 95, some 96, some 97, some 98, some 99, some 100, some 101, some 102, some 103, some 104, some 105, some 106, some 107, some 108, some 109, some 110, some 111, some 112, some 113, some 114, some 115, some 116, some 117, some 118, some 119, some 120, some 121, some 122, some 123, some 124, some 125]
            [[], [], [0, 1], [2], [3], [4, 3, 3], [3], [6, 3], [7, 3], [8, 3], [9, 3], [5, 10, 3], [3, 11], [12, 5], [13], [13], [15, 13, 13], [14, 16, 16, 13], [17, 13], [13, 18], [19, 17], [20], [21, 20], [20], [23, 20], [22, 24, 20, 20], [20], [26, 20], [20], [28, 20], [27, 29, 25, 20], [25, 30, 20], [20, 31]]
            [[], [], [0, 1], [0, 1, 2], [0, 1, 2, 3], [0, 1, 2, 3, 4], [0, 1, 2, 3], [0, 1, 2, 3, 6], [0, 1, 2, 3, 6, 7], [0, 1, 2, 3, 6, 7, 8], [0, 1, 2, 3, 6, 7, 8, 9], [0, 1, 2, 3, 4, 5, 6, 7, 8, 9, 10], [0, 1, 2, 3, 4, 5, 6, 7, 8, 9, 10, 11], [0, 1, 2, 3, 4, 5, 6, 7, 8, 9, 10, 11, 12], [0, 1, 2, 3, 4, 5, 6, 7, 8, 9, 10, 11, 12, 13], [0, 1, 2, 3, 4, 5, 6, 7, 8, 9, 10, 11, 12, 13], [0, 1, 2, 3, 4, 5, 6, 7, 8, 9, 10, 11, 12, 13, 15], [0, 1, 2, 3, 4, 5, 6, 7, 8, 9, 10, 11, 12, 13, 14, 15, 16], [0, 1, 2, 3, 4, 5, 6, 7, 8, 9, 10, 11, 12, 13, 14, 15, 16, 17], [0, 1, 2, 3, 4, 5, 6, 7, 8, 9, 10, 11, 12, 13, 14, 15, 16, 17, 18], [0, 1, 2, 3, 4, 5, 6, 7, 8, 9, 10, 11, 12, 13, 14, 15, 16, 17, 18, 19], [0, 1, 2, 3, 4, 5, 6, 7, 8, 9, 10, 11, 12, 13, 14, 15, 16, 17, 18, 19, 20], [0, 1, 2, 3, 4, 5, 6, 7, 8, 9, 10, 11, 12, 13, 14, 15, 16, 17, 18, 19, 20, 21], [0, 1, 2, 3, 4, 5, 6, 7, 8, 9, 10, 11, 12, 13, 14, 15, 16, 17, 18, 19, 20], [0, 1, 2, 3, 4, 5, 6, 7, 8, 9, 10, 11, 12, 13, 14, 15, 16, 17, 18, 19, 20, 23], [0, 1, 2, 3, 4, 5, 6, 7, 8, 9, 10, 11, 12, 13, 14, 15, 16, 17, 18, 19, 20, 21, 22, 23, 24], [0, 1, 2, 3, 4, 5, 6, 7, 8, 9, 10, 11, 12, 13, 14, 15, 16, 17, 18, 19, 20], [0, 1, 2, 3, 4, 5, 6, 7, 8, 9, 10, 11, 12, 13, 14, 15, 16, 17, 18, 19, 20, 26], [0, 1, 2, 3, 4, 5, 6, 7, 8, 9, 10, 11, 12, 13, 14, 15, 16, 17, 18, 19, 20], [0, 1, 2, 3, 4, 5, 6, 7, 8, 9, 10, 11, 12, 13, 14, 15, 16, 17, 18, 19, 20, 28], [0, 1, 2, 3, 4, 5, 6, 7, 8, 9, 10, 11, 12, 13, 14, 15, 16, 17, 18, 19, 20, 21, 22, 23, 24, 25, 26, 27, 28, 29], [0, 1, 2, 3, 4, 5, 6, 7, 8, 9, 10, 11, 12, 13, 14, 15, 16, 17, 18, 19, 20, 21, 22, 23, 24, 25, 26, 27, 28, 29, 30], [0, 1, 2, 3, 4, 5, 6, 7, 8, 9, 10, 11, 12, 13, 14, 15, 16, 17, 18, 19, 20, 21, 22, 23, 24, 25, 26, 27, 28, 29, 30, 31]]
            [[], [], [], [], [], [], [], [], [], [], [], [], [], [], [], [], [], [16], [], [], [], [], [], [], [], [], [], [], [], [], [], [], []]
            [[], [], [], [], [], [], [], [], [], [16], [], [], [], [], [], [], [], [], [], [], [], [], [], [], [], [], [], [], [], [], [], [], []]
            [(3, .pointer (some ⟨r, 0, none⟩)), (4, .pointer (some ⟨f, 0, none⟩)), (6, .pointer (some ⟨ga, 0, none⟩)), (8, .int .i64 e), (9, .int .i64 e), (12, .slice D dn dc)]
            (by kernel_rfl) rfl (by decide) (by rfl) rfl (by decide +kernel) (by decide +kernel) (by rfl) rfl rfl (by decide) (by simp) (by rfl) (H8.pick 4 [3, 0, 1, 2]) ?hstep ?hend
          case hstep =>
            refine ⟨?_, ⟨?_, ⟨?_, ⟨?_, ⟨?_, ⟨?_, ⟨?_, ⟨?_, ⟨?_, ⟨?_, ⟨?_, ⟨?_, ⟨?_, ⟨?_, ⟨?_, ⟨?_, ⟨?_, ⟨?_, ⟨?_, ⟨?_, ⟨?_, ⟨?_, ⟨?_, ⟨?_, ⟨?_, ⟨?_, ⟨?_, ⟨?_, ⟨?_, ⟨?_, ⟨?_, ⟨?_, ⟨?_, trivial⟩⟩⟩⟩⟩⟩⟩⟩⟩⟩⟩⟩⟩⟩⟩⟩⟩⟩⟩⟩⟩⟩⟩⟩⟩⟩⟩⟩⟩⟩⟩⟩⟩
            · intro x wx A rest hN hS hE H K hK0
              have e8 : A.tmps[8]?.getD undef = .int .i64 e := hN (8, .int .i64 e) (by simp)
              replace H : Sp w0 (rest) wx := H
              have hK : Hid (∀ (v : Value) (w' : World), v = .int .i64 e → Sp w0 (rest) w' → K (A.put (some 93) v) w') := Lib.hid hK0
              clear hK0 hN hS hE
              change Oper.wp _ _ A wx K _
              go_step
              exact hK.out _ _ rfl (H)
            · intro x wx A rest hN hS hE H K hK0
              have e9 : A.tmps[9]?.getD undef = .int .i64 e := hN (9, .int .i64 e) (by simp)
              replace H : Sp w0 (rest) wx := H
              have hK : Hid (∀ (v : Value) (w' : World), v = .int .i64 e → Sp w0 (rest) w' → K (A.put (some 94) v) w') := Lib.hid hK0
              clear hK0 hN hS hE
              change Oper.wp _ _ A wx K _
              go_step
              exact hK.out _ _ rfl (H)
            · intro x wx A rest hN hS hE H K hK0
              have e93 : A.tmps[93]?.getD undef = .int .i64 e := ((hS 0 (by decide)).2 93 rfl).trans (hS 0 (by decide)).1
              have e94 : A.tmps[94]?.getD undef = .int .i64 e := ((hS 1 (by decide)).2 94 rfl).trans (hS 1 (by decide)).1
              replace H : Sp w0 (rest) wx := H
              have hK : Hid (∀ (v : Value) (w' : World), v = .bool false → Sp w0 (rest) w' → K (A.put (some 95) v) w') := Lib.hid hK0
              clear hK0 hN hS hE
              change Oper.wp _ _ A wx K _
              go_step
              exact hK.out _ _ rfl (H)
            · intro x wx A rest hN hS hE H K hK0
              have e95 : A.tmps[95]?.getD undef = .bool false := ((hS 2 (by decide)).2 95 rfl).trans (hS 2 (by decide)).1
              replace H : Sp w0 (rest) wx := H
              have hK : Hid (∀ (v : Value) (w' : World), v = .bool false → Sp w0 (rest) w' → K (A.put (some 96) v) w') := Lib.hid hK0
              clear hK0 hN hS hE
              change Oper.wp _ _ A wx K _
              go_step
              exact hK.out _ _ rfl (H)
            · intro x wx A rest hN hS hE H K hK0
              have e3 : A.tmps[3]?.getD undef = .pointer (some ⟨r, 0, none⟩) := hN (3, .pointer (some ⟨r, 0, none⟩)) (by simp)
              have pg := (hS 3 (by decide)).1
              replace H : Sp w0 (rest) wx := H
              have hK : Hid (∀ (v : Value) (w' : World), v = .pointer (some ⟨r, 0, none⟩) → Sp w0 (rest) w' → K (A.put (some 97) v) w') := Lib.hid hK0
              clear hK0 hN hS hE
              refine ⟨some false, by rw [pg]; rfl, ?_⟩
              rw [if_pos rfl]
              change Oper.wp _ _ A wx K _
              go_step
              exact hK.out _ _ rfl (H)
            · intro x wx A rest hN hS hE H K hK0
              have e97 : A.tmps[97]?.getD undef = .pointer (some ⟨r, 0, none⟩) := ((hS 4 (by decide)).2 97 rfl).trans (hS 4 (by decide)).1
              have pg := (hS 3 (by decide)).1
              replace H : Sp w0 (rest) wx := H
              have hK : Hid (∀ (v : Value) (w' : World), v = .int .i64 (n : Int) → Sp w0 (rest) w' → K (A.put (some 98) v) w') := Lib.hid hK0
              clear hK0 hN hS
              have hl := hE (fun w => Calls Try.prog 48 #[.pointer (some ⟨r, 0, none⟩)] w fun e w' => e = .returned (.int .i64 (n : Int)) ∧ Keep w w') (fun _ _ H => len_ok r V n (H.pick 2 [1]) (by omega)) _ _ H
              refine ⟨some false, by rw [pg]; rfl, ?_⟩
              rw [if_pos rfl]
              change Oper.wp _ _ A wx K _
              go_wp2_with fail
              refine hl.mono ?_
              rintro _ w9 ⟨rfl, K9⟩
              exact hK.out _ _ rfl (K9.sep H)
            · intro x wx A rest hN hS hE H K hK0
              have e4 : A.tmps[4]?.getD undef = .pointer (some ⟨f, 0, none⟩) := hN (4, .pointer (some ⟨f, 0, none⟩)) (by simp)
              have pg := (hS 3 (by decide)).1
              replace H : Sp w0 (rest) wx := H
              have hK : Hid (∀ (v : Value) (w' : World), v = .pointer (some ⟨f, 0, none⟩) → Sp w0 (rest) w' → K (A.put (some 99) v) w') := Lib.hid hK0
              clear hK0 hN hS hE
              refine ⟨some false, by rw [pg]; rfl, ?_⟩
              rw [if_pos rfl]
              change Oper.wp _ _ A wx K _
              go_step
              exact hK.out _ _ rfl (H)
            · intro x wx A rest hN hS hE H K hK0
              have e99 : A.tmps[99]?.getD undef = .pointer (some ⟨f, 0, none⟩) := ((hS 6 (by decide)).2 99 rfl).trans (hS 6 (by decide)).1
              have pg := (hS 3 (by decide)).1
              replace H : Sp w0 (rest) wx := H
              have hK : Hid (∀ (v : Value) (w' : World), v = .pointer (some ⟨f, 0, none⟩) → Sp w0 (rest) w' → K (A.put (some 100) v) w') := Lib.hid hK0
              clear hK0 hN hS hE
              refine ⟨some false, by rw [pg]; rfl, ?_⟩
              rw [if_pos rfl]
              change Oper.wp _ _ A wx K _
              go_step
              exact hK.out _ _ rfl (H)
            · intro x wx A rest hN hS hE H K hK0
              have e100 : A.tmps[100]?.getD undef = .pointer (some ⟨f, 0, none⟩) := ((hS 7 (by decide)).2 100 rfl).trans (hS 7 (by decide)).1
              have pg := (hS 3 (by decide)).1
              replace H : Sp w0 (rest) wx := H
              have hK : Hid (∀ (v : Value) (w' : World), v = .pointer (some ⟨f, 0, none⟩) → Sp w0 (rest) w' → K (A.put (some 101) v) w') := Lib.hid hK0
              clear hK0 hN hS hE
              refine ⟨some false, by rw [pg]; rfl, ?_⟩
              rw [if_pos rfl]
              change Oper.wp _ _ A wx K _
              go_step
              exact hK.out _ _ rfl (H)
            · intro x wx A rest hN hS hE H K hK0
              have e101 : A.tmps[101]?.getD undef = .pointer (some ⟨f, 0, none⟩) := ((hS 8 (by decide)).2 101 rfl).trans (hS 8 (by decide)).1
              have pg := (hS 3 (by decide)).1
              replace H : Sp w0 ((Rw f B 0) :: rest) wx := H
              have hK : Hid (∀ (v : Value) (w' : World), (fun v => ∃ U c, v = .slice U n c) v → Sp w0 ((Rw f B 0) :: rest) w' → K (A.put (some 102) v) w') := Lib.hid hK0
              clear hK0 hN hS hE
              obtain ⟨U9, c9, _, _, c0, _, _, _, _, _⟩ := rw_open H
              rw [HN.out] at c0
              refine ⟨some false, by rw [pg]; rfl, ?_⟩
              rw [if_pos rfl]
              change Oper.wp _ _ A wx K _
              go_step
              exact hK.out _ _ ⟨U9, c9, rfl⟩ H
            · intro x wx A rest hN hS hE H K hK0
              have q102 := (hS 9 (by decide)).1
              have e102 : A.tmps[102]?.getD undef = x 9 := (hS 9 (by decide)).2 102 rfl
              have pg := (hS 3 (by decide)).1
              replace H : Sp w0 (rest) wx := H
              have hK : Hid (∀ (v : Value) (w' : World), v = .int .i64 (n : Int) → Sp w0 (rest) w' → K (A.put (some 103) v) w') := Lib.hid hK0
              clear hK0 hN hS hE
              obtain ⟨U9, c9, e9⟩ := q102
              rw [e9] at e102
              clear e9
              refine ⟨some false, by rw [pg]; rfl, ?_⟩
              rw [if_pos rfl]
              change Oper.wp _ _ A wx K _
              go_step
              exact hK.out _ _ rfl H
            · intro x wx A rest hN hS hE H K hK0
              have e98 : A.tmps[98]?.getD undef = .int .i64 (n : Int) := ((hS 5 (by decide)).2 98 rfl).trans (hS 5 (by decide)).1
              have e103 : A.tmps[103]?.getD undef = .int .i64 (n : Int) := ((hS 10 (by decide)).2 103 rfl).trans (hS 10 (by decide)).1
              have pg := (hS 3 (by decide)).1
              replace H : Sp w0 (rest) wx := H
              have hK : Hid (∀ (v : Value) (w' : World), v = .bool false → Sp w0 (rest) w' → K (A.put (some 104) v) w') := Lib.hid hK0
              clear hK0 hN hS hE
              refine ⟨some false, by rw [pg]; rfl, ?_⟩
              rw [if_pos rfl]
              change Oper.wp _ _ A wx K _
              go_step
              exact hK.out _ _ rfl (H)
            · intro x wx A rest hN hS hE H K hK0
              have e96 : A.tmps[96]?.getD undef = .bool false := ((hS 3 (by decide)).2 96 rfl).trans (hS 3 (by decide)).1
              have e104 : A.tmps[104]?.getD undef = .bool false := ((hS 11 (by decide)).2 104 rfl).trans (hS 11 (by decide)).1
              replace H : Sp w0 (rest) wx := H
              have hK : Hid (∀ (v : Value) (w' : World), v = .bool false → Sp w0 (rest) w' → K (A.put (some 105) v) w') := Lib.hid hK0
              clear hK0 hN hS hE
              change Oper.wp _ _ A wx K _
              go_step
              exact hK.out _ _ rfl (H)
            · intro x wx A rest hN hS hE H K hK0
              have e105 : A.tmps[105]?.getD undef = .bool false := ((hS 12 (by decide)).2 105 rfl).trans (hS 12 (by decide)).1
              replace H : Sp w0 (rest) wx := H
              have hK : Hid (∀ (v : Value) (w' : World), v = .bool false → Sp w0 (rest) w' → K (A.put (some 106) v) w') := Lib.hid hK0
              clear hK0 hN hS hE
              change Oper.wp _ _ A wx K _
              go_step
              exact hK.out _ _ rfl (H)
            · intro x wx A rest hN hS hE H K hK0
              have e12 : A.tmps[12]?.getD undef = .slice D dn dc := hN (12, .slice D dn dc) (by simp)
              have pg := (hS 13 (by decide)).1
              replace H : Sp w0 (rest) wx := H
              have hK : Hid (∀ (v : Value) (w' : World), v = .slice D dn dc → Sp w0 (rest) w' → K (A.put (some 107) v) w') := Lib.hid hK0
              clear hK0 hN hS hE
              refine ⟨some false, by rw [pg]; rfl, ?_⟩
              rw [if_pos rfl]
              change Oper.wp _ _ A wx K _
              go_step
              exact hK.out _ _ rfl (H)
            · intro x wx A rest hN hS hE H K hK0
              have e4 : A.tmps[4]?.getD undef = .pointer (some ⟨f, 0, none⟩) := hN (4, .pointer (some ⟨f, 0, none⟩)) (by simp)
              have pg := (hS 13 (by decide)).1
              replace H : Sp w0 (rest) wx := H
              have hK : Hid (∀ (v : Value) (w' : World), v = .pointer (some ⟨f, 0, none⟩) → Sp w0 (rest) w' → K (A.put (some 108) v) w') := Lib.hid hK0
              clear hK0 hN hS hE
              refine ⟨some false, by rw [pg]; rfl, ?_⟩
              rw [if_pos rfl]
              change Oper.wp _ _ A wx K _
              go_step
              exact hK.out _ _ rfl (H)
            · intro x wx A rest hN hS hE H K hK0
              have e108 : A.tmps[108]?.getD undef = .pointer (some ⟨f, 0, none⟩) := ((hS 15 (by decide)).2 108 rfl).trans (hS 15 (by decide)).1
              have pg := (hS 13 (by decide)).1
              replace H : Sp w0 ((Rw f B 0) :: rest) wx := H
              have hK : Hid (∀ (v : Value) (w' : World), (fun _ => True) v → Sp w0 ((Row 5 1 v dn (cells8 bs)) :: (Rw f B 0) :: rest) w' → K (A.put (some 109) v) w') := Lib.hid hK0
              clear hK0 hN hS hE
              refine ⟨some false, by rw [pg]; rfl, ?_⟩
              rw [if_pos rfl]
              change Oper.wp _ _ A wx K _
              go_wp2_with fail
              refine (fdone_ok f B 0 H (by rw [HN.out]; omega)).mono ?_
              rintro _ w9 ⟨v9, rfl, H9⟩
              rw [HN.out, HV.out, HDN.out, HBS.out] at H9
              exact hK.out _ _ trivial H9
            · intro x wx A rest hN hS hE H K hK0
              have e107 : A.tmps[107]?.getD undef = .slice D dn dc := ((hS 14 (by decide)).2 107 rfl).trans (hS 14 (by decide)).1
              have q109 := (hS 16 (by decide)).1
              have e109 : A.tmps[109]?.getD undef = x 16 := (hS 16 (by decide)).2 109 rfl
              have pg := (hS 13 (by decide)).1
              replace H : Sp w0 ((Row 5 1 (x 16) dn (cells8 bs)) :: (Rw f B 0) :: rest) wx := H
              have hK : Hid (∀ (v : Value) (w' : World), v = .bool true → Sp w0 ((Rw f B 0) :: rest) w' → K (A.put (some 110) v) w') := Lib.hid hK0
              clear hK0 hN hS
              have hb1 : Byt wx (x 16) bs := H.row_byt 0 (by rw [HBSL.out]; rfl)
              have hb2 : Byt wx (.slice D dn dc) bs := hE (fun w => Byt w (.slice D dn dc) bs) (fun _ _ H => H.row_byt 0 (by rw [HBSL.out]; rfl)) _ _ H.tail2
              refine ⟨some false, by rw [pg]; rfl, ?_⟩
              rw [if_pos rfl]
              change Oper.wp _ _ A wx K _
              go_wp2_with fail
              refine (equal_ok hb2 hb1).mono ?_
              rintro _ w9 ⟨h9, rfl⟩
              rw [beq_self_eq_true] at h9
              subst h9
              exact hK.out _ _ rfl H.tail
            · intro x wx A rest hN hS hE H K hK0
              have e110 : A.tmps[110]?.getD undef = .bool true := ((hS 17 (by decide)).2 110 rfl).trans (hS 17 (by decide)).1
              have pg := (hS 13 (by decide)).1
              replace H : Sp w0 (rest) wx := H
              have hK : Hid (∀ (v : Value) (w' : World), v = .bool false → Sp w0 (rest) w' → K (A.put (some 111) v) w') := Lib.hid hK0
              clear hK0 hN hS hE
              refine ⟨some false, by rw [pg]; rfl, ?_⟩
              rw [if_pos rfl]
              change Oper.wp _ _ A wx K _
              go_step
              exact hK.out _ _ rfl (H)
            · intro x wx A rest hN hS hE H K hK0
              have e106 : A.tmps[106]?.getD undef = .bool false := ((hS 13 (by decide)).2 106 rfl).trans (hS 13 (by decide)).1
              have e111 : A.tmps[111]?.getD undef = .bool false := ((hS 18 (by decide)).2 111 rfl).trans (hS 18 (by decide)).1
              replace H : Sp w0 (rest) wx := H
              have hK : Hid (∀ (v : Value) (w' : World), v = .bool false → Sp w0 (rest) w' → K (A.put (some 112) v) w') := Lib.hid hK0
              clear hK0 hN hS hE
              change Oper.wp _ _ A wx K _
              go_step
              exact hK.out _ _ rfl (H)
            · intro x wx A rest hN hS hE H K hK0
              have e112 : A.tmps[112]?.getD undef = .bool false := ((hS 19 (by decide)).2 112 rfl).trans (hS 19 (by decide)).1
              replace H : Sp w0 (rest) wx := H
              have hK : Hid (∀ (v : Value) (w' : World), v = .bool false → Sp w0 (rest) w' → K (A.put (some 113) v) w') := Lib.hid hK0
              clear hK0 hN hS hE
              change Oper.wp _ _ A wx K _
              go_step
              exact hK.out _ _ rfl (H)
            · intro x wx A rest hN hS hE H K hK0
              have e6 : A.tmps[6]?.getD undef = .pointer (some ⟨ga, 0, none⟩) := hN (6, .pointer (some ⟨ga, 0, none⟩)) (by simp)
              have pg := (hS 20 (by decide)).1
              replace H : Sp w0 (rest) wx := H
              have hK : Hid (∀ (v : Value) (w' : World), v = .pointer (some ⟨ga, 2, none⟩) → Sp w0 (rest) w' → K (A.put (some 114) v) w') := Lib.hid hK0
              clear hK0 hN hS hE
              refine ⟨some false, by rw [pg]; rfl, ?_⟩
              rw [if_pos rfl]
              change Oper.wp _ _ A wx K _
              go_step
              exact hK.out _ _ rfl (H)
            · intro x wx A rest hN hS hE H K hK0
              have e114 : A.tmps[114]?.getD undef = .pointer (some ⟨ga, 2, none⟩) := ((hS 21 (by decide)).2 114 rfl).trans (hS 21 (by decide)).1
              have pg := (hS 20 (by decide)).1
              replace H : Sp w0 (rest) wx := H
              have hK : Hid (∀ (v : Value) (w' : World), v = .int .u64 (tn0 : Int) → Sp w0 (rest) w' → K (A.put (some 115) v) w') := Lib.hid hK0
              clear hK0 hN hS
              have c2 : wx.cell? ⟨ga, 2, none⟩ = some (.int .u64 (tn0 : Int)) := hE (fun w => w.cell? ⟨ga, 2, none⟩ = some (.int .u64 (tn0 : Int))) (fun _ _ H => H.cell 2 rfl 2) _ _ H
              refine ⟨some false, by rw [pg]; rfl, ?_⟩
              rw [if_pos rfl]
              change Oper.wp _ _ A wx K _
              go_step
              exact hK.out _ _ rfl (H)
            · intro x wx A rest hN hS hE H K hK0
              have e6 : A.tmps[6]?.getD undef = .pointer (some ⟨ga, 0, none⟩) := hN (6, .pointer (some ⟨ga, 0, none⟩)) (by simp)
              have pg := (hS 20 (by decide)).1
              replace H : Sp w0 (rest) wx := H
              have hK : Hid (∀ (v : Value) (w' : World), v = .pointer (some ⟨ga, 1, none⟩) → Sp w0 (rest) w' → K (A.put (some 116) v) w') := Lib.hid hK0
              clear hK0 hN hS hE
              refine ⟨some false, by rw [pg]; rfl, ?_⟩
              rw [if_pos rfl]
              change Oper.wp _ _ A wx K _
              go_step
              exact hK.out _ _ rfl (H)
            · intro x wx A rest hN hS hE H K hK0
              have e116 : A.tmps[116]?.getD undef = .pointer (some ⟨ga, 1, none⟩) := ((hS 23 (by decide)).2 116 rfl).trans (hS 23 (by decide)).1
              have pg := (hS 20 (by decide)).1
              replace H : Sp w0 (rest) wx := H
              have hK : Hid (∀ (v : Value) (w' : World), v = .int .i64 tm0 → Sp w0 (rest) w' → K (A.put (some 117) v) w') := Lib.hid hK0
              clear hK0 hN hS
              have c1 : wx.cell? ⟨ga, 1, none⟩ = some (.int .i64 tm0) := hE (fun w => w.cell? ⟨ga, 1, none⟩ = some (.int .i64 tm0)) (fun _ _ H => H.cell 2 rfl 1) _ _ H
              refine ⟨some false, by rw [pg]; rfl, ?_⟩
              rw [if_pos rfl]
              change Oper.wp _ _ A wx K _
              go_step
              exact hK.out _ _ rfl (H)
            · intro x wx A rest hN hS hE H K hK0
              have e115 : A.tmps[115]?.getD undef = .int .u64 (tn0 : Int) := ((hS 22 (by decide)).2 115 rfl).trans (hS 22 (by decide)).1
              have e117 : A.tmps[117]?.getD undef = .int .i64 tm0 := ((hS 24 (by decide)).2 117 rfl).trans (hS 24 (by decide)).1
              have pg := (hS 20 (by decide)).1
              replace H : Sp w0 (rest) wx := H
              have hK : Hid (∀ (v : Value) (w' : World), v = .int .u64 (rv : Int) → Sp w0 (rest) w' → K (A.put (some 118) v) w') := Lib.hid hK0
              clear hK0 hN hS hE
              refine ⟨some false, by rw [pg]; rfl, ?_⟩
              rw [if_pos rfl]
              change Oper.wp _ _ A wx K _
              go_wp2_with fail
              refine (reverse_any tn0 kk tm0 _ tn HKK.out).mono ?_
              rintro _ w9 ⟨rfl, rfl⟩
              rw [HRV.out]
              exact hK.out _ _ rfl H
            · intro x wx A rest hN hS hE H K hK0
              have e6 : A.tmps[6]?.getD undef = .pointer (some ⟨ga, 0, none⟩) := hN (6, .pointer (some ⟨ga, 0, none⟩)) (by simp)
              have pg := (hS 20 (by decide)).1
              replace H : Sp w0 (rest) wx := H
              have hK : Hid (∀ (v : Value) (w' : World), v = .pointer (some ⟨ga, 2, none⟩) → Sp w0 (rest) w' → K (A.put (some 119) v) w') := Lib.hid hK0
              clear hK0 hN hS hE
              refine ⟨some false, by rw [pg]; rfl, ?_⟩
              rw [if_pos rfl]
              change Oper.wp _ _ A wx K _
              go_step
              exact hK.out _ _ rfl (H)
            · intro x wx A rest hN hS hE H K hK0
              have e119 : A.tmps[119]?.getD undef = .pointer (some ⟨ga, 2, none⟩) := ((hS 26 (by decide)).2 119 rfl).trans (hS 26 (by decide)).1
              have pg := (hS 20 (by decide)).1
              replace H : Sp w0 (rest) wx := H
              have hK : Hid (∀ (v : Value) (w' : World), v = .int .u64 (tn0 : Int) → Sp w0 (rest) w' → K (A.put (some 120) v) w') := Lib.hid hK0
              clear hK0 hN hS
              have c2 : wx.cell? ⟨ga, 2, none⟩ = some (.int .u64 (tn0 : Int)) := hE (fun w => w.cell? ⟨ga, 2, none⟩ = some (.int .u64 (tn0 : Int))) (fun _ _ H => H.cell 2 rfl 2) _ _ H
              refine ⟨some false, by rw [pg]; rfl, ?_⟩
              rw [if_pos rfl]
              change Oper.wp _ _ A wx K _
              go_step
              exact hK.out _ _ rfl (H)
            · intro x wx A rest hN hS hE H K hK0
              have e6 : A.tmps[6]?.getD undef = .pointer (some ⟨ga, 0, none⟩) := hN (6, .pointer (some ⟨ga, 0, none⟩)) (by simp)
              have pg := (hS 20 (by decide)).1
              replace H : Sp w0 (rest) wx := H
              have hK : Hid (∀ (v : Value) (w' : World), v = .pointer (some ⟨ga, 1, none⟩) → Sp w0 (rest) w' → K (A.put (some 121) v) w') := Lib.hid hK0
              clear hK0 hN hS hE
              refine ⟨some false, by rw [pg]; rfl, ?_⟩
              rw [if_pos rfl]
              change Oper.wp _ _ A wx K _
              go_step
              exact hK.out _ _ rfl (H)
            · intro x wx A rest hN hS hE H K hK0
              have e121 : A.tmps[121]?.getD undef = .pointer (some ⟨ga, 1, none⟩) := ((hS 28 (by decide)).2 121 rfl).trans (hS 28 (by decide)).1
              have pg := (hS 20 (by decide)).1
              replace H : Sp w0 (rest) wx := H
              have hK : Hid (∀ (v : Value) (w' : World), v = .int .i64 tm0 → Sp w0 (rest) w' → K (A.put (some 122) v) w') := Lib.hid hK0
              clear hK0 hN hS
              have c1 : wx.cell? ⟨ga, 1, none⟩ = some (.int .i64 tm0) := hE (fun w => w.cell? ⟨ga, 1, none⟩ = some (.int .i64 tm0)) (fun _ _ H => H.cell 2 rfl 1) _ _ H
              refine ⟨some false, by rw [pg]; rfl, ?_⟩
              rw [if_pos rfl]
              change Oper.wp _ _ A wx K _
              go_step
              exact hK.out _ _ rfl (H)
            · intro x wx A rest hN hS hE H K hK0
              have e120 : A.tmps[120]?.getD undef = .int .u64 (tn0 : Int) := ((hS 27 (by decide)).2 120 rfl).trans (hS 27 (by decide)).1
              have e122 : A.tmps[122]?.getD undef = .int .i64 tm0 := ((hS 29 (by decide)).2 122 rfl).trans (hS 29 (by decide)).1
              have pg := (hS 20 (by decide)).1
              replace H : Sp w0 (rest) wx := H
              have hK : Hid (∀ (v : Value) (w' : World), v = .int .u64 (rv : Int) → Sp w0 (rest) w' → K (A.put (some 123) v) w') := Lib.hid hK0
              clear hK0 hN hS hE
              refine ⟨some false, by rw [pg]; rfl, ?_⟩
              rw [if_pos rfl]
              change Oper.wp _ _ A wx K _
              go_wp2_with fail
              refine (freverse_ok tn0 tm0 kk H tn HKK.out).mono ?_
              rintro _ w9 ⟨rfl, H9⟩
              rw [HRV.out]
              exact hK.out _ _ rfl H9
            · intro x wx A rest hN hS hE H K hK0
              have e118 : A.tmps[118]?.getD undef = .int .u64 (rv : Int) := ((hS 25 (by decide)).2 118 rfl).trans (hS 25 (by decide)).1
              have e123 : A.tmps[123]?.getD undef = .int .u64 (rv : Int) := ((hS 30 (by decide)).2 123 rfl).trans (hS 30 (by decide)).1
              have pg := (hS 20 (by decide)).1
              replace H : Sp w0 (rest) wx := H
              have hK : Hid (∀ (v : Value) (w' : World), v = .bool false → Sp w0 (rest) w' → K (A.put (some 124) v) w') := Lib.hid hK0
              clear hK0 hN hS hE
              refine ⟨some false, by rw [pg]; rfl, ?_⟩
              rw [if_pos rfl]
              change Oper.wp _ _ A wx K _
              go_step
              exact hK.out _ _ rfl (H)
            · intro x wx A rest hN hS hE H K hK0
              have e113 : A.tmps[113]?.getD undef = .bool false := ((hS 20 (by decide)).2 113 rfl).trans (hS 20 (by decide)).1
              have e124 : A.tmps[124]?.getD undef = .bool false := ((hS 31 (by decide)).2 124 rfl).trans (hS 31 (by decide)).1
              replace H : Sp w0 (rest) wx := H
              have hK : Hid (∀ (v : Value) (w' : World), v = .bool false → Sp w0 (rest) w' → K (A.put (some 125) v) w') := Lib.hid hK0
              clear hK0 hN hS hE
              change Oper.wp _ _ A wx K _
              go_step
              exact hK.out _ _ rfl (H)
          case hend =>
            intro x wx A hA hS H
            replace H : Sp w0 ((Rw f B 0) :: Row 5 1 (.slice D dn dc) dn (cells8 bs) :: Wr r V n :: Bk ga 68 [.int .i64 tw, .int .i64 tm0, .int .u64 (tn0 : Int), .slice B3 tb0.length cb3] :: L) wx := H
            have y32 : x 32 = .bool false := hS 32 (by decide)
            clear hS
            simp only [putAll, Act.put, List.setIfInBounds_toArray, List.set_cons_succ, List.set_cons_zero, Nat.reduceAdd] at hA
            subst hA
            rw [y32]
            clear y32
            go_wp2_with fail
            have H9 : Sp w0 (Row 5 1 (.slice D dn dc) dn (cells8 bs) :: Wr r V n :: Rw f B 0 :: L) wx := H.pick 4 [1, 2, 0]
            go_loopw [128] (fun ix wr => ∃ (j : Nat) (xs : List Value), j ≤ dn ∧ ix = .int .i64 (j : Int) ∧ U8s xs ∧ Sp w0 (Row 5 1 (.slice D dn dc) dn xs :: Wr r V n :: Rw f B 0 :: L) wr) (fun ix _ => dn - (intOf ix).toNat)
            case atStart => exact ⟨0, _, Nat.zero_le _, rfl, U8s.cells bs, H9⟩
            case round =>
              obtain ⟨j, xs, hj, rfl, hu, H4⟩ := hrel
              by_cases hlt : j < dn
              · have hlt' : (j : Int) < dn := by omega
                obtain ⟨ad, c9, ev, _, hc, hz, hset⟩ := H4.rowSet hlt
                injection ev with ev e2 e3
                subst ev
                clear e2 e3
                have hjx : j < xs.length := by
                  have := (H4.owns 0 rfl).1
                  omega
                rw [List.getElem?_eq_getElem hjx] at hc
                obtain ⟨z, hzz⟩ := hu _ (List.getElem_mem hjx)
                rw [hzz] at hc
                have HU := Lib.hid hu
                have HS := Lib.hid hset
                clear hu hset hzz
                go_wp2
                go_roundw
                case rel => exact ⟨j + 1, _, by omega, by go_num, HU.out.set_ j _, HS.out _⟩
                case measure => simp [intOf]; omega
              · have hlt' : ¬ (j : Int) < dn := by omega
                clear hu
                go_wp2
                go_roundw
                case rel =>
                  refine ⟨i + 1, B, by omega, hi59, by rw [HN.out]; omega, by go_num, ?_⟩
                  rw [HV.out, HN.out]
                  exact H4.tail
                case measure => simp [intOf]; omega
    · have hit' : ¬ (i : Int) < len := by omega
      go_wp2_with fail
      refine (wakes_ok (H5.pick 2 [])).mono ?_
      rintro e w14 ⟨rfl, H14⟩
      go_wp2
      go_ret
      exact ⟨rfl, H14⟩
end Go.Proofs.Ytkgnihpcldgedaa
