/- HuffReads: the walk: states, codes, books and what they read are the document's. -/
import Derived.Test.YtdlbhoedmaifpaaHuffU
import Derived.Test.YtdlbhoedmaifpaaSepRegion3
import Derived.Deep.CutRange
namespace Go.Proofs.Ytdlbhoedmaifpaa
set_option linter.unusedVariables false
open Go.RowKit
set_option maxRecDepth 100000 in
set_option maxHeartbeats 80000000 in
theorem reads_any (A : Option Addr) (ln ca : Nat) (l : List Int) (B : Option Addr) (lb cb : Nat) (bs : List Bool) (code : Nat) (tn : Int) {w0 w : World} {L : List Pr} (H : Sp w0 L w) (ha : Ent L fun w => Rd w A (cells64 l)) (hb : Ent L fun w => Rd w B (cellsBo bs)) (hla : ln = l.length) (hca : ln ≤ ca) (hcm : ca ≤ maxLen) (hlb : lb = bs.length) (hcb : lb ≤ cb) (hbm : cb ≤ maxLen) (hcode : code < 4294967296) :
    Calls Try.prog 11 #[.slice A ln ca, .slice B lb cb, .int .u32 (code : Int), .int .i64 tn] w fun e w' => e = .returned (.bool true) ∧ Sp w0 L w' := by
  obtain ⟨i1, hj, hj0, hj1, hj2⟩ := info_parts infoJ
  unfold maxLen at hcm hbm
  obtain ⟨n, hn⟩ : ∃ n, min ln 300 = n := ⟨_, rfl⟩
  have hmn : ∀ W : World, (Builtin.min_ #[3, 3] 3 #[.int .i64 (ln : Int), .int .i64 300]).run Try.prog W = .ok (.int .i64 (n : Int)) W := fun W => by
    simp [Builtin.min_, Builtin.min2]
    split <;> omega
  obtain ⟨k, hk⟩ : ∃ k, min lb 200 = k := ⟨_, rfl⟩
  have hmk : ∀ W : World, (Builtin.min_ #[3, 3] 3 #[.int .i64 (lb : Int), .int .i64 200]).run Try.prog W = .ok (.int .i64 (k : Int)) W := fun W => by
    simp [Builtin.min_, Builtin.min2]
    split <;> omega
  have hnc : n ≤ ca := by omega
  have hnl : n ≤ 300 := by omega
  have hkc : k ≤ cb := by omega
  have hkl : k ≤ 200 := by omega
  have kn1 : (n : Int) ≤ (ca : Int) := by omega
  have kk1 : (k : Int) ≤ (cb : Int) := by omega
  obtain ⟨m, hm⟩ : ∃ m, l.take n = m := ⟨_, rfl⟩
  obtain ⟨bq, hbq⟩ : ∃ b, bs.take k = b := ⟨_, rfl⟩
  have hml : n = m.length := by rw [← hm, List.length_take]; omega
  have hbl : k = bq.length := by rw [← hbq, List.length_take]; omega
  have hra : Ent L fun w => Rd w A (cells64 m) := fun w0' w' H' => by
    have h := (ha w0' w' H').part 0 n
    have e : ((cells64 l).drop 0).take n = cells64 m := by rw [List.drop_zero, ← hm]; unfold cells64; rw [List.map_take]
    rw [e] at h
    cases A with
    | none => exact h
    | some ad =>
      have e2 : (some ad : Option Addr).map (·.add 0) = some ad := rfl
      exact h
  have hrb : Ent L fun w => Rd w B (cellsBo bq) := fun w0' w' H' => by
    have h := (hb w0' w' H').part 0 k
    have e : ((cellsBo bs).drop 0).take k = cellsBo bq := by rw [List.drop_zero, ← hbq]; unfold cellsBo; rw [List.map_take]
    rw [e] at h
    cases B with
    | none => exact h
    | some ad => exact h
  have HML := Lib.hid hml
  have HBL := Lib.hid hbl
  have HRA := Lib.hid hra
  have HRB := Lib.hid hrb
  obtain ⟨K, hK⟩ : ∃ K : Nat, (K : Int) = max 0 (min tn 32) := ⟨(max 0 (min tn 32)).toNat, by omega⟩
  have t1 := fun w => turned_any code K tn w hcode hK
  have t2 := fun w => rturned_any code K tn w hcode hK
  obtain ⟨R, hR⟩ : ∃ R, PBits.rev code K = R := ⟨_, rfl⟩
  rw [hR] at t1 t2
  have T1 := Lib.hid t1
  have T2 := Lib.hid t2
  clear hn hk hm hbq hml hbl ha hb hra hrb hla hca hcm hlb hcb hbm hK t1 t2 hR
  obtain ⟨st, hst⟩ : ∃ st, PH.stI m = st := ⟨_, rfl⟩
  obtain ⟨er, her⟩ : ∃ er, PH.erI m = er := ⟨_, rfl⟩
  obtain ⟨ec, hec⟩ : ∃ ec, PH.ecI m = ec := ⟨_, rfl⟩
  obtain ⟨cn, hcn⟩ : ∃ cn, PH.cn m = cn := ⟨_, rfl⟩
  have hcn2 : cn ≤ n := by
    rw [← hcn, HML.out]
    unfold PH.cn
    split <;> omega
  obtain ⟨X, hX⟩ : ∃ X, PH.crow m = X := ⟨_, rfl⟩
  have hXg : ∀ j, j < cn → ∃ z : Nat, X[j]? = some (.int .u32 (z : Int)) := by rw [← hX, ← hcn]; exact PH.crow_get m
  have HXG := Lib.hid hXg
  have c1 := fun (M : List Pr) (V : Option Addr) (Vc j : Nat) (h : M[j]? = some (Row 3 1 (.slice V n Vc) n (cells64 m))) w (H : Sp w0 M w) => state_any V n Vc m H HML.out (rowI_rd j h) (by omega)
  have c2 := fun (M : List Pr) (V : Option Addr) (Vc j : Nat) (h : M[j]? = some (Row 3 1 (.slice V n Vc) n (cells64 m))) w (H : Sp w0 M w) => rstate_any V n Vc m H HML.out (rowI_rd j h) (by omega)
  have c3 := fun (M : List Pr) (V : Option Addr) (Vc j : Nat) (h : M[j]? = some (Row 3 1 (.slice V n Vc) n (cells64 m))) w (H : Sp w0 M w) => codes_any V n Vc m H HML.out (rowI_rd j h) (by omega)
  have c4 := fun (M : List Pr) (V : Option Addr) (Vc j : Nat) (h : M[j]? = some (Row 3 1 (.slice V n Vc) n (cells64 m))) w (H : Sp w0 M w) => rcodes_any V n Vc m H HML.out (rowI_rd j h) (by omega)
  have c6 := fun (M : List Pr) (V : Option Addr) (Vc j : Nat) (h : M[j]? = some (Row 3 1 (.slice V n Vc) n (cells64 m))) w (H : Sp w0 M w) => rmay_any V n Vc m H HML.out (rowI_rd j h) (by omega)
  rw [hst, her] at c1 c2
  rw [hec, hcn, hX] at c3 c4
  have C1 := Lib.hid c1
  have C2 := Lib.hid c2
  have C3 := Lib.hid c3
  have C4 := Lib.hid c4
  clear c1 c2 c3 c4 hst her hec hcn hX hXg
  have ks : (st != st) = false := by simp
  have ke : (er != er) = false := by simp
  have kc : (ec != ec) = false := by simp
  cases hok : PH.okB m with
  | false =>
    rw [hok, if_neg (by decide)] at c6
    have c5 := fun (M : List Pr) (V : Option Addr) (Vc j : Nat) (h : M[j]? = some (Row 3 1 (.slice V n Vc) n (cells64 m))) w (H : Sp w0 M w) => new_any_no V n Vc m H HML.out (rowI_rd j h) (by omega) hok
    obtain ⟨en, hen⟩ : ∃ en, PH.enI m = en := ⟨_, rfl⟩
    have hen2 : (en != 0) = true := by
      rw [← hen]
      unfold PH.enI
      split <;> rfl
    have kn9 : (en != en) = false := by simp
    rw [hen] at c5 c6
    have C5 := Lib.hid c5
    have C6 := Lib.hid c6
    clear c5 c6 hen hok
    go_enter Try.func11, Try.ntmps11
    go_wp2_with fail
    refine wp_region_sq (L := L) (fun ix vx => ([(· = .slice A ln ca), (· = .slice A ln ca), (· = .int .i64 (ln : Int)), (· = .int .i64 (n : Int)), (· = .slice A n ca), (fun _ => True), (· = .slice B lb cb), (· = .slice B lb cb), (· = .int .i64 (lb : Int)), (· = .int .i64 (k : Int)), (· = .slice B k cb), (fun _ => True), (· = .slice B k cb)] : List (Value → Prop)).getD ix (fun _ => True) vx)
      (fun ix vx => ([fun _ => [], fun _ => [], fun _ => [], fun _ => [], fun _ => [], fun v => [Row 3 1 v n (cells64 m)], fun _ => [], fun _ => [], fun _ => [], fun _ => [], fun _ => [], fun v => [Row 3 1 v n (cells64 m)], fun _ => []] : List (Value → List Pr)).getD ix (fun _ => []) vx) (fun ix => ([[], [], [], [], [], [], [], [], [], [], [], [], []] : List (List Pr)).getD ix []) 13 195
      [some 29, some 30, some 31, some 32, some 33, some 34, some 35, some 36, some 37, some 38, some 39, some 0, some 1]
      [[], [], [1], [2], [0, 3], [4], [], [], [7], [8], [6, 9], [5, 5, 0, 1, 2, 3, 4, 5], [10, 11, 0, 1, 2, 3, 4, 5, 6, 7, 8, 9, 10, 11]]
      [[], [], [1], [1, 2], [0, 1, 2, 3], [0, 1, 2, 3, 4], [], [], [7], [7, 8], [6, 7, 8, 9], [0, 1, 2, 3, 4, 5], [0, 1, 2, 3, 4, 5, 6, 7, 8, 9, 10, 11]]
      [[], [], [], [], [], [], [], [], [], [], [], [5], []]
      [[], [], [], [], [], [], [], [], [], [], [], [], []]
      [(0, .slice A ln ca), (1, .slice B lb cb)]
      (by kernel_rfl) rfl (by decide) (by rfl) rfl (by decide +kernel) (by decide +kernel) (by rfl) rfl rfl (by decide) (by simp) (H) ?hstep ?hend
    case hstep =>
      refine ⟨?_, ⟨?_, ⟨?_, ⟨?_, ⟨?_, ⟨?_, ⟨?_, ⟨?_, ⟨?_, ⟨?_, ⟨?_, ⟨?_, ⟨?_, trivial⟩⟩⟩⟩⟩⟩⟩⟩⟩⟩⟩⟩⟩
      · intro x wx A9 rest hN hS hE H K hK0
        have e0 : A9.tmps[0]?.getD undef = .slice A ln ca := hN (0, .slice A ln ca) (by simp) (by rfl)
        replace H : Sp w0 (rest) wx := H
        have hK : Hid (∀ (v : Value) (w' : World), v = .slice A ln ca → Sp w0 (rest) w' → K (A9.put (some 29) v) w') := Lib.hid hK0
        clear hK0 hN hS hE
        change Oper.wp _ _ A9 wx K _
        go_step
        exact hK.out _ _ rfl (H)
      · intro x wx A9 rest hN hS hE H K hK0
        have e0 : A9.tmps[0]?.getD undef = .slice A ln ca := hN (0, .slice A ln ca) (by simp) (by rfl)
        replace H : Sp w0 (rest) wx := H
        have hK : Hid (∀ (v : Value) (w' : World), v = .slice A ln ca → Sp w0 (rest) w' → K (A9.put (some 30) v) w') := Lib.hid hK0
        clear hK0 hN hS hE
        change Oper.wp _ _ A9 wx K _
        go_step
        exact hK.out _ _ rfl (H)
      · intro x wx A9 rest hN hS hE H K hK0
        have e30 : A9.tmps[30]?.getD undef = .slice A ln ca := ((hS 1 (by decide)).2 30 rfl).trans (hS 1 (by decide)).1
        replace H : Sp w0 (rest) wx := H
        have hK : Hid (∀ (v : Value) (w' : World), v = .int .i64 (ln : Int) → Sp w0 (rest) w' → K (A9.put (some 31) v) w') := Lib.hid hK0
        clear hK0 hN hS hE
        change Oper.wp _ _ A9 wx K _
        go_step
        exact hK.out _ _ rfl (H)
      · intro x wx A9 rest hN hS hE H K hK0
        have e31 : A9.tmps[31]?.getD undef = .int .i64 (ln : Int) := ((hS 2 (by decide)).2 31 rfl).trans (hS 2 (by decide)).1
        replace H : Sp w0 (rest) wx := H
        have hK : Hid (∀ (v : Value) (w' : World), v = .int .i64 (n : Int) → Sp w0 (rest) w' → K (A9.put (some 32) v) w') := Lib.hid hK0
        clear hK0 hN hS hE
        change Oper.wp _ _ A9 wx K _
        go_step
        exact hK.out _ _ rfl (H)
      · intro x wx A9 rest hN hS hE H K hK0
        have e29 : A9.tmps[29]?.getD undef = .slice A ln ca := ((hS 0 (by decide)).2 29 rfl).trans (hS 0 (by decide)).1
        have e32 : A9.tmps[32]?.getD undef = .int .i64 (n : Int) := ((hS 3 (by decide)).2 32 rfl).trans (hS 3 (by decide)).1
        replace H : Sp w0 (rest) wx := H
        have hK : Hid (∀ (v : Value) (w' : World), v = .slice A n ca → Sp w0 (rest) w' → K (A9.put (some 33) v) w') := Lib.hid hK0
        clear hK0 hN hS hE
        change Oper.wp _ _ A9 wx K _
        go_step
        exact hK.out _ _ rfl (H)
      · intro x wx A9 rest hN hS hE H K hK0
        have e33 : A9.tmps[33]?.getD undef = .slice A n ca := ((hS 4 (by decide)).2 33 rfl).trans (hS 4 (by decide)).1
        replace H : Sp w0 (rest) wx := H
        have hK : Hid (∀ (v : Value) (w' : World), (fun _ => True) v → Sp w0 ((Row 3 1 v n (cells64 m)) :: rest) w' → K (A9.put (some 34) v) w') := Lib.hid hK0
        clear hK0 hN hS
        have hrd := hE _ HRA.out _ _ H
        replace H := H.rowNil 3 1
        change Oper.wp _ _ A9 wx K _
        refine wp_append_sp _ _ 52 rfl 3 i1 (.int .i64 0) 1 8 Try.underlying52 hj hj0 hj1 hj2 rfl (by decide) (.slice none 0 0) 0 [] rfl H A n ca (cells64 m) (ev e33) (by rw [show (cells64 m).length = m.length by simp [cells64], ← HML.out]; omega) hrd (by intro u hu; obtain ⟨x9, _, rfl⟩ := List.mem_map.1 hu; rfl) (by simp only [maxLen]; omega) (by omega) ?_
        intro v1 w2 H2 _
        rw [Nat.zero_add, List.nil_append] at H2
        exact hK.out _ _ trivial H2
      · intro x wx A9 rest hN hS hE H K hK0
        have e1 : A9.tmps[1]?.getD undef = .slice B lb cb := hN (1, .slice B lb cb) (by simp) (by rfl)
        replace H : Sp w0 (rest) wx := H
        have hK : Hid (∀ (v : Value) (w' : World), v = .slice B lb cb → Sp w0 (rest) w' → K (A9.put (some 35) v) w') := Lib.hid hK0
        clear hK0 hN hS hE
        change Oper.wp _ _ A9 wx K _
        go_step
        exact hK.out _ _ rfl (H)
      · intro x wx A9 rest hN hS hE H K hK0
        have e1 : A9.tmps[1]?.getD undef = .slice B lb cb := hN (1, .slice B lb cb) (by simp) (by rfl)
        replace H : Sp w0 (rest) wx := H
        have hK : Hid (∀ (v : Value) (w' : World), v = .slice B lb cb → Sp w0 (rest) w' → K (A9.put (some 36) v) w') := Lib.hid hK0
        clear hK0 hN hS hE
        change Oper.wp _ _ A9 wx K _
        go_step
        exact hK.out _ _ rfl (H)
      · intro x wx A9 rest hN hS hE H K hK0
        have e36 : A9.tmps[36]?.getD undef = .slice B lb cb := ((hS 7 (by decide)).2 36 rfl).trans (hS 7 (by decide)).1
        replace H : Sp w0 (rest) wx := H
        have hK : Hid (∀ (v : Value) (w' : World), v = .int .i64 (lb : Int) → Sp w0 (rest) w' → K (A9.put (some 37) v) w') := Lib.hid hK0
        clear hK0 hN hS hE
        change Oper.wp _ _ A9 wx K _
        go_step
        exact hK.out _ _ rfl (H)
      · intro x wx A9 rest hN hS hE H K hK0
        have e37 : A9.tmps[37]?.getD undef = .int .i64 (lb : Int) := ((hS 8 (by decide)).2 37 rfl).trans (hS 8 (by decide)).1
        replace H : Sp w0 (rest) wx := H
        have hK : Hid (∀ (v : Value) (w' : World), v = .int .i64 (k : Int) → Sp w0 (rest) w' → K (A9.put (some 38) v) w') := Lib.hid hK0
        clear hK0 hN hS hE
        change Oper.wp _ _ A9 wx K _
        go_step
        exact hK.out _ _ rfl (H)
      · intro x wx A9 rest hN hS hE H K hK0
        have e35 : A9.tmps[35]?.getD undef = .slice B lb cb := ((hS 6 (by decide)).2 35 rfl).trans (hS 6 (by decide)).1
        have e38 : A9.tmps[38]?.getD undef = .int .i64 (k : Int) := ((hS 9 (by decide)).2 38 rfl).trans (hS 9 (by decide)).1
        replace H : Sp w0 (rest) wx := H
        have hK : Hid (∀ (v : Value) (w' : World), v = .slice B k cb → Sp w0 (rest) w' → K (A9.put (some 39) v) w') := Lib.hid hK0
        clear hK0 hN hS hE
        change Oper.wp _ _ A9 wx K _
        go_step
        exact hK.out _ _ rfl (H)
      · intro x wx A9 rest hN hS hE H K hK0
        have q34 := (hS 5 (by decide)).1
        have e34 : A9.tmps[34]?.getD undef = x 5 := (hS 5 (by decide)).2 34 rfl
        replace H : Sp w0 ((Row 3 1 (x 5) n (cells64 m)) :: rest) wx := H
        have hK : Hid (∀ (v : Value) (w' : World), (fun _ => True) v → Sp w0 ((Row 3 1 v n (cells64 m)) :: rest) w' → K (A9.put (some 0) v) w') := Lib.hid hK0
        clear hK0 hN hS hE
        change Oper.wp _ _ A9 wx K _
        go_step
        exact hK.out _ _ trivial H
      · intro x wx A9 rest hN hS hE H K hK0
        have e39 : A9.tmps[39]?.getD undef = .slice B k cb := ((hS 10 (by decide)).2 39 rfl).trans (hS 10 (by decide)).1
        replace H : Sp w0 (rest) wx := H
        have hK : Hid (∀ (v : Value) (w' : World), v = .slice B k cb → Sp w0 (rest) w' → K (A9.put (some 1) v) w') := Lib.hid hK0
        clear hK0 hN hS hE
        change Oper.wp _ _ A9 wx K _
        go_step
        exact hK.out _ _ rfl (H)
    case hend =>
      intro x wx A9 hA hS H
      replace H : Sp w0 ((Row 3 1 (x 11) n (cells64 m)) :: L) wx := H
      have y12 : x 12 = .slice B k cb := hS 12 (by decide)
      clear hS
      simp only [putAll, Act.put, List.setIfInBounds_toArray, List.set_cons_succ, List.set_cons_zero, Nat.reduceAdd] at hA
      subst hA
      rw [y12]
      clear y12
      obtain ⟨V, Vc, hv5, _, _⟩ := Row.form H 0 rfl
      rw [hv5] at H ⊢
      clear hv5 hmn hmk
      have HC := Lib.hid (C1.out _ V Vc 0 rfl _ H)
      go_wp2_with fail
      refine HC.out.mono ?_
      rintro _ w2 ⟨rfl, H2⟩
      clear HC H C1
      have HC := Lib.hid (C2.out _ V Vc 0 rfl _ H2)
      go_wp2_with fail
      refine HC.out.mono ?_
      rintro _ w3 ⟨rfl, H3⟩
      clear HC H2 C2
      have HC := Lib.hid (C3.out _ V Vc 0 rfl _ H3)
      go_wp2_with fail
      refine HC.out.mono ?_
      rintro _ w4 ⟨vc, rfl, H4⟩
      clear HC H3 C3
      obtain ⟨VC, Cc, hvc, _, _⟩ := Row.form H4 0 rfl
      subst hvc
      have HC := Lib.hid (C4.out _ V Vc 1 rfl _ H4)
      go_wp2_with fail
      refine HC.out.mono ?_
      rintro _ w5 ⟨vd, rfl, H5⟩
      clear HC H4 C4
      obtain ⟨VD, Cd, hvd, _, _⟩ := Row.form H5 0 rfl
      subst hvd
      have HC := Lib.hid (C5.out _ V Vc 2 rfl _ H5)
      go_wp2_with fail
      refine HC.out.mono ?_
      rintro _ w6 ⟨rfl, H6⟩
      clear HC H5 C5
      have H6 : Sp w0 (Row 70 1 (.slice VD cn Cd) cn X :: Row 70 1 (.slice VC cn Cc) cn X :: Row 3 1 (.slice V n Vc) n (cells64 m) :: L) w6 := H6
      have HC := Lib.hid (C6.out _ V Vc 2 rfl _ H6)
      go_wp2_with fail
      refine HC.out.mono ?_
      rintro _ w7 ⟨rfl, H7⟩
      clear HC H6 C6
      go_wp2_with fail
      refine (T1.out _).mono ?_
      rintro _ _ ⟨rfl, rfl⟩
      go_wp2_with fail
      refine (T2.out _).mono ?_
      rintro _ _ ⟨rfl, rfl⟩
      clear T1 T2
      have kR : ((R : Int) != (R : Int)) = false := by simp
      have kcn : ((cn : Int) != (cn : Int)) = false := by simp
      go_wp2_with fail
      go_loopw [19] (fun iv wr => ∃ (i : Nat), iv = .int .i64 (i : Int) ∧ i ≤ cn ∧ Sp w0 (Row 70 1 (.slice VD cn Cd) cn X :: Row 70 1 (.slice VC cn Cc) cn X :: Row 3 1 (.slice V n Vc) n (cells64 m) :: L) wr) (fun iv _ => cn - (intOf iv).toNat)
      case atStart => exact ⟨0, rfl, Nat.zero_le _, H7⟩
      case round =>
        clear H7
        obtain ⟨i, rfl, hi, H7⟩ := hrel
        by_cases hin : i < cn
        · have k1 : (i : Int) < (cn : Int) := by omega
          obtain ⟨z, hz⟩ := HXG.out i hin
          obtain ⟨A9, c9, e9, hr9, _, _⟩ := H7.row_rd 0 rfl
          injection e9 with e9 e10 e11
          obtain ⟨al, hal, hcl⟩ := hr9 (by rintro rfl; simp at hz)
          have hc1 := hcl i _ hz
          rw [hal] at e9
          subst e9
          clear hr9 hcl e10 e11 hal
          obtain ⟨A8, c8, e8, hr8, _, _⟩ := H7.row_rd 1 rfl
          injection e8 with e8 e10 e11
          obtain ⟨am, ham, hcl⟩ := hr8 (by rintro rfl; simp at hz)
          have hc2 := hcl i _ hz
          rw [ham] at e8
          subst e8
          have kz : ((z : Int) != (z : Int)) = false := by simp
          clear hr8 hcl e10 e11 ham hz
          go_wp2_with fail
          go_quiet (fail)
          go_wp2_with fail
          go_roundw
          case rel => exact ⟨i + 1, by go_num, by omega, H7.drewN _⟩
          case measure => first | (simp [intOf]; omega) | simp [intOf]
        · have k1 : ¬ (i : Int) < (cn : Int) := by omega
          obtain rfl : i = cn := by omega
          clear HXG
          have H8 := H7.rowNil 3 1
          have hrd := rowI_rd (l := m) (V := V) (n := n) (kk := Vc) 2 rfl _ _ H7
          have HRD := Lib.hid hrd
          clear hrd
          go_wp2_with (at_builtin; refine wpList_append_sp rfl _ _ 52 rfl 3 i1 (.int .i64 0) 1 8 Try.underlying52 hj hj0 hj1 hj2 rfl (by decide) (.slice none 0 0) 0 [] rfl H8 V n Vc (cells64 m) rfl (by rw [show (cells64 m).length = m.length by simp [cells64], ← HML.out]; omega) HRD.out (by intro u hu; obtain ⟨x9, _, rfl⟩ := List.mem_map.1 hu; rfl) (by simp only [maxLen]; omega) (by omega) ?_)
          intro v8 w8 H9 _
          clear HRD H7 H8
          obtain ⟨VO, Co, hvo, _, _⟩ := Row.form H9 0 rfl
          subst hvo
          go_wp2_with fail
          go_loopw [21] (fun jv wr => ∃ (j : Nat) (xs : List Value), jv = .int .i64 (j : Int) ∧ j ≤ n ∧ Sp w0 (Row 3 1 (.slice V n Vc) n xs :: Row 3 1 (.slice VO n Co) n (cells64 m) :: Row 70 1 (.slice VD i Cd) i X :: Row 70 1 (.slice VC i Cc) i X :: L) wr) (fun jv _ => n - (intOf jv).toNat)
          case atStart => exact ⟨0, cells64 m, rfl, Nat.zero_le _, H9.pick 4 [3, 0, 1, 2]⟩
          case round =>
            clear H9
            obtain ⟨j, xs, rfl, hj9, H9⟩ := hrel
            by_cases hjn : j < n
            · have k2 : (j : Int) < (n : Int) := by omega
              obtain ⟨ad2, c2, ev, _, hcc, hfz, hset⟩ := H9.rowSet hjn
              have hxl := (H9.owns 0 rfl).1
              injection ev with ev ev2 ev3
              subst ev
              obtain ⟨u9, hu9⟩ : ∃ u, xs[j]? = some u := ⟨_, List.getElem?_eq_getElem (by omega)⟩
              rw [hu9] at hcc
              have HST := Lib.hid (hset (.int .i64 1))
              clear hset hxl hu9 ev2 ev3
              go_wp2_with fail
              go_roundw
              case rel => exact ⟨j + 1, _, by go_num, by omega, HST.out⟩
              case measure => first | (simp [intOf]; omega) | simp [intOf]
            · have k2 : ¬ (j : Int) < (n : Int) := by omega
              have H10 := H9.newBk [.slice B k cb, .int .i64 0] 75
              clear H9
              go_wp2_with fail
              generalize wr.heap.size = gf at H10 ⊢
              generalize wr.alloc _ = w10 at H10 ⊢
              go_loopw [] (fun wr => Sp w0 (Bk gf 75 [.slice B k cb, .int .i64 0] :: Row 3 1 (.slice V n Vc) n xs :: Row 3 1 (.slice VO n Co) n (cells64 m) :: Row 70 1 (.slice VD i Cd) i X :: Row 70 1 (.slice VC i Cc) i X :: L) wr) (fun _ => 0)
              case atStart => exact H10
              case round =>
                have HT := Lib.hid (tells_ok hrel)
                go_wp2_with fail
                refine HT.out.mono ?_
                rintro _ w11 ⟨rfl, H11⟩
                go_wp2_with fail
                go_ret
                exact ⟨rfl, H11.pick 5 []⟩
  | true =>
    rw [hok, if_pos rfl] at c6
    have c5 := fun (M : List Pr) (V : Option Addr) (Vc j : Nat) (h : M[j]? = some (Row 3 1 (.slice V n Vc) n (cells64 m))) w (H : Sp w0 M w) => new_any_yes V n Vc m H HML.out (rowI_rd j h) hok
    obtain ⟨mo, hmo⟩ : ∃ mo : Nat, mostOf (PH.nat m) = (mo : Int) := by
      unfold mostOf
      split
      · exact ⟨15, rfl⟩
      · exact ⟨1, rfl⟩
    have hmo15 : mo ≤ 15 := by
      unfold mostOf at hmo
      split at hmo <;> omega
    rw [hmo] at c5
    have hmay : PH.may m = true ∧ mayBook (PH.nat m) = true := by
      unfold PH.okB at hok
      simpa using hok
    have hsp := PH.may_split hmay.1
    have hsum := PH.mayBook_sum _ hmay.2
    have C5 := Lib.hid c5
    have C6 := Lib.hid c6
    have HMO := Lib.hid hmo
    have HMAY := Lib.hid hmay
    have HSP := Lib.hid hsp
    have HSUM := Lib.hid hsum
    clear c5 c6 hok hmo hmay hsp hsum
    go_enter Try.func11, Try.ntmps11
    go_wp2_with fail
    refine wp_region_sq (L := L) (fun ix vx => ([(· = .slice A ln ca), (· = .slice A ln ca), (· = .int .i64 (ln : Int)), (· = .int .i64 (n : Int)), (· = .slice A n ca), (fun _ => True), (· = .slice B lb cb), (· = .slice B lb cb), (· = .int .i64 (lb : Int)), (· = .int .i64 (k : Int)), (· = .slice B k cb), (fun _ => True), (· = .slice B k cb)] : List (Value → Prop)).getD ix (fun _ => True) vx)
      (fun ix vx => ([fun _ => [], fun _ => [], fun _ => [], fun _ => [], fun _ => [], fun v => [Row 3 1 v n (cells64 m)], fun _ => [], fun _ => [], fun _ => [], fun _ => [], fun _ => [], fun v => [Row 3 1 v n (cells64 m)], fun _ => []] : List (Value → List Pr)).getD ix (fun _ => []) vx) (fun ix => ([[], [], [], [], [], [], [], [], [], [], [], [], []] : List (List Pr)).getD ix []) 13 195
      [some 29, some 30, some 31, some 32, some 33, some 34, some 35, some 36, some 37, some 38, some 39, some 0, some 1]
      [[], [], [1], [2], [0, 3], [4], [], [], [7], [8], [6, 9], [5, 5, 0, 1, 2, 3, 4, 5], [10, 11, 0, 1, 2, 3, 4, 5, 6, 7, 8, 9, 10, 11]]
      [[], [], [1], [1, 2], [0, 1, 2, 3], [0, 1, 2, 3, 4], [], [], [7], [7, 8], [6, 7, 8, 9], [0, 1, 2, 3, 4, 5], [0, 1, 2, 3, 4, 5, 6, 7, 8, 9, 10, 11]]
      [[], [], [], [], [], [], [], [], [], [], [], [5], []]
      [[], [], [], [], [], [], [], [], [], [], [], [], []]
      [(0, .slice A ln ca), (1, .slice B lb cb)]
      (by kernel_rfl) rfl (by decide) (by rfl) rfl (by decide +kernel) (by decide +kernel) (by rfl) rfl rfl (by decide) (by simp) (H) ?hstep ?hend
    case hstep =>
      refine ⟨?_, ⟨?_, ⟨?_, ⟨?_, ⟨?_, ⟨?_, ⟨?_, ⟨?_, ⟨?_, ⟨?_, ⟨?_, ⟨?_, ⟨?_, trivial⟩⟩⟩⟩⟩⟩⟩⟩⟩⟩⟩⟩⟩
      · intro x wx A9 rest hN hS hE H K hK0
        have e0 : A9.tmps[0]?.getD undef = .slice A ln ca := hN (0, .slice A ln ca) (by simp) (by rfl)
        replace H : Sp w0 (rest) wx := H
        have hK : Hid (∀ (v : Value) (w' : World), v = .slice A ln ca → Sp w0 (rest) w' → K (A9.put (some 29) v) w') := Lib.hid hK0
        clear hK0 hN hS hE
        change Oper.wp _ _ A9 wx K _
        go_step
        exact hK.out _ _ rfl (H)
      · intro x wx A9 rest hN hS hE H K hK0
        have e0 : A9.tmps[0]?.getD undef = .slice A ln ca := hN (0, .slice A ln ca) (by simp) (by rfl)
        replace H : Sp w0 (rest) wx := H
        have hK : Hid (∀ (v : Value) (w' : World), v = .slice A ln ca → Sp w0 (rest) w' → K (A9.put (some 30) v) w') := Lib.hid hK0
        clear hK0 hN hS hE
        change Oper.wp _ _ A9 wx K _
        go_step
        exact hK.out _ _ rfl (H)
      · intro x wx A9 rest hN hS hE H K hK0
        have e30 : A9.tmps[30]?.getD undef = .slice A ln ca := ((hS 1 (by decide)).2 30 rfl).trans (hS 1 (by decide)).1
        replace H : Sp w0 (rest) wx := H
        have hK : Hid (∀ (v : Value) (w' : World), v = .int .i64 (ln : Int) → Sp w0 (rest) w' → K (A9.put (some 31) v) w') := Lib.hid hK0
        clear hK0 hN hS hE
        change Oper.wp _ _ A9 wx K _
        go_step
        exact hK.out _ _ rfl (H)
      · intro x wx A9 rest hN hS hE H K hK0
        have e31 : A9.tmps[31]?.getD undef = .int .i64 (ln : Int) := ((hS 2 (by decide)).2 31 rfl).trans (hS 2 (by decide)).1
        replace H : Sp w0 (rest) wx := H
        have hK : Hid (∀ (v : Value) (w' : World), v = .int .i64 (n : Int) → Sp w0 (rest) w' → K (A9.put (some 32) v) w') := Lib.hid hK0
        clear hK0 hN hS hE
        change Oper.wp _ _ A9 wx K _
        go_step
        exact hK.out _ _ rfl (H)
      · intro x wx A9 rest hN hS hE H K hK0
        have e29 : A9.tmps[29]?.getD undef = .slice A ln ca := ((hS 0 (by decide)).2 29 rfl).trans (hS 0 (by decide)).1
        have e32 : A9.tmps[32]?.getD undef = .int .i64 (n : Int) := ((hS 3 (by decide)).2 32 rfl).trans (hS 3 (by decide)).1
        replace H : Sp w0 (rest) wx := H
        have hK : Hid (∀ (v : Value) (w' : World), v = .slice A n ca → Sp w0 (rest) w' → K (A9.put (some 33) v) w') := Lib.hid hK0
        clear hK0 hN hS hE
        change Oper.wp _ _ A9 wx K _
        go_step
        exact hK.out _ _ rfl (H)
      · intro x wx A9 rest hN hS hE H K hK0
        have e33 : A9.tmps[33]?.getD undef = .slice A n ca := ((hS 4 (by decide)).2 33 rfl).trans (hS 4 (by decide)).1
        replace H : Sp w0 (rest) wx := H
        have hK : Hid (∀ (v : Value) (w' : World), (fun _ => True) v → Sp w0 ((Row 3 1 v n (cells64 m)) :: rest) w' → K (A9.put (some 34) v) w') := Lib.hid hK0
        clear hK0 hN hS
        have hrd := hE _ HRA.out _ _ H
        replace H := H.rowNil 3 1
        change Oper.wp _ _ A9 wx K _
        refine wp_append_sp _ _ 52 rfl 3 i1 (.int .i64 0) 1 8 Try.underlying52 hj hj0 hj1 hj2 rfl (by decide) (.slice none 0 0) 0 [] rfl H A n ca (cells64 m) (ev e33) (by rw [show (cells64 m).length = m.length by simp [cells64], ← HML.out]; omega) hrd (by intro u hu; obtain ⟨x9, _, rfl⟩ := List.mem_map.1 hu; rfl) (by simp only [maxLen]; omega) (by omega) ?_
        intro v1 w2 H2 _
        rw [Nat.zero_add, List.nil_append] at H2
        exact hK.out _ _ trivial H2
      · intro x wx A9 rest hN hS hE H K hK0
        have e1 : A9.tmps[1]?.getD undef = .slice B lb cb := hN (1, .slice B lb cb) (by simp) (by rfl)
        replace H : Sp w0 (rest) wx := H
        have hK : Hid (∀ (v : Value) (w' : World), v = .slice B lb cb → Sp w0 (rest) w' → K (A9.put (some 35) v) w') := Lib.hid hK0
        clear hK0 hN hS hE
        change Oper.wp _ _ A9 wx K _
        go_step
        exact hK.out _ _ rfl (H)
      · intro x wx A9 rest hN hS hE H K hK0
        have e1 : A9.tmps[1]?.getD undef = .slice B lb cb := hN (1, .slice B lb cb) (by simp) (by rfl)
        replace H : Sp w0 (rest) wx := H
        have hK : Hid (∀ (v : Value) (w' : World), v = .slice B lb cb → Sp w0 (rest) w' → K (A9.put (some 36) v) w') := Lib.hid hK0
        clear hK0 hN hS hE
        change Oper.wp _ _ A9 wx K _
        go_step
        exact hK.out _ _ rfl (H)
      · intro x wx A9 rest hN hS hE H K hK0
        have e36 : A9.tmps[36]?.getD undef = .slice B lb cb := ((hS 7 (by decide)).2 36 rfl).trans (hS 7 (by decide)).1
        replace H : Sp w0 (rest) wx := H
        have hK : Hid (∀ (v : Value) (w' : World), v = .int .i64 (lb : Int) → Sp w0 (rest) w' → K (A9.put (some 37) v) w') := Lib.hid hK0
        clear hK0 hN hS hE
        change Oper.wp _ _ A9 wx K _
        go_step
        exact hK.out _ _ rfl (H)
      · intro x wx A9 rest hN hS hE H K hK0
        have e37 : A9.tmps[37]?.getD undef = .int .i64 (lb : Int) := ((hS 8 (by decide)).2 37 rfl).trans (hS 8 (by decide)).1
        replace H : Sp w0 (rest) wx := H
        have hK : Hid (∀ (v : Value) (w' : World), v = .int .i64 (k : Int) → Sp w0 (rest) w' → K (A9.put (some 38) v) w') := Lib.hid hK0
        clear hK0 hN hS hE
        change Oper.wp _ _ A9 wx K _
        go_step
        exact hK.out _ _ rfl (H)
      · intro x wx A9 rest hN hS hE H K hK0
        have e35 : A9.tmps[35]?.getD undef = .slice B lb cb := ((hS 6 (by decide)).2 35 rfl).trans (hS 6 (by decide)).1
        have e38 : A9.tmps[38]?.getD undef = .int .i64 (k : Int) := ((hS 9 (by decide)).2 38 rfl).trans (hS 9 (by decide)).1
        replace H : Sp w0 (rest) wx := H
        have hK : Hid (∀ (v : Value) (w' : World), v = .slice B k cb → Sp w0 (rest) w' → K (A9.put (some 39) v) w') := Lib.hid hK0
        clear hK0 hN hS hE
        change Oper.wp _ _ A9 wx K _
        go_step
        exact hK.out _ _ rfl (H)
      · intro x wx A9 rest hN hS hE H K hK0
        have q34 := (hS 5 (by decide)).1
        have e34 : A9.tmps[34]?.getD undef = x 5 := (hS 5 (by decide)).2 34 rfl
        replace H : Sp w0 ((Row 3 1 (x 5) n (cells64 m)) :: rest) wx := H
        have hK : Hid (∀ (v : Value) (w' : World), (fun _ => True) v → Sp w0 ((Row 3 1 v n (cells64 m)) :: rest) w' → K (A9.put (some 0) v) w') := Lib.hid hK0
        clear hK0 hN hS hE
        change Oper.wp _ _ A9 wx K _
        go_step
        exact hK.out _ _ trivial H
      · intro x wx A9 rest hN hS hE H K hK0
        have e39 : A9.tmps[39]?.getD undef = .slice B k cb := ((hS 10 (by decide)).2 39 rfl).trans (hS 10 (by decide)).1
        replace H : Sp w0 (rest) wx := H
        have hK : Hid (∀ (v : Value) (w' : World), v = .slice B k cb → Sp w0 (rest) w' → K (A9.put (some 1) v) w') := Lib.hid hK0
        clear hK0 hN hS hE
        change Oper.wp _ _ A9 wx K _
        go_step
        exact hK.out _ _ rfl (H)
    case hend =>
      intro x wx A9 hA hS H
      replace H : Sp w0 ((Row 3 1 (x 11) n (cells64 m)) :: L) wx := H
      have y12 : x 12 = .slice B k cb := hS 12 (by decide)
      clear hS
      simp only [putAll, Act.put, List.setIfInBounds_toArray, List.set_cons_succ, List.set_cons_zero, Nat.reduceAdd] at hA
      subst hA
      rw [y12]
      clear y12
      obtain ⟨V, Vc, hv5, _, _⟩ := Row.form H 0 rfl
      rw [hv5] at H ⊢
      clear hv5 hmn hmk
      have HC := Lib.hid (C1.out _ V Vc 0 rfl _ H)
      go_wp2_with fail
      refine HC.out.mono ?_
      rintro _ w2 ⟨rfl, H2⟩
      clear HC H C1
      have HC := Lib.hid (C2.out _ V Vc 0 rfl _ H2)
      go_wp2_with fail
      refine HC.out.mono ?_
      rintro _ w3 ⟨rfl, H3⟩
      clear HC H2 C2
      have HC := Lib.hid (C3.out _ V Vc 0 rfl _ H3)
      go_wp2_with fail
      refine HC.out.mono ?_
      rintro _ w4 ⟨vc, rfl, H4⟩
      clear HC H3 C3
      obtain ⟨VC, Cc, hvc, _, _⟩ := Row.form H4 0 rfl
      subst hvc
      have HC := Lib.hid (C4.out _ V Vc 1 rfl _ H4)
      go_wp2_with fail
      refine HC.out.mono ?_
      rintro _ w5 ⟨vd, rfl, H5⟩
      clear HC H4 C4
      obtain ⟨VD, Cd, hvd, _, _⟩ := Row.form H5 0 rfl
      subst hvd
      have HC := Lib.hid (C5.out _ V Vc 2 rfl _ H5)
      go_wp2_with fail
      refine HC.out.mono ?_
      rintro _ w6 ⟨gb, vb, rfl, H6⟩
      clear HC H5 C5
      have H6 : Sp w0 (Row 3 1 vb (PH.rows (PH.nat m)).length (cellsN (PH.rows (PH.nat m))) :: BkB gb (PH.nat m) vb (mo : Int) :: Row 70 1 (.slice VD cn Cd) cn X :: Row 70 1 (.slice VC cn Cc) cn X :: Row 3 1 (.slice V n Vc) n (cells64 m) :: L) w6 := H6
      have HC := Lib.hid (C6.out _ V Vc 4 rfl _ H6)
      go_wp2_with fail
      refine HC.out.mono ?_
      rintro _ w7 ⟨rfl, H7⟩
      clear HC H6 C6
      go_wp2_with fail
      refine (T1.out _).mono ?_
      rintro _ _ ⟨rfl, rfl⟩
      go_wp2_with fail
      refine (T2.out _).mono ?_
      rintro _ _ ⟨rfl, rfl⟩
      clear T1 T2
      have kR : ((R : Int) != (R : Int)) = false := by simp
      have kcn : ((cn : Int) != (cn : Int)) = false := by simp
      go_wp2_with fail
      go_loopw [19] (fun iv wr => ∃ (i : Nat), iv = .int .i64 (i : Int) ∧ i ≤ cn ∧ Sp w0 (Row 3 1 vb (PH.rows (PH.nat m)).length (cellsN (PH.rows (PH.nat m))) :: BkB gb (PH.nat m) vb (mo : Int) :: Row 70 1 (.slice VD cn Cd) cn X :: Row 70 1 (.slice VC cn Cc) cn X :: Row 3 1 (.slice V n Vc) n (cells64 m) :: L) wr) (fun iv _ => cn - (intOf iv).toNat)
      case atStart => exact ⟨0, rfl, Nat.zero_le _, H7⟩
      case round =>
        clear H7
        obtain ⟨i, rfl, hi, H7⟩ := hrel
        by_cases hin : i < cn
        · have k1 : (i : Int) < (cn : Int) := by omega
          obtain ⟨z, hz⟩ := HXG.out i hin
          obtain ⟨A9, c9, e9, hr9, _, _⟩ := H7.row_rd 2 rfl
          injection e9 with e9 e10 e11
          obtain ⟨al, hal, hcl⟩ := hr9 (by rintro rfl; simp at hz)
          have hc1 := hcl i _ hz
          rw [hal] at e9
          subst e9
          clear hr9 hcl e10 e11 hal
          obtain ⟨A8, c8, e8, hr8, _, _⟩ := H7.row_rd 3 rfl
          injection e8 with e8 e10 e11
          obtain ⟨am, ham, hcl⟩ := hr8 (by rintro rfl; simp at hz)
          have hc2 := hcl i _ hz
          rw [ham] at e8
          subst e8
          have kz : ((z : Int) != (z : Int)) = false := by simp
          clear hr8 hcl e10 e11 ham hz
          go_wp2_with fail
          go_quiet (fail)
          go_wp2_with fail
          go_roundw
          case rel => exact ⟨i + 1, by go_num, by omega, H7.drewN _⟩
          case measure => first | (simp [intOf]; omega) | simp [intOf]
        · have k1 : ¬ (i : Int) < (cn : Int) := by omega
          obtain rfl : i = cn := by omega
          clear HXG
          have H8 := H7.rowNil 3 1
          have hrd := rowI_rd (l := m) (V := V) (n := n) (kk := Vc) 4 rfl _ _ H7
          have HRD := Lib.hid hrd
          clear hrd
          go_wp2_with (at_builtin; refine wpList_append_sp rfl _ _ 52 rfl 3 i1 (.int .i64 0) 1 8 Try.underlying52 hj hj0 hj1 hj2 rfl (by decide) (.slice none 0 0) 0 [] rfl H8 V n Vc (cells64 m) rfl (by rw [show (cells64 m).length = m.length by simp [cells64], ← HML.out]; omega) HRD.out (by intro u hu; obtain ⟨x9, _, rfl⟩ := List.mem_map.1 hu; rfl) (by simp only [maxLen]; omega) (by omega) ?_)
          intro v8 w8 H9 _
          clear HRD H7 H8
          obtain ⟨VO, Co, hvo, _, _⟩ := Row.form H9 0 rfl
          subst hvo
          go_wp2_with fail
          go_loopw [21] (fun jv wr => ∃ (j : Nat) (xs : List Value), jv = .int .i64 (j : Int) ∧ j ≤ n ∧ Sp w0 (Row 3 1 (.slice V n Vc) n xs :: Row 3 1 (.slice VO n Co) n (cells64 m) :: Row 3 1 vb (PH.rows (PH.nat m)).length (cellsN (PH.rows (PH.nat m))) :: BkB gb (PH.nat m) vb (mo : Int) :: Row 70 1 (.slice VD i Cd) i X :: Row 70 1 (.slice VC i Cc) i X :: L) wr) (fun jv _ => n - (intOf jv).toNat)
          case atStart => exact ⟨0, cells64 m, rfl, Nat.zero_le _, H9.pick 6 [5, 0, 1, 2, 3, 4]⟩
          case round =>
            clear H9
            obtain ⟨j, xs, rfl, hj9, H9⟩ := hrel
            by_cases hjn : j < n
            · have k2 : (j : Int) < (n : Int) := by omega
              obtain ⟨ad2, c2, ev, _, hcc, hfz, hset⟩ := H9.rowSet hjn
              have hxl := (H9.owns 0 rfl).1
              injection ev with ev ev2 ev3
              subst ev
              obtain ⟨u9, hu9⟩ : ∃ u, xs[j]? = some u := ⟨_, List.getElem?_eq_getElem (by omega)⟩
              rw [hu9] at hcc
              have HST := Lib.hid (hset (.int .i64 1))
              clear hset hxl hu9 ev2 ev3
              go_wp2_with fail
              go_roundw
              case rel => exact ⟨j + 1, _, by go_num, by omega, HST.out⟩
              case measure => first | (simp [intOf]; omega) | simp [intOf]
            · have k2 : ¬ (j : Int) < (n : Int) := by omega
              have H10 := H9.newBk [.slice B k cb, .int .i64 0] 75
              clear H9
              go_wp2_with fail
              generalize wr.heap.size = gf at H10 ⊢
              generalize wr.alloc _ = w10 at H10 ⊢
              clear HRA
              have H10 : Sp w0 (FeedB gf B k cb 0 :: Row 3 1 vb (PH.rows (PH.nat m)).length (cellsN (PH.rows (PH.nat m))) :: BkB gb (PH.nat m) vb (mo : Int) :: Row 3 1 (.slice V n Vc) n xs :: Row 3 1 (.slice VO n Co) n (cells64 m) :: Row 70 1 (.slice VD i Cd) i X :: Row 70 1 (.slice VC i Cc) i X :: L) w10 := H10.pick 5 [0, 3, 4, 1, 2]
              go_loopw [23] (fun _ wr => ∃ (at9 : Nat), at9 ≤ k ∧ Sp w0 (FeedB gf B k cb at9 :: Row 3 1 vb (PH.rows (PH.nat m)).length (cellsN (PH.rows (PH.nat m))) :: BkB gb (PH.nat m) vb (mo : Int) :: Row 3 1 (.slice V n Vc) n xs :: Row 3 1 (.slice VO n Co) n (cells64 m) :: Row 70 1 (.slice VD i Cd) i X :: Row 70 1 (.slice VC i Cc) i X :: L) wr) (fun _ wr => k + 1 - (intOf ((wr.cell? ⟨gf, 1, none⟩).getD undef)).toNat)
              case atStart => exact ⟨0, Nat.zero_le _, H10⟩
              case round =>
                clear H10
                obtain ⟨at9, hat, H10⟩ := hrel
                have c1 : wr.cell? ⟨gf, 1, none⟩ = some (.int .i64 (at9 : Int)) := H10.cell 0 rfl 1
                have hnx := next_ok gb gf vb (PH.nat m) mo B k cb at9 bq H10 HBL.out (Ent.pick 4 [] HRB.out) (by omega) hat hmo15 HSUM.out HSP.out.2.1
                obtain ⟨T, hT⟩ : ∃ T, PH.nextFrom (PH.nat m) (bq.drop at9) mo 0 = T := ⟨_, rfl⟩
                have herr := PH.nextFrom_err (PH.nat m) (bq.drop at9) mo 0 (Nat.zero_le _) (by omega) (.inr trivial)
                rw [hT] at hnx herr
                have HNX := Lib.hid hnx
                obtain ⟨kd, hkd⟩ : ∃ kd, k - at9 = kd := ⟨_, rfl⟩
                obtain ⟨cd, hcd⟩ : ∃ cd, cb - at9 = cd := ⟨_, rfl⟩
                have ykd : (k : Int) - (at9 : Int) = (kd : Int) := by omega
                have ycd : (cb : Int) - (at9 : Int) = (cd : Int) := by omega
                have hdl : kd = (bq.drop at9).length := by rw [List.length_drop, ← HBL.out]; exact hkd.symm
                have hrn := fun w (H : Sp w0 (FeedB gf B k cb (at9 + T.1) :: Row 3 1 vb (PH.rows (PH.nat m)).length (cellsN (PH.rows (PH.nat m))) :: BkB gb (PH.nat m) vb (mo : Int) :: Row 3 1 (.slice V n Vc) n xs :: Row 3 1 (.slice VO n Co) n (cells64 m) :: Row 70 1 (.slice VD i Cd) i X :: Row 70 1 (.slice VC i Cc) i X :: L) w) => rnext_ok VO (subA B cb at9) n Co kd cd (PH.nat m) (bq.drop at9) mo H (by rw [PH.nat_len]; exact HML.out) hdl (by rw [← HSP.out.1]; exact rowI_rd 4 rfl) (fun _ _ H => by
                  have h := subA_rd (A := B) (c := cb) (q := at9) (HRB.out _ _ (H.pick 7 [])) (by simp [cellsBo]; rw [← HBL.out]; exact hkc)
                  have e : (cellsBo bq).drop at9 = cellsBo (bq.drop at9) := by unfold cellsBo; rw [List.map_drop]
                  rw [e] at h; exact h) (by omega) (by omega) HSP.out.2.2 HMAY.out.2 HMO.out
                rw [hT] at hrn
                obtain ⟨tk, te, ts⟩ := T
                obtain ⟨a2, ha2⟩ : ∃ a2, at9 + tk = a2 := ⟨_, rfl⟩
                simp only [ha2] at hnx herr hrn HNX
                have htk : tk ≤ kd := by have := herr.2.1; omega
                have htk2 : a2 ≤ k := by omega
                have hte : te = 0 ∧ at9 < a2 ∨ te = 4 ∨ te = 20 := by
                  rcases herr.2.2 with ⟨h1, h2⟩ | h | h
                  · exact .inl ⟨h1, by omega⟩
                  · exact .inr (.inl h)
                  · exact .inr (.inr h)
                have HRN := Lib.hid hrn
                have HKD := Lib.hid hkd
                have HCD := Lib.hid hcd
                have yat : (at9 : Int) + (tk : Int) = (a2 : Int) := by omega
                have HTE := Lib.hid hte
                clear hnx hT herr hrn hdl hkd hcd ha2 hte
                go_wp2_with fail
                refine HNX.out.mono ?_
                rintro _ w11 ⟨rfl, H11⟩
                have hcold := Lib.hid c1
                clear HNX H10 c1
                have c1 : w11.cell? ⟨gf, 1, none⟩ = some (.int .i64 (a2 : Int)) := H11.cell 0 rfl 1
                have k3 : (at9 : Int) ≤ (k : Int) := by omega
                have k4 : (k : Int) ≤ (cb : Int) := by omega
                have kad : ((a2 : Int) != (a2 : Int)) = false := by simp
                have HRX := Lib.hid (HRN.out _ H11)
                unfold subA at HRX
                clear HRN
                by_cases hsub : cb = at9
                · rw [if_pos hsub] at HRX
                  clear ycd
                  have ksub : (cb : Int) - (at9 : Int) = 0 := by omega
                  have HSUB := Lib.hid hsub
                  clear hsub
                  go_wp2_with fail
                  rw [← HKD.out, ← HCD.out] at HRX
                  refine HRX.out.mono ?_
                  rintro _ w12 ⟨rfl, _, H12⟩
                  replace H12 := H12.tail
                  have c2 : w12.cell? ⟨gf, 1, none⟩ = some (.int .i64 (a2 : Int)) := H12.cell 0 rfl 1
                  clear c1
                  rcases HTE.out with ⟨rfl, h1⟩ | rfl | rfl
                  · exfalso; have := HSUB.out; omega
                  · have kf : rfault 4 = -1 := rfl
                    rw [kf]
                    clear kf HRX
                    have HT := Lib.hid (tells_ok H12)
                    go_wp2_with fail
                    refine HT.out.mono ?_
                    rintro _ w13 ⟨rfl, H13⟩
                    go_wp2_with fail
                    go_ret
                    exact ⟨rfl, H13.pick 7 []⟩
                  · have kf : rfault 20 = 20 := rfl
                    rw [kf]
                    clear kf HRX
                    have HT := Lib.hid (tells_ok H12)
                    go_wp2_with fail
                    refine HT.out.mono ?_
                    rintro _ w13 ⟨rfl, H13⟩
                    go_wp2_with fail
                    go_ret
                    exact ⟨rfl, H13.pick 7 []⟩
                · rw [if_neg hsub] at HRX
                  have hsub2 : at9 < cb := by omega
                  have ksub : (at9 : Int) < (cb : Int) := by omega
                  have HSUB := Lib.hid hsub
                  clear hsub
                  go_wp2_with fail
                  rw [← HKD.out, ← HCD.out] at HRX
                  refine HRX.out.mono ?_
                  rintro _ w12 ⟨rfl, _, H12⟩
                  replace H12 := H12.tail
                  have c2 : w12.cell? ⟨gf, 1, none⟩ = some (.int .i64 (a2 : Int)) := H12.cell 0 rfl 1
                  clear c1
                  rcases HTE.out with ⟨rfl, h1⟩ | rfl | rfl
                  · have kf : rfault 0 = 0 := rfl
                    have kts : ((ts : Int) != (ts : Int)) = false := by simp
                    rw [kf]
                    clear kf HRX
                    go_wp2_with fail
                    go_roundw
                    case rel => exact ⟨a2, htk2, H12⟩
                    case measure =>
                      rw [c2, hcold.out]
                      simp [intOf]; omega
                  · have kf : rfault 4 = -1 := rfl
                    rw [kf]
                    clear kf HRX
                    have HT := Lib.hid (tells_ok H12)
                    go_wp2_with fail
                    refine HT.out.mono ?_
                    rintro _ w13 ⟨rfl, H13⟩
                    go_wp2_with fail
                    go_ret
                    exact ⟨rfl, H13.pick 7 []⟩
                  · have kf : rfault 20 = 20 := rfl
                    rw [kf]
                    clear kf HRX
                    have HT := Lib.hid (tells_ok H12)
                    go_wp2_with fail
                    refine HT.out.mono ?_
                    rintro _ w13 ⟨rfl, H13⟩
                    go_wp2_with fail
                    go_ret
                    exact ⟨rfl, H13.pick 7 []⟩
end Go.Proofs.Ytdlbhoedmaifpaa
