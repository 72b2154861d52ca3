/- A pack of texts: InfU. -/
import Derived.Test.YtiogaejfcenooaaDoorPk23
import Derived.Test.YtiogaejfcenooaaDoorPk24
namespace Go.Proofs.YtiogaejfcenooaaDoor
set_option linter.unusedVariables false
set_option linter.unusedSimpArgs false
open Go.RowKit
theorem sgC_len (x : PI.Sg) : (sgC x).length = 3 := rfl
theorem rdS {w : World} {A : Option Addr} {l : List PI.Sg} (h : Rd w A (cellsS l)) {i : Nat} (hi : i < l.length) : ∃ ad, A = some ad ∧ ∀ j v, (sgC (l.getD i (0, 0, 0)))[j]? = some v → w.cell? ((ad.add (i * 3)).add j) = some v := by
 obtain ⟨ad, e, hc⟩ := h (fun h0 => by
  have := congrArg List.length h0
  unfold cellsS at this
  rw [flat_len sgC 3 sgC_len] at this
  simp at this
  omega)
 refine ⟨ad, e, fun j v hj => ?_⟩
 have hj3 : j < 3 := by
  have := (List.getElem?_eq_some_iff.1 hj).1
  rw [sgC_len] at this
  exact this
 obtain ⟨p, h1, h2⟩ := flat_get sgC 3 sgC_len l i j hj3 hi
 have e2 : p = l.getD i (0, 0, 0) := by
  rw [List.getD_eq_getElem?_getD, h1]; rfl
 rw [Go.Addr.add_add]
 refine hc _ _ ?_
 show (l.flatMap sgC)[i * 3 + j]? = _
 rw [h2, e2]
 exact hj
theorem codeAt_u32 (m : List Nat) (h15 : ∀ x ∈ m, x ≤ 15) (hs : PH.sum m ≤ 32768) (s : Nat) : PH.codeAt m s < 4294967296 := by
 by_cases h0 : m.getD s 0 = 0
 ·unfold PH.codeAt; rw [if_pos h0]; decide
 ·have hi : s < m.length := by
   refine Nat.lt_of_not_le fun h => h0 ?_
   rw [List.getD_eq_getElem?_getD, List.getElem?_eq_none h]; rfl
  obtain ⟨p, hp⟩ : ∃ p, m.getD s 0 = p + 1 := ⟨m.getD s 0 - 1, by omega⟩
  have hp15 : p + 1 ≤ 15 := by
   rw [← hp, List.getD_eq_getElem?_getD, List.getElem?_eq_getElem hi]
   exact h15 _ (List.getElem_mem hi)
  have h1 := PH.code_lt m s p hi hp hp15 hs
  have h2 : (2 : Nat) ^ (p + 1) ≤ 2 ^ 15 := Nat.pow_le_pow_right (by decide) hp15
  omega
set_option maxRecDepth 100000 in
set_option maxHeartbeats 8000000 in
theorem countA_ok (A : Option Addr) (n c : Nat) (l : List PI.Sg) (v0 v1 : Value) (Inv : Nat → List Pr) {w0 w : World} (H : Sp w0 (Inv 0) w) (hn : n = l.length) (hl : n ≤ 1000000) (hk : PI.SgOk l) (hb : ∀ k, k ≤ n → Ent (Inv k) fun w => Rd w A (cellsS l))
  (hstep : ∀ (k : Nat) (X : Pr) (w : World), k < n → Sp w0 (X :: Inv k) w → Calls Tryd.prog 27 #[.int .i64 ((l.getD k (0, 0, 0)).1 : Int), .bool (PI.farAt l k), v0, v1] w fun e w' => e = .returned (.tuple #[]) ∧ Sp w0 (X :: Inv (k + 1)) w') :
  Calls Tryd.prog 26 #[.slice A n c, .func (.func 27) #[] #[v0, v1]] w fun e w' => e = .returned (.tuple #[]) ∧ Sp w0 (Inv n) w' := by
 have HB := Lib.hid hb
 have HST := Lib.hid hstep
 have HN := Lib.hid hn
 have HK := Lib.hid hk
 clear hb hstep hn hk
 go_enter Tryd.func26, Tryd.ntmps26
 go_wp2_with fail
 go_loopw [4, 9] (fun fv iv wr => ∃ i : Nat, fv = .bool (PI.farAt l i) ∧ iv = .int .i64 (i : Int) ∧ i ≤ n ∧ Sp w0 (Inv i) wr) (fun _ iv _ => n - (intOf iv).toNat)
 case atStart => exact ⟨0, rfl, rfl, Nat.zero_le _, H⟩
 case round =>
  obtain ⟨i, rfl, rfl, hin, H1⟩ := hrel
  clear H
  by_cases hlt : i < n
  ·have k1 : (i : Int) < (n : Int) := by omega
   have hil : i < l.length := by rw [← HN.out]; exact hlt
   obtain ⟨al, rfl, hrd⟩ := rdS (HB.out i hin _ _ H1) hil
   have hst := HST.out i
   have hsg := (HK.out i hil).1
   obtain ⟨fr, hfr⟩ : ∃ fr, PI.farAt l i = fr := ⟨_, rfl⟩
   have hfn : PI.farAt l (i + 1) = PI.farNx fr (l.getD i (0, 0, 0)).1 := by rw [← hfr]; rfl
   rw [hfr] at hst hsg ⊢
   obtain ⟨⟨s, v, b⟩, hx⟩ : ∃ x, l.getD i (0, 0, 0) = x := ⟨_, rfl⟩
   rw [hx] at hrd hst hsg hfn
   simp only at hst hsg hfn
   have HRD := Lib.hid hrd
   have HSTP := Lib.hid hst
   have HFN := Lib.hid hfn
   have hnb := H1.newBk [.int .i64 0, .int .i64 0, .int .i64 0] 102
   have HNB := Lib.hid hnb
   have hs286 : s < 286 := by cases fr with
    | false => exact hsg.1 rfl
    | true => have := hsg.2 rfl; omega
   clear hrd hst hfr hfn hx hnb H1 hsg
   go_wp2_with (first | (refine wpList_load_agg rfl 102 _ rfl (al.add (i * 3)) (sgC (s, v, b)) rfl HRD.out Tryd.isAgg102 Tryd.sizeOf102 ?_) | (refine wpList_store_whole rfl 102 _ _ rfl wr.heap.size 102 [.int .i64 0, .int .i64 0, .int .i64 0] (sgC (s, v, b)) rfl rfl HNB.out rfl Tryd.sizeOf102 (sgC_one _) ?_))
   intro w8 H8
   generalize wr.heap.size = g8 at H8 ⊢
   have c0 : w8.cell? ⟨g8, 0, none⟩ = some (.int .i64 (s : Int)) := H8.cell 0 rfl 0
   have HST8 := Lib.hid (HSTP.out _ w8 hlt H8)
   clear HNB HRD HSTP H8
   go_wp2_with fail
   refine HST8.out.mono ?_
   rintro _ w9 ⟨rfl, H9⟩
   have c0 : w9.cell? ⟨g8, 0, none⟩ = some (.int .i64 (s : Int)) := H9.cell 0 rfl 0
   clear HST8
   cases fr with
   | true =>
    go_wp2_with fail
    go_roundw
    case rel => exact ⟨i + 1, by rw [HFN.out]; rfl, by go_num, by omega, H9.tail⟩
    case measure => first | (simp [intOf]; omega) | simp [intOf]
   | false =>
    by_cases hs : 256 < s
    ·have k2 : (s : Int) > 256 := by omega
     go_wp2_with fail
     go_roundw
     case rel => exact ⟨i + 1, by rw [HFN.out]; first | (simp [PI.farNx, hs]; done) | (simp [PI.farNx, hs]; omega), by go_num, by omega, H9.tail⟩
     case measure => first | (simp [intOf]; omega) | simp [intOf]
    ·have k2 : ¬ (s : Int) > 256 := by omega
     go_wp2_with fail
     go_roundw
     case rel => exact ⟨i + 1, by rw [HFN.out]; first | (simp [PI.farNx, hs]; done) | (simp [PI.farNx, hs]; omega), by go_num, by omega, H9.tail⟩
     case measure => first | (simp [intOf]; omega) | simp [intOf]
  ·have k1 : ¬ (i : Int) < (n : Int) := by omega
   obtain rfl : i = n := by omega
   go_wp2_with fail
   go_end0
   exact ⟨rfl, H1⟩
set_option maxRecDepth 100000 in
set_option maxHeartbeats 8000000 in
theorem countB_ok (A : Option Addr) (n c : Nat) (l : List PI.Sg) (v0 v1 v2 v3 v4 v5 v6 : Value) (Inv : Nat → List Pr) {w0 w : World} (H : Sp w0 (Inv 0) w) (hn : n = l.length) (hl : n ≤ 1000000) (hk : PI.SgOk l) (hb : ∀ k, k ≤ n → Ent (Inv k) fun w => Rd w A (cellsS l))
  (hstep : ∀ (k : Nat) (X : Pr) (w : World), k < n → Sp w0 (X :: Inv k) w → Calls Tryd.prog 44 #[.int .i64 ((l.getD k (0, 0, 0)).1 : Int), .bool (PI.farAt l k), v0, v1, v2, v3, v4, v5, v6] w fun e w' => e = .returned (.tuple #[]) ∧ Sp w0 (X :: Inv (k + 1)) w') :
  Calls Tryd.prog 26 #[.slice A n c, .func (.func 44) #[] #[v0, v1, v2, v3, v4, v5, v6]] w fun e w' => e = .returned (.tuple #[]) ∧ Sp w0 (Inv n) w' := by
 have HB := Lib.hid hb
 have HST := Lib.hid hstep
 have HN := Lib.hid hn
 have HK := Lib.hid hk
 clear hb hstep hn hk
 go_enter Tryd.func26, Tryd.ntmps26
 go_wp2_with fail
 go_loopw [4, 9] (fun fv iv wr => ∃ i : Nat, fv = .bool (PI.farAt l i) ∧ iv = .int .i64 (i : Int) ∧ i ≤ n ∧ Sp w0 (Inv i) wr) (fun _ iv _ => n - (intOf iv).toNat)
 case atStart => exact ⟨0, rfl, rfl, Nat.zero_le _, H⟩
 case round =>
  obtain ⟨i, rfl, rfl, hin, H1⟩ := hrel
  clear H
  by_cases hlt : i < n
  ·have k1 : (i : Int) < (n : Int) := by omega
   have hil : i < l.length := by rw [← HN.out]; exact hlt
   obtain ⟨al, rfl, hrd⟩ := rdS (HB.out i hin _ _ H1) hil
   have hst := HST.out i
   have hsg := (HK.out i hil).1
   obtain ⟨fr, hfr⟩ : ∃ fr, PI.farAt l i = fr := ⟨_, rfl⟩
   have hfn : PI.farAt l (i + 1) = PI.farNx fr (l.getD i (0, 0, 0)).1 := by rw [← hfr]; rfl
   rw [hfr] at hst hsg ⊢
   obtain ⟨⟨s, v, b⟩, hx⟩ : ∃ x, l.getD i (0, 0, 0) = x := ⟨_, rfl⟩
   rw [hx] at hrd hst hsg hfn
   simp only at hst hsg hfn
   have HRD := Lib.hid hrd
   have HSTP := Lib.hid hst
   have HFN := Lib.hid hfn
   have hnb := H1.newBk [.int .i64 0, .int .i64 0, .int .i64 0] 102
   have HNB := Lib.hid hnb
   have hs286 : s < 286 := by cases fr with
    | false => exact hsg.1 rfl
    | true => have := hsg.2 rfl; omega
   clear hrd hst hfr hfn hx hnb H1 hsg
   go_wp2_with (first | (refine wpList_load_agg rfl 102 _ rfl (al.add (i * 3)) (sgC (s, v, b)) rfl HRD.out Tryd.isAgg102 Tryd.sizeOf102 ?_) | (refine wpList_store_whole rfl 102 _ _ rfl wr.heap.size 102 [.int .i64 0, .int .i64 0, .int .i64 0] (sgC (s, v, b)) rfl rfl HNB.out rfl Tryd.sizeOf102 (sgC_one _) ?_))
   intro w8 H8
   generalize wr.heap.size = g8 at H8 ⊢
   have c0 : w8.cell? ⟨g8, 0, none⟩ = some (.int .i64 (s : Int)) := H8.cell 0 rfl 0
   have HST8 := Lib.hid (HSTP.out _ w8 hlt H8)
   clear HNB HRD HSTP H8
   go_wp2_with fail
   refine HST8.out.mono ?_
   rintro _ w9 ⟨rfl, H9⟩
   have c0 : w9.cell? ⟨g8, 0, none⟩ = some (.int .i64 (s : Int)) := H9.cell 0 rfl 0
   clear HST8
   cases fr with
   | true =>
    go_wp2_with fail
    go_roundw
    case rel => exact ⟨i + 1, by rw [HFN.out]; rfl, by go_num, by omega, H9.tail⟩
    case measure => first | (simp [intOf]; omega) | simp [intOf]
   | false =>
    by_cases hs : 256 < s
    ·have k2 : (s : Int) > 256 := by omega
     go_wp2_with fail
     go_roundw
     case rel => exact ⟨i + 1, by rw [HFN.out]; first | (simp [PI.farNx, hs]; done) | (simp [PI.farNx, hs]; omega), by go_num, by omega, H9.tail⟩
     case measure => first | (simp [intOf]; omega) | simp [intOf]
    ·have k2 : ¬ (s : Int) > 256 := by omega
     go_wp2_with fail
     go_roundw
     case rel => exact ⟨i + 1, by rw [HFN.out]; first | (simp [PI.farNx, hs]; done) | (simp [PI.farNx, hs]; omega), by go_num, by omega, H9.tail⟩
     case measure => first | (simp [intOf]; omega) | simp [intOf]
  ·have k1 : ¬ (i : Int) < (n : Int) := by omega
   obtain rfl : i = n := by omega
   go_wp2_with fail
   go_end0
   exact ⟨rfl, H1⟩
set_option maxRecDepth 100000 in
set_option maxHeartbeats 4000000 in
theorem cloA_ok (pa pb s : Nat) (va vb : Value) (ca cb : List Nat) (fr : Bool) {X : Pr} {w0 w : World} {L : List Pr} (H : Sp w0 (X :: Bk pb 67 [vb] :: Bk pa 67 [va] :: Row 3 1 vb 30 (cellsN ca) :: Row 3 1 va 286 (cellsN cb) :: L) w) (hca : ca.length = 30) (hcb : cb.length = 286)
  (hs : (fr = false → s < 286) ∧ (fr = true → s < 30)) (ha : ∀ x ∈ ca, x ≤ 1000000) (hb : ∀ x ∈ cb, x ≤ 1000000) :
  Calls Tryd.prog 27 #[.int .i64 (s : Int), .bool fr, .pointer (some ⟨pb, 0, none⟩), .pointer (some ⟨pa, 0, none⟩)] w fun e w' => e = .returned (.tuple #[]) ∧
   Sp w0 (X :: Bk pb 67 [vb] :: Bk pa 67 [va] :: Row 3 1 vb 30 (cellsN (if fr then ca.set s (ca.getD s 0 + 1) else ca)) :: Row 3 1 va 286 (cellsN (if fr then cb else cb.set s (cb.getD s 0 + 1))) :: L) w' := by
 have gset : ∀ (l : List Nat) (x : Nat), (cellsN l).set s (.int .i64 (x : Int)) = cellsN (l.set s x) := fun l x => by simp [cellsN, List.map_set]
 have gget : ∀ l : List Nat, s < l.length → (cellsN l)[s]? = some (.int .i64 (l.getD s 0 : Nat)) := fun l h => by simp [cellsN, List.getD_eq_getElem?_getD, h]
 cases fr with
 | true =>
  have hs := hs.2 rfl
  obtain ⟨ad, c9, rfl, _, ccell, cfrz, hset⟩ := (H.pick 4 [3, 0, 1, 2]).rowSet hs
  have c1 : w.cell? ⟨pb, 0, none⟩ = some (.slice (some ad) 30 c9) := H.cell 1 rfl 0
  rw [gget ca (by omega)] at ccell
  have hx : ca.getD s 0 ≤ 1000000 := by
   rw [List.getD_eq_getElem?_getD, List.getElem?_eq_getElem (by omega)]
   exact ha _ (List.getElem_mem _)
  obtain ⟨x, hx2⟩ : ∃ x, ca.getD s 0 = x := ⟨_, rfl⟩
  rw [hx2] at ccell hx ⊢
  have H2 := hset (.int .i64 ((x + 1 : Nat) : Int))
  rw [gset] at H2
  have HX := Lib.hid (H2.pick 4 [1, 2, 3, 0])
  have k1 : (s : Int) < 30 := by omega
  clear H H2 hset gset gget ha hb hx2
  go_enter Tryd.func27, Tryd.ntmps27
  go_wp2_with fail
  go_end0
  exact ⟨rfl, HX.out⟩
 | false =>
  have hs := hs.1 rfl
  obtain ⟨ad, c9, rfl, _, ccell, cfrz, hset⟩ := (H.pick 5 [4, 0, 1, 2, 3]).rowSet hs
  have c1 : w.cell? ⟨pa, 0, none⟩ = some (.slice (some ad) 286 c9) := H.cell 2 rfl 0
  rw [gget cb (by omega)] at ccell
  have hx : cb.getD s 0 ≤ 1000000 := by
   rw [List.getD_eq_getElem?_getD, List.getElem?_eq_getElem (by omega)]
   exact hb _ (List.getElem_mem _)
  obtain ⟨x, hx2⟩ : ∃ x, cb.getD s 0 = x := ⟨_, rfl⟩
  rw [hx2] at ccell hx ⊢
  have H2 := hset (.int .i64 ((x + 1 : Nat) : Int))
  rw [gset] at H2
  have HX := Lib.hid (H2.pick 5 [1, 2, 3, 4, 0])
  have k1 : (s : Int) < 286 := by omega
  clear H H2 hset gset gget ha hb hx2
  go_enter Tryd.func27, Tryd.ntmps27
  go_wp2_with fail
  go_end0
  exact ⟨rfl, HX.out⟩
set_option maxRecDepth 100000 in
set_option maxHeartbeats 8000000 in
theorem cloB_ok (pr pi pp pd pb pc pa gp k n cr nd cd cb nm cc ca : Nat) (A VD VB VC VA : Option Addr) (m d : List Nat) (l : List PI.Sg) (fr : Bool) (l1 : List Bool) {X : Pr} {w0 w : World} {L : List Pr}
  (H : Sp w0 (X :: Bk pr 64 [.slice A n cr] :: Bk pi 3 [.int .i64 (k : Int)] :: Bk pp 58 [.pointer (some ⟨gp, 0, none⟩)] :: Bk pd 107 [.slice VD nd cd] :: Bk pb 67 [.slice VB nd cb] :: Bk pc 107 [.slice VC nm cc] :: Bk pa 67 [.slice VA nm ca] :: Pen gp l1 :: L) w) (hn : n = l.length) (hnd : nd = d.length) (hnm : nm = m.length) (hk : k < n) (hfr : PI.farAt l k = fr) (hsg : PI.SgOk l) (hl : l1.length ≤ 90000000) (hnb : n ≤ 1000000)
  (hdl : 30 ≤ nd) (hml : 286 ≤ nm) (hd15 : ∀ x ∈ d, x ≤ 15) (hm15 : ∀ x ∈ m, x ≤ 15) (hds : PH.sum d ≤ 32768) (hms : PH.sum m ≤ 32768)
  (hr : Ent L fun w => Rd w A (cellsS l)) (hvd : Ent L fun w => Rd w VD (rowU (PH.codeAt d) nd)) (hvb : Ent L fun w => Rd w VB (cellsN d)) (hvc : Ent L fun w => Rd w VC (rowU (PH.codeAt m) nm)) (hva : Ent L fun w => Rd w VA (cellsN m)) :
  Calls Tryd.prog 44 #[.int .i64 ((l.getD k (0, 0, 0)).1 : Int), .bool fr, .pointer (some ⟨pr, 0, none⟩), .pointer (some ⟨pi, 0, none⟩), .pointer (some ⟨pp, 0, none⟩), .pointer (some ⟨pd, 0, none⟩), .pointer (some ⟨pb, 0, none⟩), .pointer (some ⟨pc, 0, none⟩), .pointer (some ⟨pa, 0, none⟩)] w fun e w' => e = .returned (.tuple #[]) ∧
   Sp w0 (X :: Bk pr 64 [.slice A n cr] :: Bk pi 3 [.int .i64 ((k + 1 : Nat) : Int)] :: Bk pp 58 [.pointer (some ⟨gp, 0, none⟩)] :: Bk pd 107 [.slice VD nd cd] :: Bk pb 67 [.slice VB nd cb] :: Bk pc 107 [.slice VC nm cc] :: Bk pa 67 [.slice VA nm ca] :: Pen gp (l1 ++ PI.sgW m d (l.getD k (0, 0, 0)) fr) :: L) w' := by
 have hkl : k < l.length := by omega
 obtain ⟨al, rfl, hrd⟩ := rdS (hr _ _ (H.pick 9 [])) hkl
 obtain ⟨⟨hs1, hs2⟩, hb13, hv⟩ := hsg k hkl
 rw [hfr] at hs1 hs2
 obtain ⟨⟨s, v, b⟩, hx⟩ : ∃ x, l.getD k (0, 0, 0) = x := ⟨_, rfl⟩
 rw [hx] at hrd hs1 hs2 hb13 hv ⊢
 simp only at hs1 hs2 hb13 hv ⊢
 have q1 : (k : Int) < (n : Int) := by omega
 have c2 : w.cell? ⟨pr, 0, none⟩ = some (.slice (some al) n cr) := H.cell 1 rfl 0
 have c3 : w.cell? ⟨pi, 0, none⟩ = some (.int .i64 (k : Int)) := H.cell 2 rfl 0
 have HRD := Lib.hid hrd
 have HNB := Lib.hid (H.newBk [.int .i64 0, .int .i64 0, .int .i64 0] 102)
 have HVD := Lib.hid hvd
 have HVB := Lib.hid hvb
 have HVC := Lib.hid hvc
 have HVA := Lib.hid hva
 have HND := Lib.hid hnd
 have HNM := Lib.hid hnm
 have HD15 := Lib.hid hd15
 have HM15 := Lib.hid hm15
 have HDS := Lib.hid hds
 have HMS := Lib.hid hms
 clear hr hvd hvb hvc hva hrd hx hfr H hnd hnm hd15 hm15 hds hms hsg hn
 go_enter Tryd.func44, Tryd.ntmps44
 go_wp2_with (first | (refine wpList_load_agg rfl 102 _ rfl (al.add (k * 3)) (sgC (s, v, b)) rfl HRD.out Tryd.isAgg102 Tryd.sizeOf102 ?_) | (refine wpList_store_whole rfl 102 _ _ rfl w.heap.size 102 [.int .i64 0, .int .i64 0, .int .i64 0] (sgC (s, v, b)) rfl rfl HNB.out rfl Tryd.sizeOf102 (sgC_one _) ?_))
 intro w8 H8
 generalize w.heap.size = g11 at H8 ⊢
 clear HNB HRD c2 c3
 have c3 : w8.cell? ⟨pi, 0, none⟩ = some (.int .i64 (k : Int)) := H8.cell 3 rfl 0
 have z3 : w8.frozen? ⟨pi, 0, none⟩ = false := H8.frozen 3 rfl 0
 have H9 := ((H8.pick 4 [3, 0, 1, 2]).set 0 (.int .i64 ((k + 1 : Nat) : Int))).pick 10 [9, 1, 2, 3, 0, 4, 5, 6, 7, 8]
 have HX := Lib.hid H9
 clear H8 H9
 cases fr with
 | true =>
  have hs := hs2 rfl
  obtain ⟨cdv, hcdv⟩ : ∃ x, PH.codeAt d s = x := ⟨_, rfl⟩
  obtain ⟨lnv, hlnv⟩ : ∃ x, d.getD s 0 = x := ⟨_, rfl⟩
  have hsn : s < nd := by omega
  have q2 : (s : Int) < (nd : Int) := by omega
  have hcl : cdv < 4294967296 := by rw [← hcdv]; exact codeAt_u32 d HD15.out HDS.out s
  have hll : lnv ≤ 15 := by
   rw [← hlnv, List.getD_eq_getElem?_getD, List.getElem?_eq_getElem (by rw [← HND.out]; exact hsn)]
   exact HD15.out _ (List.getElem_mem _)
  have HCV := Lib.hid hcl
  have gc : (rowU (PH.codeAt d) nd)[s]? = some (.int .u32 (cdv : Int)) := by rw [rowU_get _ _ _ hsn, hcdv]
  have gl : (cellsN d)[s]? = some (.int .i64 (lnv : Int)) := by
   have : s < d.length := by rw [← HND.out]; exact hsn
   rw [← hlnv]; simp [cellsN, List.getD_eq_getElem?_getD, this]
  obtain ⟨ax, rfl, _⟩ := HVD.out _ _ (HX.out.pick 10 []) (fun h0 => by rw [h0] at gc; cases gc)
  obtain ⟨ay, rfl, _⟩ := HVB.out _ _ (HX.out.pick 10 []) (fun h0 => by rw [h0] at gl; cases gl)
  have HCE : Hid (Ent (Bk g11 102 (sgC (s, v, b)) :: X :: Bk pr 64 [.slice (some al) n cr] :: Bk pi 3 [.int .i64 ((k + 1 : Nat) : Int)] :: Bk pp 58 [.pointer (some ⟨gp, 0, none⟩)] :: Bk pd 107 [.slice (some ax) nd cd] :: Bk pb 67 [.slice (some ay) nd cb] :: Bk pc 107 [.slice VC nm cc] :: Bk pa 67 [.slice VA nm ca] :: L) fun w => w.cell? (ax.add s) = some (.int .u32 (cdv : Int))) := Lib.hid fun w0 w h => by
   obtain ⟨a9, e9, hc9⟩ := HVD.out _ _ (h.pick 9 []) (fun h0 => by rw [h0] at gc; cases gc)
   injection e9 with e9
   subst e9
   exact hc9 _ _ gc
  have HLE : Hid (Ent (Bk g11 102 (sgC (s, v, b)) :: X :: Bk pr 64 [.slice (some al) n cr] :: Bk pi 3 [.int .i64 ((k + 1 : Nat) : Int)] :: Bk pp 58 [.pointer (some ⟨gp, 0, none⟩)] :: Bk pd 107 [.slice (some ax) nd cd] :: Bk pb 67 [.slice (some ay) nd cb] :: Bk pc 107 [.slice VC nm cc] :: Bk pa 67 [.slice VA nm ca] :: L) fun w => w.cell? (ay.add s) = some (.int .i64 (lnv : Int))) := Lib.hid fun w0 w h => by
   obtain ⟨a9, e9, hc9⟩ := HVB.out _ _ (h.pick 9 []) (fun h0 => by rw [h0] at gl; cases gl)
   injection e9 with e9
   subst e9
   exact hc9 _ _ gl
  have HCD := Lib.hid hcdv
  have HLN := Lib.hid hlnv
  clear hcdv hlnv hcl gc gl
  go_wp2_with fail
  refine wp_region_sp (L := (Bk g11 102 (sgC (s, v, b)) :: X :: Bk pr 64 [.slice (some al) n cr] :: Bk pi 3 [.int .i64 ((k + 1 : Nat) : Int)] :: Bk pp 58 [.pointer (some ⟨gp, 0, none⟩)] :: Bk pd 107 [.slice (some ax) nd cd] :: Bk pb 67 [.slice (some ay) nd cb] :: Bk pc 107 [.slice VC nm cc] :: Bk pa 67 [.slice VA nm ca] :: L)) (fun ix vx => ([(· = .pointer (some ⟨gp, 0, none⟩)), (· = .slice (some ax) nd cd), (· = .int .i64 (s : Int)), (· = .pointer (some (ax.add s))), (· = .int .u32 (cdv : Int)), (· = .slice (some ay) nd cb), (· = .int .i64 (s : Int)), (· = .pointer (some (ay.add s))), (· = .int .i64 (lnv : Int)), (· = .tuple #[])] : List (Value → Prop)).getD ix (fun _ => True) vx)
   (fun ix vx => ([fun _ => [], fun _ => [], fun _ => [], fun _ => [], fun _ => [], fun _ => [], fun _ => [], fun _ => [], fun _ => [], fun _ => [Pen gp (l1 ++ PH.bitsC lnv cdv)]] : List (Value → List Pr)).getD ix (fun _ => []) vx) (fun ix => ([[], [], [], [], [], [], [], [], [], [Pen gp l1]] : List (List Pr)).getD ix []) 10 45
   [some 19, some 20, some 21, some 22, some 23, some 24, some 25, some 26, some 27, some 28]
   [[], [], [], [1, 2], [3], [], [], [5, 6], [7], [0, 4, 8]]
   [[], [], [], [1, 2], [1, 2, 3], [], [], [5, 6], [5, 6, 7], [0, 1, 2, 3, 4, 5, 6, 7, 8]]
   [[], [], [], [], [], [], [], [], [], []]
   [[], [], [], [], [], [], [], [], [], []]
   [(0, .int .i64 (s : Int)), (4, .pointer (some ⟨pp, 0, none⟩)), (5, .pointer (some ⟨pd, 0, none⟩)), (6, .pointer (some ⟨pb, 0, none⟩))]
   (by kernel_rfl) rfl (by decide) (by rfl) rfl (by decide +kernel) (by decide +kernel) (by rfl) rfl rfl (by decide) (by simp) (by rfl) (HX.out) ?hstep ?hend
  case hstep =>
   refine ⟨?_, ⟨?_, ⟨?_, ⟨?_, ⟨?_, ⟨?_, ⟨?_, ⟨?_, ⟨?_, ⟨?_, trivial⟩⟩⟩⟩⟩⟩⟩⟩⟩⟩
   ·intro x wx A rest hN hS hE H K hK0
    have e4 : A.tmps[4]?.getD undef = .pointer (some ⟨pp, 0, none⟩) := hN (4, .pointer (some ⟨pp, 0, none⟩)) (by simp)
    replace H : Sp w0 (rest) wx := H
    have hK : Hid (∀ (v : Value) (w' : World), v = .pointer (some ⟨gp, 0, none⟩) → Sp w0 (rest) w' → K (A.put (some 19) v) w') := Lib.hid hK0
    clear hK0 hN hS
    have ctb := hE (fun w => w.cell? ⟨pp, 0, none⟩ = some (.pointer (some ⟨gp, 0, none⟩))) (fun w0 w h => h.cell 4 rfl 0) _ _ H
    change Oper.wp _ _ A wx K _
    go_step
    exact hK.out _ _ rfl (H)
   ·intro x wx A rest hN hS hE H K hK0
    have e5 : A.tmps[5]?.getD undef = .pointer (some ⟨pd, 0, none⟩) := hN (5, .pointer (some ⟨pd, 0, none⟩)) (by simp)
    replace H : Sp w0 (rest) wx := H
    have hK : Hid (∀ (v : Value) (w' : World), v = .slice (some ax) nd cd → Sp w0 (rest) w' → K (A.put (some 20) v) w') := Lib.hid hK0
    clear hK0 hN hS
    have ctb := hE (fun w => w.cell? ⟨pd, 0, none⟩ = some (.slice (some ax) nd cd)) (fun w0 w h => h.cell 5 rfl 0) _ _ H
    change Oper.wp _ _ A wx K _
    go_step
    exact hK.out _ _ rfl (H)
   ·intro x wx A rest hN hS hE H K hK0
    have e0 : A.tmps[0]?.getD undef = .int .i64 (s : Int) := hN (0, .int .i64 (s : Int)) (by simp)
    replace H : Sp w0 (rest) wx := H
    have hK : Hid (∀ (v : Value) (w' : World), v = .int .i64 (s : Int) → Sp w0 (rest) w' → K (A.put (some 21) v) w') := Lib.hid hK0
    clear hK0 hN hS hE
    change Oper.wp _ _ A wx K _
    go_step
    exact hK.out _ _ rfl (H)
   ·intro x wx A rest hN hS hE H K hK0
    have e20 : A.tmps[20]?.getD undef = .slice (some ax) nd cd := ((hS 1 (by decide)).2 20 rfl).trans (hS 1 (by decide)).1
    have e21 : A.tmps[21]?.getD undef = .int .i64 (s : Int) := ((hS 2 (by decide)).2 21 rfl).trans (hS 2 (by decide)).1
    replace H : Sp w0 (rest) wx := H
    have hK : Hid (∀ (v : Value) (w' : World), v = .pointer (some (ax.add s)) → Sp w0 (rest) w' → K (A.put (some 22) v) w') := Lib.hid hK0
    clear hK0 hN hS hE
    change Oper.wp _ _ A wx K _
    go_step
    exact hK.out _ _ rfl (H)
   ·intro x wx A rest hN hS hE H K hK0
    have e22 : A.tmps[22]?.getD undef = .pointer (some (ax.add s)) := ((hS 3 (by decide)).2 22 rfl).trans (hS 3 (by decide)).1
    replace H : Sp w0 (rest) wx := H
    have hK : Hid (∀ (v : Value) (w' : World), v = .int .u32 (cdv : Int) → Sp w0 (rest) w' → K (A.put (some 23) v) w') := Lib.hid hK0
    clear hK0 hN hS
    have ctb := hE _ HCE.out _ _ H
    change Oper.wp _ _ A wx K _
    go_step
    exact hK.out _ _ rfl (H)
   ·intro x wx A rest hN hS hE H K hK0
    have e6 : A.tmps[6]?.getD undef = .pointer (some ⟨pb, 0, none⟩) := hN (6, .pointer (some ⟨pb, 0, none⟩)) (by simp)
    replace H : Sp w0 (rest) wx := H
    have hK : Hid (∀ (v : Value) (w' : World), v = .slice (some ay) nd cb → Sp w0 (rest) w' → K (A.put (some 24) v) w') := Lib.hid hK0
    clear hK0 hN hS
    have ctb := hE (fun w => w.cell? ⟨pb, 0, none⟩ = some (.slice (some ay) nd cb)) (fun w0 w h => h.cell 6 rfl 0) _ _ H
    change Oper.wp _ _ A wx K _
    go_step
    exact hK.out _ _ rfl (H)
   ·intro x wx A rest hN hS hE H K hK0
    have e0 : A.tmps[0]?.getD undef = .int .i64 (s : Int) := hN (0, .int .i64 (s : Int)) (by simp)
    replace H : Sp w0 (rest) wx := H
    have hK : Hid (∀ (v : Value) (w' : World), v = .int .i64 (s : Int) → Sp w0 (rest) w' → K (A.put (some 25) v) w') := Lib.hid hK0
    clear hK0 hN hS hE
    change Oper.wp _ _ A wx K _
    go_step
    exact hK.out _ _ rfl (H)
   ·intro x wx A rest hN hS hE H K hK0
    have e24 : A.tmps[24]?.getD undef = .slice (some ay) nd cb := ((hS 5 (by decide)).2 24 rfl).trans (hS 5 (by decide)).1
    have e25 : A.tmps[25]?.getD undef = .int .i64 (s : Int) := ((hS 6 (by decide)).2 25 rfl).trans (hS 6 (by decide)).1
    replace H : Sp w0 (rest) wx := H
    have hK : Hid (∀ (v : Value) (w' : World), v = .pointer (some (ay.add s)) → Sp w0 (rest) w' → K (A.put (some 26) v) w') := Lib.hid hK0
    clear hK0 hN hS hE
    change Oper.wp _ _ A wx K _
    go_step
    exact hK.out _ _ rfl (H)
   ·intro x wx A rest hN hS hE H K hK0
    have e26 : A.tmps[26]?.getD undef = .pointer (some (ay.add s)) := ((hS 7 (by decide)).2 26 rfl).trans (hS 7 (by decide)).1
    replace H : Sp w0 (rest) wx := H
    have hK : Hid (∀ (v : Value) (w' : World), v = .int .i64 (lnv : Int) → Sp w0 (rest) w' → K (A.put (some 27) v) w') := Lib.hid hK0
    clear hK0 hN hS
    have ctb := hE _ HLE.out _ _ H
    change Oper.wp _ _ A wx K _
    go_step
    exact hK.out _ _ rfl (H)
   ·intro x wx A rest hN hS hE H K hK0
    have e19 : A.tmps[19]?.getD undef = .pointer (some ⟨gp, 0, none⟩) := ((hS 0 (by decide)).2 19 rfl).trans (hS 0 (by decide)).1
    have e23 : A.tmps[23]?.getD undef = .int .u32 (cdv : Int) := ((hS 4 (by decide)).2 23 rfl).trans (hS 4 (by decide)).1
    have e27 : A.tmps[27]?.getD undef = .int .i64 (lnv : Int) := ((hS 8 (by decide)).2 27 rfl).trans (hS 8 (by decide)).1
    replace H : Sp w0 ((Pen gp l1) :: rest) wx := H
    have hK : Hid (∀ (v : Value) (w' : World), v = .tuple #[] → Sp w0 ((Pen gp (l1 ++ PH.bitsC lnv cdv)) :: rest) w' → K (A.put (some 28) v) w') := Lib.hid hK0
    clear hK0 hN hS hE
    change Oper.wp _ _ A wx K _
    go_wp2_with fail
    refine (pcode_ok gp cdv lnv l1 H HCV.out (by omega) (by omega)).mono ?_
    rintro _ w9 ⟨rfl, H9⟩
    exact hK.out _ _ rfl H9
  case hend =>
   intro x wx A hA hS H
   replace H : Sp w0 ((Pen gp (l1 ++ PH.bitsC lnv cdv)) :: (Bk g11 102 (sgC (s, v, b)) :: X :: Bk pr 64 [.slice (some al) n cr] :: Bk pi 3 [.int .i64 ((k + 1 : Nat) : Int)] :: Bk pp 58 [.pointer (some ⟨gp, 0, none⟩)] :: Bk pd 107 [.slice (some ax) nd cd] :: Bk pb 67 [.slice (some ay) nd cb] :: Bk pc 107 [.slice VC nm cc] :: Bk pa 67 [.slice VA nm ca] :: L)) wx := H
   clear hS
   simp only [putAll, Act.put, List.setIfInBounds_toArray, List.set_cons_succ, List.set_cons_zero, Nat.reduceAdd] at hA
   subst hA
   have HZ := Lib.hid H
   clear H HX
   have c4 : wx.cell? ⟨pp, 0, none⟩ = some (.pointer (some ⟨gp, 0, none⟩)) := HZ.out.cell 5 rfl 0
   have c5 : wx.cell? ⟨g11, 1, none⟩ = some (.int .i64 (v : Int)) := HZ.out.cell 1 rfl 1
   have c6 : wx.cell? ⟨g11, 2, none⟩ = some (.int .i64 (b : Int)) := HZ.out.cell 1 rfl 2
   have HNU := Lib.hid (pnum_ok gp v b _ HZ.out (by omega) (by rw [List.length_append, PH.bitsC_len]; omega))
   go_wp2_with fail
   refine HNU.out.mono ?_
   rintro _ w9 ⟨rfl, H9⟩
   go_wp2_with fail
   go_end0
   have e : PI.sgW m d (s, v, b) true = PH.bitsC lnv cdv ++ PBits.bitsOf v b := by
    rw [← HCD.out, ← HLN.out]; rfl
   rw [e, ← List.append_assoc]
   exact ⟨rfl, H9.pick 10 [2, 3, 4, 5, 6, 7, 8, 9, 0]⟩
 | false =>
  have hs := hs1 rfl
  obtain ⟨cdv, hcdv⟩ : ∃ x, PH.codeAt m s = x := ⟨_, rfl⟩
  obtain ⟨lnv, hlnv⟩ : ∃ x, m.getD s 0 = x := ⟨_, rfl⟩
  have hsn : s < nm := by omega
  have q2 : (s : Int) < (nm : Int) := by omega
  have hcl : cdv < 4294967296 := by rw [← hcdv]; exact codeAt_u32 m HM15.out HMS.out s
  have hll : lnv ≤ 15 := by
   rw [← hlnv, List.getD_eq_getElem?_getD, List.getElem?_eq_getElem (by rw [← HNM.out]; exact hsn)]
   exact HM15.out _ (List.getElem_mem _)
  have HCV := Lib.hid hcl
  have gc : (rowU (PH.codeAt m) nm)[s]? = some (.int .u32 (cdv : Int)) := by rw [rowU_get _ _ _ hsn, hcdv]
  have gl : (cellsN m)[s]? = some (.int .i64 (lnv : Int)) := by
   have : s < m.length := by rw [← HNM.out]; exact hsn
   rw [← hlnv]; simp [cellsN, List.getD_eq_getElem?_getD, this]
  obtain ⟨ax, rfl, _⟩ := HVC.out _ _ (HX.out.pick 10 []) (fun h0 => by rw [h0] at gc; cases gc)
  obtain ⟨ay, rfl, _⟩ := HVA.out _ _ (HX.out.pick 10 []) (fun h0 => by rw [h0] at gl; cases gl)
  have HCE : Hid (Ent (Bk g11 102 (sgC (s, v, b)) :: X :: Bk pr 64 [.slice (some al) n cr] :: Bk pi 3 [.int .i64 ((k + 1 : Nat) : Int)] :: Bk pp 58 [.pointer (some ⟨gp, 0, none⟩)] :: Bk pd 107 [.slice VD nd cd] :: Bk pb 67 [.slice VB nd cb] :: Bk pc 107 [.slice (some ax) nm cc] :: Bk pa 67 [.slice (some ay) nm ca] :: L) fun w => w.cell? (ax.add s) = some (.int .u32 (cdv : Int))) := Lib.hid fun w0 w h => by
   obtain ⟨a9, e9, hc9⟩ := HVC.out _ _ (h.pick 9 []) (fun h0 => by rw [h0] at gc; cases gc)
   injection e9 with e9
   subst e9
   exact hc9 _ _ gc
  have HLE : Hid (Ent (Bk g11 102 (sgC (s, v, b)) :: X :: Bk pr 64 [.slice (some al) n cr] :: Bk pi 3 [.int .i64 ((k + 1 : Nat) : Int)] :: Bk pp 58 [.pointer (some ⟨gp, 0, none⟩)] :: Bk pd 107 [.slice VD nd cd] :: Bk pb 67 [.slice VB nd cb] :: Bk pc 107 [.slice (some ax) nm cc] :: Bk pa 67 [.slice (some ay) nm ca] :: L) fun w => w.cell? (ay.add s) = some (.int .i64 (lnv : Int))) := Lib.hid fun w0 w h => by
   obtain ⟨a9, e9, hc9⟩ := HVA.out _ _ (h.pick 9 []) (fun h0 => by rw [h0] at gl; cases gl)
   injection e9 with e9
   subst e9
   exact hc9 _ _ gl
  have HCD := Lib.hid hcdv
  have HLN := Lib.hid hlnv
  clear hcdv hlnv hcl gc gl
  go_wp2_with fail
  refine wp_region_sp (L := (Bk g11 102 (sgC (s, v, b)) :: X :: Bk pr 64 [.slice (some al) n cr] :: Bk pi 3 [.int .i64 ((k + 1 : Nat) : Int)] :: Bk pp 58 [.pointer (some ⟨gp, 0, none⟩)] :: Bk pd 107 [.slice VD nd cd] :: Bk pb 67 [.slice VB nd cb] :: Bk pc 107 [.slice (some ax) nm cc] :: Bk pa 67 [.slice (some ay) nm ca] :: L)) (fun ix vx => ([(· = .pointer (some ⟨gp, 0, none⟩)), (· = .slice (some ax) nm cc), (· = .int .i64 (s : Int)), (· = .pointer (some (ax.add s))), (· = .int .u32 (cdv : Int)), (· = .slice (some ay) nm ca), (· = .int .i64 (s : Int)), (· = .pointer (some (ay.add s))), (· = .int .i64 (lnv : Int)), (· = .tuple #[])] : List (Value → Prop)).getD ix (fun _ => True) vx)
   (fun ix vx => ([fun _ => [], fun _ => [], fun _ => [], fun _ => [], fun _ => [], fun _ => [], fun _ => [], fun _ => [], fun _ => [], fun _ => [Pen gp (l1 ++ PH.bitsC lnv cdv)]] : List (Value → List Pr)).getD ix (fun _ => []) vx) (fun ix => ([[], [], [], [], [], [], [], [], [], [Pen gp l1]] : List (List Pr)).getD ix []) 10 45
   [some 29, some 30, some 31, some 32, some 33, some 34, some 35, some 36, some 37, some 38]
   [[], [], [], [1, 2], [3], [], [], [5, 6], [7], [0, 4, 8]]
   [[], [], [], [1, 2], [1, 2, 3], [], [], [5, 6], [5, 6, 7], [0, 1, 2, 3, 4, 5, 6, 7, 8]]
   [[], [], [], [], [], [], [], [], [], []]
   [[], [], [], [], [], [], [], [], [], []]
   [(0, .int .i64 (s : Int)), (4, .pointer (some ⟨pp, 0, none⟩)), (7, .pointer (some ⟨pc, 0, none⟩)), (8, .pointer (some ⟨pa, 0, none⟩))]
   (by kernel_rfl) rfl (by decide) (by rfl) rfl (by decide +kernel) (by decide +kernel) (by rfl) rfl rfl (by decide) (by simp) (by rfl) (HX.out) ?hstep ?hend
  case hstep =>
   refine ⟨?_, ⟨?_, ⟨?_, ⟨?_, ⟨?_, ⟨?_, ⟨?_, ⟨?_, ⟨?_, ⟨?_, trivial⟩⟩⟩⟩⟩⟩⟩⟩⟩⟩
   ·intro x wx A rest hN hS hE H K hK0
    have e4 : A.tmps[4]?.getD undef = .pointer (some ⟨pp, 0, none⟩) := hN (4, .pointer (some ⟨pp, 0, none⟩)) (by simp)
    replace H : Sp w0 (rest) wx := H
    have hK : Hid (∀ (v : Value) (w' : World), v = .pointer (some ⟨gp, 0, none⟩) → Sp w0 (rest) w' → K (A.put (some 29) v) w') := Lib.hid hK0
    clear hK0 hN hS
    have ctb := hE (fun w => w.cell? ⟨pp, 0, none⟩ = some (.pointer (some ⟨gp, 0, none⟩))) (fun w0 w h => h.cell 4 rfl 0) _ _ H
    change Oper.wp _ _ A wx K _
    go_step
    exact hK.out _ _ rfl (H)
   ·intro x wx A rest hN hS hE H K hK0
    have e7 : A.tmps[7]?.getD undef = .pointer (some ⟨pc, 0, none⟩) := hN (7, .pointer (some ⟨pc, 0, none⟩)) (by simp)
    replace H : Sp w0 (rest) wx := H
    have hK : Hid (∀ (v : Value) (w' : World), v = .slice (some ax) nm cc → Sp w0 (rest) w' → K (A.put (some 30) v) w') := Lib.hid hK0
    clear hK0 hN hS
    have ctb := hE (fun w => w.cell? ⟨pc, 0, none⟩ = some (.slice (some ax) nm cc)) (fun w0 w h => h.cell 7 rfl 0) _ _ H
    change Oper.wp _ _ A wx K _
    go_step
    exact hK.out _ _ rfl (H)
   ·intro x wx A rest hN hS hE H K hK0
    have e0 : A.tmps[0]?.getD undef = .int .i64 (s : Int) := hN (0, .int .i64 (s : Int)) (by simp)
    replace H : Sp w0 (rest) wx := H
    have hK : Hid (∀ (v : Value) (w' : World), v = .int .i64 (s : Int) → Sp w0 (rest) w' → K (A.put (some 31) v) w') := Lib.hid hK0
    clear hK0 hN hS hE
    change Oper.wp _ _ A wx K _
    go_step
    exact hK.out _ _ rfl (H)
   ·intro x wx A rest hN hS hE H K hK0
    have e30 : A.tmps[30]?.getD undef = .slice (some ax) nm cc := ((hS 1 (by decide)).2 30 rfl).trans (hS 1 (by decide)).1
    have e31 : A.tmps[31]?.getD undef = .int .i64 (s : Int) := ((hS 2 (by decide)).2 31 rfl).trans (hS 2 (by decide)).1
    replace H : Sp w0 (rest) wx := H
    have hK : Hid (∀ (v : Value) (w' : World), v = .pointer (some (ax.add s)) → Sp w0 (rest) w' → K (A.put (some 32) v) w') := Lib.hid hK0
    clear hK0 hN hS hE
    change Oper.wp _ _ A wx K _
    go_step
    exact hK.out _ _ rfl (H)
   ·intro x wx A rest hN hS hE H K hK0
    have e32 : A.tmps[32]?.getD undef = .pointer (some (ax.add s)) := ((hS 3 (by decide)).2 32 rfl).trans (hS 3 (by decide)).1
    replace H : Sp w0 (rest) wx := H
    have hK : Hid (∀ (v : Value) (w' : World), v = .int .u32 (cdv : Int) → Sp w0 (rest) w' → K (A.put (some 33) v) w') := Lib.hid hK0
    clear hK0 hN hS
    have ctb := hE _ HCE.out _ _ H
    change Oper.wp _ _ A wx K _
    go_step
    exact hK.out _ _ rfl (H)
   ·intro x wx A rest hN hS hE H K hK0
    have e8 : A.tmps[8]?.getD undef = .pointer (some ⟨pa, 0, none⟩) := hN (8, .pointer (some ⟨pa, 0, none⟩)) (by simp)
    replace H : Sp w0 (rest) wx := H
    have hK : Hid (∀ (v : Value) (w' : World), v = .slice (some ay) nm ca → Sp w0 (rest) w' → K (A.put (some 34) v) w') := Lib.hid hK0
    clear hK0 hN hS
    have ctb := hE (fun w => w.cell? ⟨pa, 0, none⟩ = some (.slice (some ay) nm ca)) (fun w0 w h => h.cell 8 rfl 0) _ _ H
    change Oper.wp _ _ A wx K _
    go_step
    exact hK.out _ _ rfl (H)
   ·intro x wx A rest hN hS hE H K hK0
    have e0 : A.tmps[0]?.getD undef = .int .i64 (s : Int) := hN (0, .int .i64 (s : Int)) (by simp)
    replace H : Sp w0 (rest) wx := H
    have hK : Hid (∀ (v : Value) (w' : World), v = .int .i64 (s : Int) → Sp w0 (rest) w' → K (A.put (some 35) v) w') := Lib.hid hK0
    clear hK0 hN hS hE
    change Oper.wp _ _ A wx K _
    go_step
    exact hK.out _ _ rfl (H)
   ·intro x wx A rest hN hS hE H K hK0
    have e34 : A.tmps[34]?.getD undef = .slice (some ay) nm ca := ((hS 5 (by decide)).2 34 rfl).trans (hS 5 (by decide)).1
    have e35 : A.tmps[35]?.getD undef = .int .i64 (s : Int) := ((hS 6 (by decide)).2 35 rfl).trans (hS 6 (by decide)).1
    replace H : Sp w0 (rest) wx := H
    have hK : Hid (∀ (v : Value) (w' : World), v = .pointer (some (ay.add s)) → Sp w0 (rest) w' → K (A.put (some 36) v) w') := Lib.hid hK0
    clear hK0 hN hS hE
    change Oper.wp _ _ A wx K _
    go_step
    exact hK.out _ _ rfl (H)
   ·intro x wx A rest hN hS hE H K hK0
    have e36 : A.tmps[36]?.getD undef = .pointer (some (ay.add s)) := ((hS 7 (by decide)).2 36 rfl).trans (hS 7 (by decide)).1
    replace H : Sp w0 (rest) wx := H
    have hK : Hid (∀ (v : Value) (w' : World), v = .int .i64 (lnv : Int) → Sp w0 (rest) w' → K (A.put (some 37) v) w') := Lib.hid hK0
    clear hK0 hN hS
    have ctb := hE _ HLE.out _ _ H
    change Oper.wp _ _ A wx K _
    go_step
    exact hK.out _ _ rfl (H)
   ·intro x wx A rest hN hS hE H K hK0
    have e29 : A.tmps[29]?.getD undef = .pointer (some ⟨gp, 0, none⟩) := ((hS 0 (by decide)).2 29 rfl).trans (hS 0 (by decide)).1
    have e33 : A.tmps[33]?.getD undef = .int .u32 (cdv : Int) := ((hS 4 (by decide)).2 33 rfl).trans (hS 4 (by decide)).1
    have e37 : A.tmps[37]?.getD undef = .int .i64 (lnv : Int) := ((hS 8 (by decide)).2 37 rfl).trans (hS 8 (by decide)).1
    replace H : Sp w0 ((Pen gp l1) :: rest) wx := H
    have hK : Hid (∀ (v : Value) (w' : World), v = .tuple #[] → Sp w0 ((Pen gp (l1 ++ PH.bitsC lnv cdv)) :: rest) w' → K (A.put (some 38) v) w') := Lib.hid hK0
    clear hK0 hN hS hE
    change Oper.wp _ _ A wx K _
    go_wp2_with fail
    refine (pcode_ok gp cdv lnv l1 H HCV.out (by omega) (by omega)).mono ?_
    rintro _ w9 ⟨rfl, H9⟩
    exact hK.out _ _ rfl H9
  case hend =>
   intro x wx A hA hS H
   replace H : Sp w0 ((Pen gp (l1 ++ PH.bitsC lnv cdv)) :: (Bk g11 102 (sgC (s, v, b)) :: X :: Bk pr 64 [.slice (some al) n cr] :: Bk pi 3 [.int .i64 ((k + 1 : Nat) : Int)] :: Bk pp 58 [.pointer (some ⟨gp, 0, none⟩)] :: Bk pd 107 [.slice VD nd cd] :: Bk pb 67 [.slice VB nd cb] :: Bk pc 107 [.slice (some ax) nm cc] :: Bk pa 67 [.slice (some ay) nm ca] :: L)) wx := H
   clear hS
   simp only [putAll, Act.put, List.setIfInBounds_toArray, List.set_cons_succ, List.set_cons_zero, Nat.reduceAdd] at hA
   subst hA
   have HZ := Lib.hid H
   clear H HX
   have c4 : wx.cell? ⟨pp, 0, none⟩ = some (.pointer (some ⟨gp, 0, none⟩)) := HZ.out.cell 5 rfl 0
   have c5 : wx.cell? ⟨g11, 1, none⟩ = some (.int .i64 (v : Int)) := HZ.out.cell 1 rfl 1
   have c6 : wx.cell? ⟨g11, 2, none⟩ = some (.int .i64 (b : Int)) := HZ.out.cell 1 rfl 2
   have HNU := Lib.hid (pnum_ok gp v b _ HZ.out (by omega) (by rw [List.length_append, PH.bitsC_len]; omega))
   go_wp2_with fail
   refine HNU.out.mono ?_
   rintro _ w9 ⟨rfl, H9⟩
   go_wp2_with fail
   go_end0
   have e : PI.sgW m d (s, v, b) false = PH.bitsC lnv cdv ++ PBits.bitsOf v b := by
    rw [← HCD.out, ← HLN.out]; rfl
   rw [e, ← List.append_assoc]
   exact ⟨rfl, H9.pick 10 [2, 3, 4, 5, 6, 7, 8, 9, 0]⟩
end Go.Proofs.YtiogaejfcenooaaDoor

