/- A pack of texts: InfZ. -/
import Derived.Deep.CutRange
import Derived.Test.YtiogaejfcenooaaDoorPk24
import Derived.Test.YtiogaejfcenooaaDoorPk31
namespace Go.Proofs.YtiogaejfcenooaaDoor
set_option linter.unusedVariables false
set_option linter.unusedSimpArgs false
open Go.RowKit
def WrMid (w0 : World) (L : List Pr) (lw : List PI.WPart) (s0 : Value) (wx : World) : Prop :=
 ∃ (A : Option Addr) (n c : Nat) (ps : List PartV) (X : Pr), s0 = .slice A n c ∧ n = ps.length ∧ 0 < n ∧ n ≤ c ∧ PI.partsW lw = (ps.map PartV.p).take 5 ∧ Sp w0 (X :: L) wx ∧ Ent (X :: L) (fun w => Rd w A (ps.flatMap PartV.cells) ∧ ∀ x ∈ ps, x.Ok w)
theorem rdPart {w : World} {A : Option Addr} {ps : List PartV} (h : Rd w A (ps.flatMap PartV.cells)) {i : Nat} (hi : i < ps.length) : ∃ ad, A = some ad ∧ ∀ j v, ((ps.getD i default).cells)[j]? = some v → w.cell? ((ad.add (i * 3)).add j) = some v := by
 obtain ⟨ad, e, hc⟩ := h (fun h0 => by
  have := congrArg List.length h0
  rw [flat_len PartV.cells 3 (fun _ => rfl)] at this
  simp at this
  omega)
 refine ⟨ad, e, fun j v hj => ?_⟩
 have hj3 : j < 3 := (List.getElem?_eq_some_iff.1 hj).1
 obtain ⟨p, h1, h2⟩ := flat_get PartV.cells 3 (fun _ => rfl) ps i j hj3 hi
 have e2 : p = ps.getD i default := by rw [List.getD_eq_getElem?_getD, h1]; rfl
 rw [Go.Addr.add_add]
 refine hc _ _ ?_
 rw [h2, e2]
 exact hj
def penAt (g : Nat) (w : World) : Nat := match w.cell? ⟨g, 1, none⟩ with
 | some (.int _ n) => n.toNat
 | _ => 0
theorem penAt_of {w0 w : World} {L : List Pr} {g : Nat} {l : List Bool} (H : Sp w0 (Pen g l :: L) w) : penAt g w = l.length ∧ w.cell? ⟨g, 1, none⟩ = some (.int .i64 (l.length : Int)) := by
 obtain ⟨v, H⟩ := pen_open H
 have c : w.cell? ⟨g, 1, none⟩ = some (.int .i64 (l.length : Int)) := H.cell 0 rfl 1
 exact ⟨by unfold penAt; rw [c]; rfl, c⟩
theorem pen_nil {w0 w : World} {L : List Pr} {g : Nat} (H : Sp w0 (Bk g 60 [.slice none 0 0, .int .i64 0] :: L) w) : Sp w0 (Pen g [] :: L) w :=
 pen_shut (v := .slice none 0 0) ((H.rowNil 5 1).swap)
theorem PI.kcount (l : List PI.Sg) : ∀ k, (PI.farK l k).length ≤ k ∧ (PI.symK l k).length ≤ k := by
 intro k
 induction k with
 | zero => exact ⟨Nat.le_refl _, Nat.le_refl _⟩
 | succ k ih =>
  unfold PI.farK PI.symK
  rw [List.length_append, List.length_append]
  constructor
  ·split <;> simp <;> omega
  ·split <;> simp <;> omega
theorem PI.cnts_le (n : Nat) (l : List Nat) : ∀ x ∈ PI.cnts n l, x ≤ l.length := fun x hx => by
 obtain ⟨q, hq, rfl⟩ := List.mem_map.1 hx
 exact List.count_le_length
theorem PI.cnts_nil (n : Nat) : List.replicate n (Value.int .i64 0) = cellsN (PI.cnts n []) := by
 refine List.ext_getElem (by simp [cellsN, PI.cnts]) fun j h1 h2 => ?_
 simp [cellsN, PI.cnts]
theorem cloA_step (g13 g14 k n : Nat) (va vb : Value) (l : List PI.Sg) {X : Pr} {w0 w : World} {L : List Pr} (H : Sp w0 (X :: Bk g14 67 [vb] :: Bk g13 67 [va] :: Row 3 1 vb 30 (cellsN (PI.cnts 30 (PI.farK l k))) :: Row 3 1 va 286 (cellsN (PI.cnts 286 (PI.symK l k))) :: L) w) (hk : k < l.length) (hl : l.length ≤ 1000) (hs : PI.SgOk l) :
  Calls Tryd.prog 27 #[.int .i64 ((l.getD k (0, 0, 0)).1 : Int), .bool (PI.farAt l k), .pointer (some ⟨g14, 0, none⟩), .pointer (some ⟨g13, 0, none⟩)] w fun e w' => e = .returned (.tuple #[]) ∧
   Sp w0 (X :: Bk g14 67 [vb] :: Bk g13 67 [va] :: Row 3 1 vb 30 (cellsN (PI.cnts 30 (PI.farK l (k + 1)))) :: Row 3 1 va 286 (cellsN (PI.cnts 286 (PI.symK l (k + 1)))) :: L) w' := by
 have hsk := (hs k hk).1
 have hc := PI.kcount l k
 have h9 := cloA_ok g13 g14 (l.getD k (0, 0, 0)).1 va vb _ _ (PI.farAt l k) H (PI.cnts_len _ _) (PI.cnts_len _ _) hsk (fun x hx => by have := PI.cnts_le _ _ x hx; omega) (fun x hx => by have := PI.cnts_le _ _ x hx; omega)
 have e1 : (if PI.farAt l k then (PI.cnts 30 (PI.farK l k)).set (l.getD k (0, 0, 0)).1 ((PI.cnts 30 (PI.farK l k)).getD (l.getD k (0, 0, 0)).1 0 + 1) else PI.cnts 30 (PI.farK l k)) = PI.cnts 30 (PI.farK l (k + 1)) := by
  show _ = PI.cnts 30 (PI.farK l k ++ if PI.farAt l k then [(l.getD k (0, 0, 0)).1] else [])
  cases hf : PI.farAt l k with
  | true => rw [if_pos rfl, if_pos rfl, PI.cnts_snoc 30 _ _ (hsk.2 hf)]
  | false => rw [if_neg (by decide), if_neg (by decide), List.append_nil]
 have e2 : (if PI.farAt l k then PI.cnts 286 (PI.symK l k) else (PI.cnts 286 (PI.symK l k)).set (l.getD k (0, 0, 0)).1 ((PI.cnts 286 (PI.symK l k)).getD (l.getD k (0, 0, 0)).1 0 + 1)) = PI.cnts 286 (PI.symK l (k + 1)) := by
  show _ = PI.cnts 286 (PI.symK l k ++ if PI.farAt l k then [] else [(l.getD k (0, 0, 0)).1])
  cases hf : PI.farAt l k with
  | true => rw [if_pos rfl, if_pos rfl, List.append_nil]
  | false => rw [if_neg (by decide), if_neg (by decide), PI.cnts_snoc 286 _ _ (hsk.1 hf)]
 rw [e1, e2] at h9
 exact h9
set_option maxRecDepth 100000 in
set_option maxHeartbeats 32000000 in
theorem pwritten_ok (A : Option Addr) (n c : Nat) (ps : List PartV) {w0 w : World} {L : List Pr} (H : Sp w0 L w) (hn : n = ps.length) (hc : n ≤ c) (hcm : c ≤ maxLen) (hrd : Ent L fun w => Rd w A (ps.flatMap PartV.cells) ∧ ∀ x ∈ ps, x.Ok w) :
  Calls Tryd.prog 10 #[.slice A n c] w fun e w' => ∃ v1 v2, e = .returned (.tuple #[v1, v2]) ∧
   Sp w0 (Row 5 1 v1 (PI.packB (PI.bitsW (ps.map PartV.p))).length (cells8 (PI.packB (PI.bitsW (ps.map PartV.p)))) :: Row 5 1 v2 (PI.outW (ps.map PartV.p)).length (cells8 (PI.outW (ps.map PartV.p))) :: L) w' := by
 obtain ⟨i0, hi, hz0, hz1, hz2⟩ := info_parts infoJ
 obtain ⟨i8, hj, hj0, hj1, hj2⟩ := info_parts info8
 obtain ⟨lw, hlw⟩ : ∃ lw, ps.map PartV.p = lw := ⟨_, rfl⟩
 rw [hlw]
 have HLW := Lib.hid hlw
 have HRD := Lib.hid hrd
 have HN := Lib.hid hn
 have hcm2 : c ≤ 9223372036854775807 := hcm
 clear hrd hlw hn hcm
 go_enter Tryd.func10, Tryd.ntmps10
 go_upto_if 17 with (fail)
 go_cut [0] from 18 to 144 (fun s0 wx => WrMid w0 L lw s0 wx)
 case first =>
  by_cases h0 : n = 0
  ·subst h0
   have H1 := H.newBk [.int .u8 0, .slice none 0 0, .slice none 0 0] 42
   have HX := Lib.hid H1
   clear H1 H
   go_wp2_with fail
   go_meet
   refine ⟨_, 1, 1, [⟨⟨0, [], []⟩, .slice none 0 0, .slice none 0 0⟩], Bk w.heap.size 42 [.int .u8 0, .slice none 0 0, .slice none 0 0], rfl, rfl, by omega, by omega, ?_, HX.out, ?_⟩
   ·have : lw = [] := by
     rw [← HLW.out, List.eq_nil_of_length_eq_zero HN.out.symm]; rfl
    rw [this]; rfl
   ·intro w0 w h
    refine ⟨Rd.of_blk (h.blk 0 rfl), fun x hx => ?_⟩
    rw [List.mem_singleton.1 hx]
    exact ⟨by decide, Byt.nil _, ⟨none, 0, rfl, Rd.nil, Nat.le_refl _, by simp [maxLen]⟩, fun c hc => by cases hc⟩
  ·have k1 : ((n : Int) == 0) = false := by rw [beq_eq_false_iff_ne]; omega
   have HX := Lib.hid (H.rowNil 5 1)
   clear H
   go_wp2_with fail
   go_meet
   refine ⟨A, n, c, ps, Row 5 1 (.slice none 0 0) 0 [], rfl, HN.out, by omega, hc, ?_, HX.out, fun w0 w h => HRD.out w0 w h.tail⟩
   rw [← HLW.out]
   unfold PI.partsW
   rw [if_neg (by rw [List.length_map, ← HN.out]; exact h0)]
 case rest =>
  clear HLW HRD HN H hc hcm2
  unfold WrMid at hcut
  obtain ⟨A, n, c, ps, X, rfl, hn, hn0, hc, hpw, H, hrd⟩ := hcut
  obtain ⟨lp, hlp⟩ : ∃ lp, (ps.map PartV.p).take 5 = lp := ⟨_, rfl⟩
  rw [hlp] at hpw
  obtain ⟨nk, hnk⟩ : ∃ nk, min n 5 = nk := ⟨_, rfl⟩
  have hlpl : lp.length = nk := by rw [← hlp, List.length_take, List.length_map, ← hn]; omega
  have hget : ∀ i, i < nk → lp.getD i ⟨0, [], []⟩ = (ps.getD i default).p := fun i hi => by
   rw [← hlp, List.getD_eq_getElem?_getD, List.getD_eq_getElem?_getD, List.getElem?_take_of_lt (by omega), List.getElem?_map, List.getElem?_eq_getElem (by omega)]; rfl
  have hb : PI.bitsW lw = (PI.stW lp nk).1 := by unfold PI.bitsW; rw [hpw, hlpl]
  have ho : PI.outW lw = (PI.stW lp nk).2 := by unfold PI.outW; rw [hpw, hlpl]
  have HB := Lib.hid hb
  have HO := Lib.hid ho
  have HGET := Lib.hid hget
  have HLPL := Lib.hid hlpl
  have HRD := Lib.hid hrd
  have HNP := Lib.hid hn
  have y1 : min (n : Int) 5 = (nk : Int) := by omega
  have hnk5 : nk ≤ 5 ∧ 0 < nk ∧ nk ≤ n ∧ nk ≤ c := by omega
  have hnkc : nk ≤ c := hnk5.2.2.2
  have ync : (nk : Int) ≤ (c : Int) := by omega
  clear hlp hlpl hget hb ho hrd hn hnk hpw
  go_wp2_with fail
  have H2 := pen_nil (H.newBk [.slice none 0 0, .int .i64 0] 60)
  obtain ⟨g4, hg4⟩ : ∃ g4, wc.heap.size = g4 := ⟨_, rfl⟩
  rw [hg4] at H2 ⊢
  have HX := Lib.hid ((H2.rowNil 5 1).pick 3 [1, 0, 2])
  clear hg4 H H2
  generalize World.alloc _ _ = w1 at HX ⊢
  go_loopw [5, 29] (fun ov iv wr => ∃ i : Nat, iv = .int .i64 (i : Int) ∧ i ≤ nk ∧ Sp w0 (Pen g4 (PI.stW lp i).1 :: Row 5 1 ov (PI.stW lp i).2.length (cells8 (PI.stW lp i).2) :: X :: L) wr) (fun _ iv _ => nk - (intOf iv).toNat)
  case atStart => exact ⟨0, rfl, Nat.zero_le _, HX.out⟩
  case round =>
   obtain ⟨i, rfl, hink, H3⟩ := hrel
   clear HX
   by_cases hlt : i < nk
   ·have k1 : (i : Int) < (nk : Int) := by omega
    have hip : i < ps.length := by rw [← HNP.out]; omega
    obtain ⟨ax, rfl, hrd⟩ := rdPart (HRD.out _ _ (H3.pick 2 [])).1 hip
    have hok : Ent (X :: L) fun w => (ps.getD i default).Ok w := fun w0 w h => (HRD.out w0 w h).2 _ (by rw [List.getD_eq_getElem?_getD, List.getElem?_eq_getElem hip]; exact List.getElem_mem hip)
    have hgx := HGET.out i hlt
    obtain ⟨x, hx⟩ : ∃ x, ps.getD i default = x := ⟨_, rfl⟩
    rw [hx] at hrd hok hgx
    obtain ⟨kb, ⟨Bq, bc, hbv, hbr, hbl, hbm⟩, ⟨Cq, cc, hcv, hcr, hcl, hcm⟩, hcs⟩ := hok _ _ (H3.pick 2 [])
    obtain ⟨⟨kd0, bs, cs⟩, bv, cv⟩ := x
    simp only at kb hbv hbl hcv hcl hgx hbr hcr
    subst hbv hcv
    have hst := PI.stW_most lp i
    obtain ⟨B, hB⟩ : ∃ B, (PI.stW lp i).1 = B := ⟨_, rfl⟩
    obtain ⟨O, hO⟩ : ∃ O, (PI.stW lp i).2 = O := ⟨_, rfl⟩
    obtain ⟨lb, hlb⟩ : ∃ lb, decide (i + 1 = nk) = lb := ⟨_, rfl⟩
    have hn1 : (PI.stW lp (i + 1)).1 = B ++ PI.partW ⟨kd0, bs, cs⟩ lb B.length O := by rw [PI.stW, hgx, HLPL.out, hlb, hB, hO]
    have hn2 : (PI.stW lp (i + 1)).2 = PI.partO ⟨kd0, bs, cs⟩ O := by rw [PI.stW, hgx, hO]
    rw [hB, hO] at H3 hst
    have HN1 := Lib.hid hn1
    have HN2 := Lib.hid hn2
    have HLB := Lib.hid hlb
    have HOK := Lib.hid hok
    have HRX := Lib.hid hrd
    have hBl : B.length ≤ 50000 := by omega
    have hOl : O.length ≤ 120000 := by omega
    have hnb := H3.newBk [.int .u8 0, .slice none 0 0, .slice none 0 0] 42
    have HNB := Lib.hid hnb
    obtain ⟨bn, hbn⟩ : ∃ bn, bs.length = bn := ⟨_, rfl⟩
    obtain ⟨cn, hcn⟩ : ∃ cn, cs.length = cn := ⟨_, rfl⟩
    have hbnc : bn ≤ bc := by omega
    have HCEL : Hid ((⟨⟨kd0, bs, cs⟩, .slice Bq bs.length bc, .slice Cq cs.length cc⟩ : PartV).cells = [.int .u8 (kd0 : Int), .slice Bq bn bc, .slice Cq cn cc]) := by rw [hbn, hcn]; exact Lib.hid rfl
    rw [HCEL.out] at HRX
    have HBN := Lib.hid hbn
    have HCN := Lib.hid hcn
    clear hrd hok hgx hx hB hO hn1 hn2 hlb hnb hst H3 hip hbr hcr hcs hbl hcl hbn hcn
    go_wp2_with (first | (refine wpList_load_agg rfl 42 _ rfl (ax.add (i * 3)) [.int .u8 (kd0 : Int), .slice Bq bn bc, .slice Cq cn cc] rfl HRX.out Tryd.isAgg42 Tryd.sizeOf42 ?_) | (refine wpList_store_whole rfl 42 _ _ rfl wr.heap.size 42 [.int .u8 0, .slice none 0 0, .slice none 0 0] [.int .u8 (kd0 : Int), .slice Bq bn bc, .slice Cq cn cc] rfl rfl HNB.out rfl Tryd.sizeOf42 (by intro u hu; simp only [List.mem_cons, List.mem_nil_iff, or_false] at hu; rcases hu with rfl | rfl | rfl <;> rfl) ?_))
    intro w8 H8
    generalize wr.heap.size = g7 at H8 ⊢
    clear HNB HRX
    go_wp2_with fail
    refine (pnum_ok g4 0 1 B (H8.pick 2 [1, 0]) (by omega) (by omega)).mono ?_
    rintro _ w9 ⟨rfl, H9⟩
    obtain ⟨nk1, hnk1⟩ : ∃ q, nk - 1 = q := ⟨_, rfl⟩
    have y3 : (nk : Int) - 1 = (nk1 : Int) := by omega
    have HNK1 := Lib.hid hnk1
    clear H8 hnk1
    go_upto_if 40 with (fail)
    go_cut [] from 41 to 138 (fun wx => Sp w0 (Pen g4 (B ++ [lb]) :: Bk g7 42 [.int .u8 (kd0 : Int), .slice Bq bn bc, .slice Cq cn cc] :: Row 5 1 u5 O.length (cells8 O) :: X :: L) wx)
    case first =>
     by_cases he : i + 1 = nk
     ·have kx : ((i : Int) == (nk1 : Int)) = true := by
       have : i = nk1 := by have := HNK1.out; omega
       rw [this]; simp
      have hl9 : lb = true := by rw [← HLB.out]; simpa using he
      obtain ⟨v9, H10⟩ := pen_open H9
      obtain ⟨VA, vc, rfl, hnc, hvm⟩ := Row.form H10 1 rfl
      have hbf : B ++ PBits.bitsOf 0 1 = B ++ [false] := rfl
      obtain ⟨N, hN⟩ : ∃ N, B.length = N := ⟨_, rfl⟩
      obtain ⟨M, hM⟩ : ∃ M, N + 1 = M := ⟨_, rfl⟩
      obtain ⟨q, hq⟩ : ∃ q, N / 8 = q := ⟨_, rfl⟩
      obtain ⟨r, hr⟩ : ∃ r, N % 8 = r := ⟨_, rfl⟩
      obtain ⟨tp, htp⟩ : ∃ tp, PI.topB B = tp := ⟨_, rfl⟩
      obtain ⟨pw, hpw⟩ : ∃ pw : Nat, 2 ^ r = pw := ⟨_, rfl⟩
      have hpl0 : (PI.packB (B ++ [false])).length = q + 1 := by rw [PI.packB_len, List.length_append, List.length_singleton]; omega
      have hpl1 : (PI.packB (B ++ [true])).length = q + 1 := by rw [PI.packB_len, List.length_append, List.length_singleton]; omega
      have hlm0 : (B ++ [false]).length = M := by rw [List.length_append, List.length_singleton]; omega
      have hlm1 : (B ++ [true]).length = M := by rw [List.length_append, List.length_singleton]; omega
      rw [hbf] at H10
      unfold PenB PenR at H10
      rw [hpl0, hlm0] at H10
      obtain ⟨cs9, hcs9⟩ : ∃ cs9, cells8 (PI.packB (B ++ [false])) = cs9 := ⟨_, rfl⟩
      rw [hcs9] at H10
      have htb : tp < pw := by
       have := PI.topB_lt B
       rw [htp, hN, hr, hpw] at this
       exact this
      have hp8 : pw ≤ 128 := by
       have := PI.pow8_le B.length
       rw [hN, hr, hpw] at this
       exact this
      have hget : cs9[q]? = some (.int .u8 (tp : Int)) := by
       rw [← hcs9, cells8_get _ _ (by rw [hpl0]; omega), PI.pack_one, ← hq, ← hN, PI.room_get, htp, UInt8.toNat_ofNat', Nat.mod_eq_of_lt (by omega)]
      have hset : cs9.set q (.int .u8 ((tp + pw : Nat) : Int)) = cells8 (PI.packB (B ++ [true])) := by
       rw [← hcs9, ← PI.last_set B, htp, hN, hr, hpw, hq]
       simp only [cells8, List.map_set]
       have : (UInt8.ofNat (tp + pw)).toNat = tp + pw := by rw [UInt8.toNat_ofNat']; omega
       rw [this]
      have hor : bits .or .u8 (tp : Int) (pw : Int) = ((tp + pw : Nat) : Int) := by
       have := or_u8 r (by omega) tp (by rw [hpw]; exact htb) 1 (by omega)
       rw [hpw, Nat.one_mul] at this
       exact this
      have hpwI : (2 : Int) ^ r = (pw : Int) := by rw [← hpw]; simp
      have z0 : (M : Int) - 1 = (N : Int) := by omega
      have z1 : (N : Int) / 8 = (q : Int) := by omega
      have z2 : (N : Int) % 8 = (r : Int) := by omega
      have hr8 : r < 8 := by omega
      have hqN : q ≤ N := by omega
      have kq : (q : Int) < (q : Int) + 1 := by omega
      have hNb : N ≤ 50000 := by omega
      obtain ⟨ad, rfl⟩ : ∃ ad, VA = some ad := by
       obtain ⟨ad, c9, e9, _⟩ := Sp.rowSet (H10.pick 2 [1, 0]) (i := q) (by omega)
       injection e9 with e9
       exact ⟨ad, e9⟩
      have HGT := Lib.hid hget
      have HSET := Lib.hid hset
      have HOR := Lib.hid hor
      have HPW := Lib.hid hpwI
      have HPL := Lib.hid hpl1
      have HLM := Lib.hid hlm1
      have HX := Lib.hid (H10.pick 2 [1, 0])
      clear hget hset hor hpwI hpl0 hpl1 hlm0 hlm1 H10 H9 hcs9 hbf hN hq hr hpw htp he hM hnc
      go_wp2_with fail
      refine wp_region_sp (L := (Bk g7 42 [.int .u8 (kd0 : Int), .slice Bq bn bc, .slice Cq cn cc] :: Row 5 1 u5 O.length (cells8 O) :: X :: L)) (fun ix vx => ([(· = .pointer (some ⟨g4, 0, none⟩)), (· = .pointer (some ⟨g4, 0, none⟩)), (· = .pointer (some ⟨g4, 0, none⟩)), (· = .slice (some ad) (q + 1) vc), (· = .pointer (some ⟨g4, 0, none⟩)), (· = .pointer (some ⟨g4, 0, none⟩)), (· = .pointer (some ⟨g4, 1, none⟩)), (· = .int .i64 (M : Int)), (· = .int .i64 (N : Int)), (· = .int .i64 (q : Int)), (· = .pointer (some (ad.add q))), (· = .int .u8 (tp : Int)), (· = .pointer (some ⟨g4, 0, none⟩)), (· = .pointer (some ⟨g4, 0, none⟩)), (· = .pointer (some ⟨g4, 1, none⟩)), (· = .int .i64 (M : Int)), (· = .int .i64 (N : Int)), (· = .int .i64 (r : Int)), (· = .int .u8 (pw : Int)), (· = .int .u8 ((tp + pw : Nat) : Int)), (· = .pointer (some (ad.add q))), (· = undef)] : List (Value → Prop)).getD ix (fun _ => True) vx)
       (fun ix vx => ([fun _ => [], fun _ => [], fun _ => [], fun _ => [], fun _ => [], fun _ => [], fun _ => [], fun _ => [], fun _ => [], fun _ => [], fun _ => [], fun _ => [], fun _ => [], fun _ => [], fun _ => [], fun _ => [], fun _ => [], fun _ => [], fun _ => [], fun _ => [], fun _ => [], fun _ => [Row 5 1 (.slice (some ad) (q + 1) vc) (q + 1) (cs9.set q (.int .u8 ((tp + pw : Nat) : Int))), Bk g4 60 [.slice (some ad) (q + 1) vc, .int .i64 (M : Int)]]] : List (Value → List Pr)).getD ix (fun _ => []) vx) (fun ix => ([[], [], [], [], [], [], [], [], [], [], [], [], [], [], [], [], [], [], [], [], [], [Row 5 1 (.slice (some ad) (q + 1) vc) (q + 1) cs9, Bk g4 60 [.slice (some ad) (q + 1) vc, .int .i64 (M : Int)]]] : List (List Pr)).getD ix []) 22 145
       [some 41, some 42, some 43, some 44, some 45, some 46, some 47, some 48, some 49, some 50, some 51, some 52, some 53, some 54, some 55, some 56, some 57, some 58, some 59, some 60, some 61, none]
       [[], [0], [1], [2], [], [4], [5], [6], [7], [8], [3, 9], [10], [], [12], [13], [14], [15], [16], [17], [11, 18], [3, 9, 0, 1, 2, 3, 4, 5, 6, 7, 8, 9, 10, 11, 12, 13, 14, 15, 16, 17, 18, 19], [20, 19, 0, 1, 2, 3, 4, 5, 6, 7, 8, 9, 10, 11, 12, 13, 14, 15, 16, 17, 18, 19]]
       [[], [0], [0, 1], [0, 1, 2], [], [4], [4, 5], [4, 5, 6], [4, 5, 6, 7], [4, 5, 6, 7, 8], [0, 1, 2, 3, 4, 5, 6, 7, 8, 9], [0, 1, 2, 3, 4, 5, 6, 7, 8, 9, 10], [], [12], [12, 13], [12, 13, 14], [12, 13, 14, 15], [12, 13, 14, 15, 16], [12, 13, 14, 15, 16, 17], [0, 1, 2, 3, 4, 5, 6, 7, 8, 9, 10, 11, 12, 13, 14, 15, 16, 17, 18], [0, 1, 2, 3, 4, 5, 6, 7, 8, 9, 10, 11, 12, 13, 14, 15, 16, 17, 18, 19], [0, 1, 2, 3, 4, 5, 6, 7, 8, 9, 10, 11, 12, 13, 14, 15, 16, 17, 18, 19, 20]]
       [[], [], [], [], [], [], [], [], [], [], [], [], [], [], [], [], [], [], [], [], [], []]
       [[], [], [], [21], [], [], [], [21], [], [], [], [21], [], [], [], [21], [], [], [], [], [], []]
       [(4, .pointer (some ⟨g4, 0, none⟩))]
       (by kernel_rfl) rfl (by decide) (by rfl) rfl (by decide +kernel) (by decide +kernel) (by rfl) rfl rfl (by decide) (by simp) (by rfl) (HX.out) ?hstep ?hend
      case hstep =>
       refine ⟨?_, ⟨?_, ⟨?_, ⟨?_, ⟨?_, ⟨?_, ⟨?_, ⟨?_, ⟨?_, ⟨?_, ⟨?_, ⟨?_, ⟨?_, ⟨?_, ⟨?_, ⟨?_, ⟨?_, ⟨?_, ⟨?_, ⟨?_, ⟨?_, ⟨?_, trivial⟩⟩⟩⟩⟩⟩⟩⟩⟩⟩⟩⟩⟩⟩⟩⟩⟩⟩⟩⟩⟩⟩
       ·intro x wx A rest hN hS hE H K hK0
        have e4 : A.tmps[4]?.getD undef = .pointer (some ⟨g4, 0, none⟩) := hN (4, .pointer (some ⟨g4, 0, none⟩)) (by simp)
        replace H : Sp w0 (rest) wx := H
        have hK : Hid (∀ (v : Value) (w' : World), v = .pointer (some ⟨g4, 0, none⟩) → Sp w0 (rest) w' → K (A.put (some 41) v) w') := Lib.hid hK0
        clear hK0 hN hS hE
        change Oper.wp _ _ A wx K _
        go_step
        exact hK.out _ _ rfl (H)
       ·intro x wx A rest hN hS hE H K hK0
        have e41 : A.tmps[41]?.getD undef = .pointer (some ⟨g4, 0, none⟩) := ((hS 0 (by decide)).2 41 rfl).trans (hS 0 (by decide)).1
        replace H : Sp w0 (rest) wx := H
        have hK : Hid (∀ (v : Value) (w' : World), v = .pointer (some ⟨g4, 0, none⟩) → Sp w0 (rest) w' → K (A.put (some 42) v) w') := Lib.hid hK0
        clear hK0 hN hS hE
        change Oper.wp _ _ A wx K _
        go_step
        exact hK.out _ _ rfl (H)
       ·intro x wx A rest hN hS hE H K hK0
        have e42 : A.tmps[42]?.getD undef = .pointer (some ⟨g4, 0, none⟩) := ((hS 1 (by decide)).2 42 rfl).trans (hS 1 (by decide)).1
        replace H : Sp w0 (rest) wx := H
        have hK : Hid (∀ (v : Value) (w' : World), v = .pointer (some ⟨g4, 0, none⟩) → Sp w0 (rest) w' → K (A.put (some 43) v) w') := Lib.hid hK0
        clear hK0 hN hS hE
        change Oper.wp _ _ A wx K _
        go_step
        exact hK.out _ _ rfl (H)
       ·intro x wx A rest hN hS hE H K hK0
        have e43 : A.tmps[43]?.getD undef = .pointer (some ⟨g4, 0, none⟩) := ((hS 2 (by decide)).2 43 rfl).trans (hS 2 (by decide)).1
        replace H : Sp w0 ((Row 5 1 (.slice (some ad) (q + 1) vc) (q + 1) cs9) :: (Bk g4 60 [.slice (some ad) (q + 1) vc, .int .i64 (M : Int)]) :: rest) wx := H
        have hK : Hid (∀ (v : Value) (w' : World), v = .slice (some ad) (q + 1) vc → Sp w0 ((Row 5 1 (.slice (some ad) (q + 1) vc) (q + 1) cs9) :: (Bk g4 60 [.slice (some ad) (q + 1) vc, .int .i64 (M : Int)]) :: rest) w' → K (A.put (some 44) v) w') := Lib.hid hK0
        clear hK0 hN hS hE
        have c : wx.cell? ⟨g4, 0, none⟩ = some (.slice (some ad) (q + 1) vc) := H.cell 1 rfl 0
        change Oper.wp _ _ A wx K _
        go_step
        exact hK.out _ _ rfl (H)
       ·intro x wx A rest hN hS hE H K hK0
        have e4 : A.tmps[4]?.getD undef = .pointer (some ⟨g4, 0, none⟩) := hN (4, .pointer (some ⟨g4, 0, none⟩)) (by simp)
        replace H : Sp w0 (rest) wx := H
        have hK : Hid (∀ (v : Value) (w' : World), v = .pointer (some ⟨g4, 0, none⟩) → Sp w0 (rest) w' → K (A.put (some 45) v) w') := Lib.hid hK0
        clear hK0 hN hS hE
        change Oper.wp _ _ A wx K _
        go_step
        exact hK.out _ _ rfl (H)
       ·intro x wx A rest hN hS hE H K hK0
        have e45 : A.tmps[45]?.getD undef = .pointer (some ⟨g4, 0, none⟩) := ((hS 4 (by decide)).2 45 rfl).trans (hS 4 (by decide)).1
        replace H : Sp w0 (rest) wx := H
        have hK : Hid (∀ (v : Value) (w' : World), v = .pointer (some ⟨g4, 0, none⟩) → Sp w0 (rest) w' → K (A.put (some 46) v) w') := Lib.hid hK0
        clear hK0 hN hS hE
        change Oper.wp _ _ A wx K _
        go_step
        exact hK.out _ _ rfl (H)
       ·intro x wx A rest hN hS hE H K hK0
        have e46 : A.tmps[46]?.getD undef = .pointer (some ⟨g4, 0, none⟩) := ((hS 5 (by decide)).2 46 rfl).trans (hS 5 (by decide)).1
        replace H : Sp w0 (rest) wx := H
        have hK : Hid (∀ (v : Value) (w' : World), v = .pointer (some ⟨g4, 1, none⟩) → Sp w0 (rest) w' → K (A.put (some 47) v) w') := Lib.hid hK0
        clear hK0 hN hS hE
        change Oper.wp _ _ A wx K _
        go_step
        exact hK.out _ _ rfl (H)
       ·intro x wx A rest hN hS hE H K hK0
        have e47 : A.tmps[47]?.getD undef = .pointer (some ⟨g4, 1, none⟩) := ((hS 6 (by decide)).2 47 rfl).trans (hS 6 (by decide)).1
        replace H : Sp w0 ((Row 5 1 (.slice (some ad) (q + 1) vc) (q + 1) cs9) :: (Bk g4 60 [.slice (some ad) (q + 1) vc, .int .i64 (M : Int)]) :: rest) wx := H
        have hK : Hid (∀ (v : Value) (w' : World), v = .int .i64 (M : Int) → Sp w0 ((Row 5 1 (.slice (some ad) (q + 1) vc) (q + 1) cs9) :: (Bk g4 60 [.slice (some ad) (q + 1) vc, .int .i64 (M : Int)]) :: rest) w' → K (A.put (some 48) v) w') := Lib.hid hK0
        clear hK0 hN hS hE
        have c : wx.cell? ⟨g4, 1, none⟩ = some (.int .i64 (M : Int)) := H.cell 1 rfl 1
        change Oper.wp _ _ A wx K _
        go_step
        exact hK.out _ _ rfl (H)
       ·intro x wx A rest hN hS hE H K hK0
        have e48 : A.tmps[48]?.getD undef = .int .i64 (M : Int) := ((hS 7 (by decide)).2 48 rfl).trans (hS 7 (by decide)).1
        replace H : Sp w0 (rest) wx := H
        have hK : Hid (∀ (v : Value) (w' : World), v = .int .i64 (N : Int) → Sp w0 (rest) w' → K (A.put (some 49) v) w') := Lib.hid hK0
        clear hK0 hN hS hE
        change Oper.wp _ _ A wx K _
        go_step
        exact hK.out _ _ rfl (H)
       ·intro x wx A rest hN hS hE H K hK0
        have e49 : A.tmps[49]?.getD undef = .int .i64 (N : Int) := ((hS 8 (by decide)).2 49 rfl).trans (hS 8 (by decide)).1
        replace H : Sp w0 (rest) wx := H
        have hK : Hid (∀ (v : Value) (w' : World), v = .int .i64 (q : Int) → Sp w0 (rest) w' → K (A.put (some 50) v) w') := Lib.hid hK0
        clear hK0 hN hS hE
        change Oper.wp _ _ A wx K _
        go_step
        exact hK.out _ _ rfl (H)
       ·intro x wx A rest hN hS hE H K hK0
        have e44 : A.tmps[44]?.getD undef = .slice (some ad) (q + 1) vc := ((hS 3 (by decide)).2 44 rfl).trans (hS 3 (by decide)).1
        have e50 : A.tmps[50]?.getD undef = .int .i64 (q : Int) := ((hS 9 (by decide)).2 50 rfl).trans (hS 9 (by decide)).1
        replace H : Sp w0 (rest) wx := H
        have hK : Hid (∀ (v : Value) (w' : World), v = .pointer (some (ad.add q)) → Sp w0 (rest) w' → K (A.put (some 51) v) w') := Lib.hid hK0
        clear hK0 hN hS hE
        change Oper.wp _ _ A wx K _
        go_step
        exact hK.out _ _ rfl (H)
       ·intro x wx A rest hN hS hE H K hK0
        have e51 : A.tmps[51]?.getD undef = .pointer (some (ad.add q)) := ((hS 10 (by decide)).2 51 rfl).trans (hS 10 (by decide)).1
        replace H : Sp w0 ((Row 5 1 (.slice (some ad) (q + 1) vc) (q + 1) cs9) :: (Bk g4 60 [.slice (some ad) (q + 1) vc, .int .i64 (M : Int)]) :: rest) wx := H
        have hK : Hid (∀ (v : Value) (w' : World), v = .int .u8 (tp : Int) → Sp w0 ((Row 5 1 (.slice (some ad) (q + 1) vc) (q + 1) cs9) :: (Bk g4 60 [.slice (some ad) (q + 1) vc, .int .i64 (M : Int)]) :: rest) w' → K (A.put (some 52) v) w') := Lib.hid hK0
        clear hK0 hN hS hE
        obtain ⟨ad9, c9, e9, _, ccell, _, _⟩ := Sp.rowSet H (i := q) (by omega)
        injection e9 with e9
        injection e9 with e9
        subst e9
        rw [HGT.out] at ccell
        change Oper.wp _ _ A wx K _
        go_step
        exact hK.out _ _ rfl (H)
       ·intro x wx A rest hN hS hE H K hK0
        have e4 : A.tmps[4]?.getD undef = .pointer (some ⟨g4, 0, none⟩) := hN (4, .pointer (some ⟨g4, 0, none⟩)) (by simp)
        replace H : Sp w0 (rest) wx := H
        have hK : Hid (∀ (v : Value) (w' : World), v = .pointer (some ⟨g4, 0, none⟩) → Sp w0 (rest) w' → K (A.put (some 53) v) w') := Lib.hid hK0
        clear hK0 hN hS hE
        change Oper.wp _ _ A wx K _
        go_step
        exact hK.out _ _ rfl (H)
       ·intro x wx A rest hN hS hE H K hK0
        have e53 : A.tmps[53]?.getD undef = .pointer (some ⟨g4, 0, none⟩) := ((hS 12 (by decide)).2 53 rfl).trans (hS 12 (by decide)).1
        replace H : Sp w0 (rest) wx := H
        have hK : Hid (∀ (v : Value) (w' : World), v = .pointer (some ⟨g4, 0, none⟩) → Sp w0 (rest) w' → K (A.put (some 54) v) w') := Lib.hid hK0
        clear hK0 hN hS hE
        change Oper.wp _ _ A wx K _
        go_step
        exact hK.out _ _ rfl (H)
       ·intro x wx A rest hN hS hE H K hK0
        have e54 : A.tmps[54]?.getD undef = .pointer (some ⟨g4, 0, none⟩) := ((hS 13 (by decide)).2 54 rfl).trans (hS 13 (by decide)).1
        replace H : Sp w0 (rest) wx := H
        have hK : Hid (∀ (v : Value) (w' : World), v = .pointer (some ⟨g4, 1, none⟩) → Sp w0 (rest) w' → K (A.put (some 55) v) w') := Lib.hid hK0
        clear hK0 hN hS hE
        change Oper.wp _ _ A wx K _
        go_step
        exact hK.out _ _ rfl (H)
       ·intro x wx A rest hN hS hE H K hK0
        have e55 : A.tmps[55]?.getD undef = .pointer (some ⟨g4, 1, none⟩) := ((hS 14 (by decide)).2 55 rfl).trans (hS 14 (by decide)).1
        replace H : Sp w0 ((Row 5 1 (.slice (some ad) (q + 1) vc) (q + 1) cs9) :: (Bk g4 60 [.slice (some ad) (q + 1) vc, .int .i64 (M : Int)]) :: rest) wx := H
        have hK : Hid (∀ (v : Value) (w' : World), v = .int .i64 (M : Int) → Sp w0 ((Row 5 1 (.slice (some ad) (q + 1) vc) (q + 1) cs9) :: (Bk g4 60 [.slice (some ad) (q + 1) vc, .int .i64 (M : Int)]) :: rest) w' → K (A.put (some 56) v) w') := Lib.hid hK0
        clear hK0 hN hS hE
        have c : wx.cell? ⟨g4, 1, none⟩ = some (.int .i64 (M : Int)) := H.cell 1 rfl 1
        change Oper.wp _ _ A wx K _
        go_step
        exact hK.out _ _ rfl (H)
       ·intro x wx A rest hN hS hE H K hK0
        have e56 : A.tmps[56]?.getD undef = .int .i64 (M : Int) := ((hS 15 (by decide)).2 56 rfl).trans (hS 15 (by decide)).1
        replace H : Sp w0 (rest) wx := H
        have hK : Hid (∀ (v : Value) (w' : World), v = .int .i64 (N : Int) → Sp w0 (rest) w' → K (A.put (some 57) v) w') := Lib.hid hK0
        clear hK0 hN hS hE
        change Oper.wp _ _ A wx K _
        go_step
        exact hK.out _ _ rfl (H)
       ·intro x wx A rest hN hS hE H K hK0
        have e57 : A.tmps[57]?.getD undef = .int .i64 (N : Int) := ((hS 16 (by decide)).2 57 rfl).trans (hS 16 (by decide)).1
        replace H : Sp w0 (rest) wx := H
        have hK : Hid (∀ (v : Value) (w' : World), v = .int .i64 (r : Int) → Sp w0 (rest) w' → K (A.put (some 58) v) w') := Lib.hid hK0
        clear hK0 hN hS hE
        change Oper.wp _ _ A wx K _
        go_step
        exact hK.out _ _ (by rw [z2]) H
       ·intro x wx A rest hN hS hE H K hK0
        have e58 : A.tmps[58]?.getD undef = .int .i64 (r : Int) := ((hS 17 (by decide)).2 58 rfl).trans (hS 17 (by decide)).1
        replace H : Sp w0 (rest) wx := H
        have hK : Hid (∀ (v : Value) (w' : World), v = .int .u8 (pw : Int) → Sp w0 (rest) w' → K (A.put (some 59) v) w') := Lib.hid hK0
        clear hK0 hN hS hE
        have hw : IntKind.u8.wrap (pw : Int) = (pw : Int) := by rw [IntKind.wrap_u8']; omega
        have e := HPW.out
        change Oper.wp _ _ A wx K _
        go_step
        exact hK.out _ _ rfl (H)
       ·intro x wx A rest hN hS hE H K hK0
        have e52 : A.tmps[52]?.getD undef = .int .u8 (tp : Int) := ((hS 11 (by decide)).2 52 rfl).trans (hS 11 (by decide)).1
        have e59 : A.tmps[59]?.getD undef = .int .u8 (pw : Int) := ((hS 18 (by decide)).2 59 rfl).trans (hS 18 (by decide)).1
        replace H : Sp w0 (rest) wx := H
        have hK : Hid (∀ (v : Value) (w' : World), v = .int .u8 ((tp + pw : Nat) : Int) → Sp w0 (rest) w' → K (A.put (some 60) v) w') := Lib.hid hK0
        clear hK0 hN hS hE
        change Oper.wp _ _ A wx K _
        go_step
        exact hK.out _ _ (by rw [HOR.out]) H
       ·intro x wx A rest hN hS hE H K hK0
        have e44 : A.tmps[44]?.getD undef = .slice (some ad) (q + 1) vc := ((hS 3 (by decide)).2 44 rfl).trans (hS 3 (by decide)).1
        have e50 : A.tmps[50]?.getD undef = .int .i64 (q : Int) := ((hS 9 (by decide)).2 50 rfl).trans (hS 9 (by decide)).1
        replace H : Sp w0 (rest) wx := H
        have hK : Hid (∀ (v : Value) (w' : World), v = .pointer (some (ad.add q)) → Sp w0 (rest) w' → K (A.put (some 61) v) w') := Lib.hid hK0
        clear hK0 hN hS hE
        change Oper.wp _ _ A wx K _
        go_step
        exact hK.out _ _ rfl (H)
       ·intro x wx A rest hN hS hE H K hK0
        have e61 : A.tmps[61]?.getD undef = .pointer (some (ad.add q)) := ((hS 20 (by decide)).2 61 rfl).trans (hS 20 (by decide)).1
        have e60 : A.tmps[60]?.getD undef = .int .u8 ((tp + pw : Nat) : Int) := ((hS 19 (by decide)).2 60 rfl).trans (hS 19 (by decide)).1
        replace H : Sp w0 ((Row 5 1 (.slice (some ad) (q + 1) vc) (q + 1) cs9) :: (Bk g4 60 [.slice (some ad) (q + 1) vc, .int .i64 (M : Int)]) :: rest) wx := H
        have hK : Hid (∀ (v : Value) (w' : World), v = undef → Sp w0 ((Row 5 1 (.slice (some ad) (q + 1) vc) (q + 1) (cs9.set q (.int .u8 ((tp + pw : Nat) : Int)))) :: (Bk g4 60 [.slice (some ad) (q + 1) vc, .int .i64 (M : Int)]) :: rest) w' → K (A.put none v) w') := Lib.hid hK0
        clear hK0 hN hS hE
        obtain ⟨ad9, c9, e9, _, ccell, cfrz, hset⟩ := Sp.rowSet H (i := q) (by omega)
        injection e9 with e9
        injection e9 with e9
        subst e9
        rw [HGT.out] at ccell
        change Oper.wp _ _ A wx K _
        go_step
        exact hK.out _ _ rfl (hset (.int .u8 ((tp + pw : Nat) : Int)))
      case hend =>
       intro x wx A hA hS H
       replace H : Sp w0 ((Row 5 1 (.slice (some ad) (q + 1) vc) (q + 1) (cs9.set q (.int .u8 ((tp + pw : Nat) : Int)))) :: (Bk g4 60 [.slice (some ad) (q + 1) vc, .int .i64 (M : Int)]) :: (Bk g7 42 [.int .u8 (kd0 : Int), .slice Bq bn bc, .slice Cq cn cc] :: Row 5 1 u5 O.length (cells8 O) :: X :: L)) wx := H
       clear hS
       simp only [putAll, Act.put, List.setIfInBounds_toArray, List.set_cons_succ, List.set_cons_zero, Nat.reduceAdd] at hA
       subst hA
       have HY := Lib.hid H
       clear H HX
       go_wp2_with fail
       go_meet
       rw [hl9]
       have h8 := HY.out
       rw [HSET.out] at h8
       have h9 := h8.swap
       refine pen_shut (v := .slice (some ad) (q + 1) vc) ?_
       unfold PenB PenR
       rw [HLM.out, HPL.out]
       exact h9
     ·have kx : ((i : Int) == (nk1 : Int)) = false := by rw [beq_eq_false_iff_ne]; have := HNK1.out; omega
      have hl9 : lb = false := by rw [← HLB.out]; simpa using he
      have H10 : Sp w0 (Pen g4 (B ++ [lb]) :: Bk g7 42 [.int .u8 (kd0 : Int), .slice Bq bn bc, .slice Cq cn cc] :: Row 5 1 u5 O.length (cells8 O) :: X :: L) w9 := by rw [hl9]; exact H9
      clear he
      go_wp2_with fail
      go_meet
      exact H10
    case rest =>
     clear H9
     obtain ⟨kd, hkd⟩ : ∃ q, kd0 % 3 = q := ⟨_, rfl⟩
     have z4 : (kd0 : Int) % 3 = (kd : Int) := by omega
     have hkd3 : kd < 3 := by omega
     have HKD := Lib.hid hkd
     have ckd : wc.cell? ⟨g7, 0, none⟩ = some (.int .u8 (kd0 : Int)) := hcut.cell 1 rfl 0
     have hpn := pnum_ok g4 kd 2 _ hcut (by omega) (by rw [List.length_append, List.length_singleton]; omega)
     have HPN := Lib.hid hpn
     clear hpn hkd
     go_wp2_with fail
     refine HPN.out.mono ?_
     rintro _ wd ⟨rfl, H10⟩
     obtain ⟨B3, hB3⟩ : ∃ B3, B ++ [lb] ++ PBits.bitsOf kd 2 = B3 := ⟨_, rfl⟩
     have hB3l : B3.length = B.length + 3 := by rw [← hB3, List.length_append, List.length_append, List.length_singleton, PBits.bitsOf_length]
     rw [hB3] at H10
     have HB3 := Lib.hid hB3
     have HN1b : Hid ((PI.stW lp (i + 1)).1 = B3 ++ PI.bodyW ⟨kd0, bs, cs⟩ B3.length O) := Lib.hid (by
      rw [HN1.out, ← HB3.out]; unfold PI.partW
      rw [show (kd0 % 3 : Nat) = kd from HKD.out, List.length_append, List.length_append, List.length_singleton, PBits.bitsOf_length, List.append_assoc, List.append_assoc, List.append_assoc])
     clear HPN hcut ckd hB3
     by_cases hk0 : kd = 0
     ·subst hk0
      have c8 : wd.cell? ⟨g7, 1, none⟩ = some (.slice Bq bn bc) := H10.cell 1 rfl 1
      obtain ⟨b8, hb8⟩ : ∃ b8, min bn 80 = b8 := ⟨_, rfl⟩
      have y6 : min (bn : Int) 80 = (b8 : Int) := by omega
      have hb8c : b8 ≤ bc := by omega
      have y7 : (b8 : Int) ≤ (bc : Int) := by omega
      have hb80 : b8 ≤ 80 ∧ b8 ≤ bn := by omega
      have HB8 := Lib.hid hb8
      clear hb8
      obtain ⟨pad, hpad⟩ : ∃ pad, (B3.length + 7) / 8 * 8 - B3.length = pad := ⟨_, rfl⟩
      obtain ⟨N3, hN3⟩ : ∃ N3, B3.length = N3 := ⟨_, rfl⟩
      have HN3 := Lib.hid hN3
      have hpad7 : pad ≤ 7 ∧ (N3 + pad) % 8 = 0 ∧ ∀ j, j < pad → (N3 + j) % 8 ≠ 0 := ⟨by omega, by omega, fun j hj => by omega⟩
      have HPAD := Lib.hid hpad7
      have hN3b : N3 ≤ 50003 := by omega
      have HB1 : Hid (PI.bodyW ⟨kd0, bs, cs⟩ B3.length O = List.replicate pad true ++ PI.storedW (bs.take 80)) := Lib.hid (by
       unfold PI.bodyW
       rw [if_pos (show (kd0 % 3 : Nat) = 0 from HKD.out), hpad])
      have HB2 : Hid (PI.partO ⟨kd0, bs, cs⟩ O = O ++ bs.take 80) := Lib.hid (by
       unfold PI.partO
       rw [if_pos (show (kd0 % 3 : Nat) = 0 from HKD.out)])
      have hpad77 := hpad7.1
      clear hpad hN3 hpad7 hB3l
      have HX10 : Hid (Sp w0 (Pen g4 (B3 ++ List.replicate 0 true) :: Bk g7 42 [.int .u8 (kd0 : Int), .slice Bq bn bc, .slice Cq cn cc] :: Row 5 1 u5 O.length (cells8 O) :: X :: L) wd) := Lib.hid (by rw [List.replicate_zero, List.append_nil]; exact H10)
      clear H10
      go_wp2_with fail
      go_loopw [] (fun wr => ∃ j : Nat, j ≤ pad ∧ Sp w0 (Pen g4 (B3 ++ List.replicate j true) :: Bk g7 42 [.int .u8 (kd0 : Int), .slice Bq bn bc, .slice Cq cn cc] :: Row 5 1 u5 O.length (cells8 O) :: X :: L) wr) (fun wr => N3 + pad - penAt g4 wr)
      case atStart => exact ⟨0, Nat.zero_le _, HX10.out⟩
      case round =>
       obtain ⟨j, hjp, H11⟩ := hrel
       clear HX10
       obtain ⟨hpa, cpn⟩ := penAt_of H11
       have hNl : (B3 ++ List.replicate j true).length = N3 + j := by rw [List.length_append, List.length_replicate, HN3.out]
       obtain ⟨Nj, hNj⟩ : ∃ q, N3 + j = q := ⟨_, rfl⟩
       obtain ⟨r, hr⟩ : ∃ r, Nj % 8 = r := ⟨_, rfl⟩
       rw [hNl, hNj] at cpn hpa
       have z5 : (Nj : Int) % 8 = (r : Int) := by omega
       have HPA := Lib.hid hpa
       have HNJ := Lib.hid hNj
       have HRJ := Lib.hid hr
       by_cases hlt2 : j < pad
       ·have hr0 : r ≠ 0 := by
         have := HPAD.out.2.2 j hlt2
         rw [← hr, ← hNj]; exact this
        have kx : ((r : Int) != 0) = true := by simpa using hr0
        have kx2 : ¬ (r : Int) = 0 := by omega
        have hpb := pbit_ok g4 1 _ H11 (by decide) (by rw [hNl]; omega)
        rw [List.append_assoc, show List.replicate j true ++ [(1 % 2 == 1 : Bool)] = List.replicate (j + 1) true by rw [List.replicate_succ']; rfl] at hpb
        have HPB := Lib.hid hpb
        clear hpb H11 hNl hNj hr hpa
        go_wp2_with fail
        refine HPB.out.mono ?_
        rintro _ we ⟨rfl, H12⟩
        clear HPB cpn
        go_wp2_with fail
        go_roundw
        case rel => exact ⟨j + 1, by omega, H12⟩
        case measure =>
         have h5 := (penAt_of H12).1
         rw [List.length_append, List.length_replicate, HN3.out] at h5
         rw [h5, HPA.out, ← HNJ.out]
         omega
       ·obtain rfl : j = pad := by omega
        have hr0 : r = 0 := by
         have := HPAD.out.2.1
         rw [← hr, ← hNj]; exact this
        have kx : ((r : Int) != 0) = false := by simpa using hr0
        have kx2 : (r : Int) = 0 := by omega
        have hp1 := pnum_ok g4 b8 16 _ H11 (by omega) (by rw [hNl]; omega)
        have HP1 := Lib.hid hp1
        clear hp1 hNl hNj hr hpa H11 hr0
        go_wp2_with fail
        refine HP1.out.mono ?_
        rintro _ we ⟨rfl, H12⟩
        obtain ⟨b9, hb9⟩ : ∃ q, 65535 - b8 = q := ⟨_, rfl⟩
        have hxo := xor_ffff_i64 b8 (by omega)
        rw [hb9] at hxo
        have HB9 := Lib.hid hb9
        clear HP1 hb9 cpn kx kx2 z5
        go_wp2_with fail
        refine (pnum_ok g4 b9 16 _ H12 (by omega) (by rw [List.length_append, List.length_append, List.length_replicate, PBits.bitsOf_length, HN3.out]; omega)).mono ?_
        rintro _ wf ⟨rfl, H13⟩
        obtain ⟨B5, hB5⟩ : ∃ B5, B3 ++ List.replicate j true ++ PBits.bitsOf b8 16 ++ PBits.bitsOf b9 16 = B5 := ⟨_, rfl⟩
        have hB5l : B5.length = N3 + j + 32 := by rw [← hB5, List.length_append, List.length_append, List.length_append, List.length_replicate, PBits.bitsOf_length, PBits.bitsOf_length, HN3.out]
        rw [hB5] at H13
        have HB5 := Lib.hid hB5
        have HX13 : Hid (Sp w0 (Pen g4 (B5 ++ PBits.ofB ((bs.take 80).take 0)) :: Bk g7 42 [.int .u8 (kd0 : Int), .slice Bq bn bc, .slice Cq cn cc] :: Row 5 1 u5 O.length (cells8 O) :: X :: L) wf) := Lib.hid (by
         rw [List.take_zero, show PBits.ofB [] = [] from rfl, List.append_nil]; exact H13)
        clear hB5 H12 H13 hxo
        go_wp2_with fail
        go_loopw [11, 97] (fun _ jv wr => ∃ t : Nat, jv = .int .i64 (t : Int) ∧ t ≤ b8 ∧ Sp w0 (Pen g4 (B5 ++ PBits.ofB ((bs.take 80).take t)) :: Bk g7 42 [.int .u8 (kd0 : Int), .slice Bq bn bc, .slice Cq cn cc] :: Row 5 1 u5 O.length (cells8 O) :: X :: L) wr) (fun _ jv _ => b8 - (intOf jv).toNat)
        case atStart => exact ⟨0, rfl, Nat.zero_le _, HX13.out⟩
        case round =>
         obtain ⟨t, rfl, htb, H14⟩ := hrel
         clear HX13
         obtain ⟨_, ⟨B2, c2, e2, r2, _⟩, _⟩ := HOK.out _ _ (H14.pick 3 [])
         injection e2 with e2 en ec
         clear en ec
         subst e2
         have hbl80 : (bs.take 80).length = b8 := by rw [List.length_take, HBN.out, ← HB8.out]; omega
         by_cases hlt3 : t < b8
         ·have k7 : (t : Int) < (b8 : Int) := by omega
          have htl : t < bs.length := by rw [HBN.out]; omega
          obtain ⟨ab, rfl, hc2⟩ := r2 (fun h0 => by
           have := congrArg List.length h0
           simp [cells8] at this
           rw [this] at htl; simp at htl)
          have hcell := hc2 t _ (cells8_get bs t htl)
          obtain ⟨cu, hcu⟩ : ∃ cu : UInt8, bs.getD t 0 = cu := ⟨_, rfl⟩
          rw [hcu] at hcell
          have htk : (bs.take 80).take (t + 1) = (bs.take 80).take t ++ [cu] := by
           rw [take_snoc (bs.take 80) t 0 (by rw [hbl80]; exact hlt3)]
           congr 2
           rw [← hcu, List.getD_eq_getElem?_getD, List.getD_eq_getElem?_getD, List.getElem?_take_of_lt (by omega)]
          have hob : PBits.ofB ((bs.take 80).take (t + 1)) = PBits.ofB ((bs.take 80).take t) ++ PBits.bitsOf cu.toNat 8 := by
           rw [htk, PI.PBits.ofB_append]
           congr 1
          have hpn := pnum_ok g4 cu.toNat 8 _ H14 (by omega) (by rw [List.length_append, PBits.ofB_length, List.length_take]; omega)
          rw [List.append_assoc, ← hob] at hpn
          have hu := cu.toNat_lt
          obtain ⟨cq, hcq⟩ : ∃ q, cu.toNat = q := ⟨_, rfl⟩
          rw [hcq] at hpn hcell hu
          have HPN := Lib.hid hpn
          clear hpn hob htk hcq hcu hc2 r2 H14 htl
          go_wp2_with fail
          refine HPN.out.mono ?_
          rintro _ wg ⟨rfl, H15⟩
          clear HPN
          go_wp2_with fail
          go_roundw
          case rel => exact ⟨t + 1, by go_num, by omega, H15⟩
          case measure => first | (simp [intOf]; omega) | simp [intOf]
         ·have k7 : ¬ (t : Int) < (b8 : Int) := by omega
          obtain rfl : t = b8 := by omega
          rw [List.take_of_length_le (by rw [hbl80]; exact Nat.le_refl _)] at H14
          have hrdb : Rd wr Bq (cells8 (bs.take 80)) := by
           have := r2.part 0 80
           rw [List.drop_zero] at this
           have e : (cells8 bs).take 80 = cells8 (bs.take 80) := by simp [cells8, List.map_take]
           rw [e] at this
           cases Bq with
           | none => intro hne; obtain ⟨ad, h, _⟩ := this hne; cases h
           | some q => simpa [add0] using this
          have HRB := Lib.hid hrdb
          have hcl : (cells8 (bs.take 80)).length = t := by unfold cells8; rw [List.length_map, hbl80]
          have HCL := Lib.hid hcl
          have HX14 := Lib.hid (H14.pick 3 [2, 0, 1])
          have HBL := Lib.hid hbl80
          obtain ⟨VO, voc, rfl, _, _⟩ := Row.form H14 2 rfl
          clear r2 H14 hrdb hcl hbl80
          go_wp2_with (at_builtin; refine wpList_append_sp rfl _ _ 24 rfl 5 i8 (.int .u8 0) 1 1 Tryd.underlying24 hj hj0 hj1 hj2 rfl (by decide) _ O.length (cells8 O) rfl HX14.out Bq t bc (cells8 (bs.take 80)) rfl (by rw [HCL.out, Nat.mul_one]) HRB.out (cells8_one _) (by unfold maxLen; omega) (by omega) ?_)
          intro v5 w5 H15 _
          have HX15 := Lib.hid H15
          clear HX14 HRB H15
          go_wp2_with fail
          go_roundw
          case rel =>
           refine ⟨i + 1, by go_num, by omega, ?_⟩
           have h := HX15.out
           have e1 : (PI.stW lp (i + 1)).1 = B5 ++ PBits.ofB (bs.take 80) := by
            rw [HN1b.out, HB1.out, ← HB5.out]
            unfold PI.storedW
            rw [HBL.out, HB9.out]
            simp only [List.append_assoc]
           have e2 : (PI.stW lp (i + 1)).2 = O ++ bs.take 80 := by rw [HN2.out, HB2.out]
           rw [e1, e2, List.length_append, HBL.out, show cells8 (O ++ bs.take 80) = cells8 O ++ cells8 (bs.take 80) by simp [cells8]]
           exact h.pick 4 [1, 0, 3]
          case measure => first | (simp [intOf]; omega) | simp [intOf]
     ·have kk0 : ((kd : Int) == 0) = false := by rw [beq_eq_false_iff_ne]; omega
      have kk0' : ¬ (kd : Int) = 0 := by omega
      have hps := psigns_ok ⟨⟨kd0, bs, cs⟩, .slice Bq bs.length bc, .slice Cq cs.length cc⟩ O u5 (H10.pick 3 [2, 0, 1]) (fun w0 w h => HOK.out w0 w (h.pick 2 [])) (by omega)
      rw [HCEL.out] at hps
      have HPS := Lib.hid hps
      have HBK := Lib.hid (H10.blk 1 rfl)
      clear hps H10
      go_wp2_with (refine wpList_load_whole rfl 42 _ rfl g7 42 [.int .u8 (kd0 : Int), .slice Bq bn bc, .slice Cq cn cc] rfl HBK.out Tryd.isAgg42 Tryd.sizeOf42 ?_)
      refine HPS.out.mono ?_
      rintro _ we ⟨v1, v2, rfl, H12⟩
      obtain ⟨ts, hts⟩ : ∃ ts, PI.toks ⟨kd0, bs, cs⟩ O = ts := ⟨_, rfl⟩
      have hsgc := PI.sgs_count ⟨kd0, bs, cs⟩ O
      have hsok := PI.sgOk_toks _ _ (PI.good_toks ⟨kd0, bs, cs⟩ O)
      rw [hts] at hsgc hsok
      simp only [hts] at H12
      obtain ⟨VS, vsc, rfl, _, _⟩ := Row.form H12 0 rfl
      obtain ⟨nS, hnS⟩ : ∃ nS, (PI.sgs ts).length = nS := ⟨_, rfl⟩
      rw [hnS] at H12 hsgc ⊢
      have HTS := Lib.hid hts
      have HSOK := Lib.hid hsok
      have HNS := Lib.hid hnS
      clear HPS HBK hts hsok hnS
      by_cases hk1 : kd = 1
      ·subst hk1
       go_wp2_with fail
       refine (pfixed_ok H12).mono ?_
       rintro _ wf ⟨f1, f2, rfl, H13⟩
       obtain ⟨F1, fc1, rfl, _, _⟩ := Row.form H13 0 rfl
       obtain ⟨F2, fc2, rfl, _, _⟩ := Row.form H13 1 rfl
       have es : (wf.alloc (.cells #[.slice F1 288 fc1] 67)).heap.size = wf.heap.size + 1 := Array.size_push _
       have H14 := (H13.newBk [.slice F1 288 fc1] 67).newBk [.slice F2 32 fc2] 67
       rw [es] at H14
       have HX16 := Lib.hid H14
       clear H12 H13 H14 es
       go_wp2_with fail
       generalize wf.heap.size + 1 = g14 at HX16 ⊢
       generalize wf.heap.size = g13 at HX16 ⊢
       generalize (wf.alloc _).alloc _ = wg at HX16 ⊢
       have hpb := pbody_ok g4 nS vsc 288 fc1 32 fc2 VS F1 F2 PI.fixedL PI.fixedD (PI.sgs ts) B3 (HX16.out.pick 7 [6, 0, 1, 2, 3, 4, 5]) HNS.out.symm fixed_len.2.symm fixed_len.1.symm HSOK.out (by omega) (by omega) (by omega) (by omega) (by omega) (by omega) PI.fixedD_15 PI.fixedL_15 PI.fixed_sumD PI.fixed_sum
        (fun w0 w h => row3 h 4 rfl) (fun w0 w h => row3 h 3 rfl) (fun w0 w h => row3 h 2 rfl)
       have hsw : PI.sgsW PI.fixedL PI.fixedD (PI.sgs ts) nS = PI.toksW PI.fixedL PI.fixedD ts := by rw [← HNS.out]; exact PI.sgsW_toks _ _ _
       rw [hsw] at hpb
       clear hsw
       have HPB := Lib.hid hpb
       have HB1 : Hid (PI.bodyW ⟨kd0, bs, cs⟩ B3.length O = PI.toksW PI.fixedL PI.fixedD ts) := Lib.hid (by
        unfold PI.bodyW
        rw [if_neg (show ¬ (kd0 % 3 : Nat) = 0 by have := HKD.out; omega), if_pos (show (kd0 % 3 : Nat) = 1 from HKD.out), HTS.out])
       have HB2 : Hid (PI.partO ⟨kd0, bs, cs⟩ O = PI.toksO O ts) := Lib.hid (by
        unfold PI.partO
        rw [if_neg (show ¬ (kd0 % 3 : Nat) = 0 by have := HKD.out; omega), HTS.out])
       clear hpb
       refine HPB.out.mono ?_
       rintro _ wh ⟨rfl, H17⟩
       have HX17 := Lib.hid (H17.pick 8 [0, 6])
       clear HPB HX16 H17
       go_wp2_with fail
       go_roundw
       case rel =>
        refine ⟨i + 1, by go_num, by omega, ?_⟩
        have e1 : (PI.stW lp (i + 1)).1 = B3 ++ PI.toksW PI.fixedL PI.fixedD ts := by rw [HN1b.out, HB1.out]
        have e2 : (PI.stW lp (i + 1)).2 = PI.toksO O ts := by rw [HN2.out, HB2.out]
        rw [e1, e2]
        exact HX17.out
       case measure => first | (simp [intOf]; omega) | simp [intOf]
      ·obtain rfl : kd = 2 := by omega
       go_wp2_with fail
       refine (pfixed_ok H12).mono ?_
       rintro _ wf ⟨f1, f2, rfl, H13⟩
       obtain ⟨F1, fc1, rfl, _, _⟩ := Row.form H13 0 rfl
       obtain ⟨F2, fc2, rfl, _, _⟩ := Row.form H13 1 rfl
       have es : (wf.alloc (.cells #[.slice F1 288 fc1] 67)).heap.size = wf.heap.size + 1 := Array.size_push _
       have H14 := (H13.newBk [.slice F1 288 fc1] 67).newBk [.slice F2 32 fc2] 67
       rw [es] at H14
       have HX16 := Lib.hid H14
       clear H12 H13 H14 es
       go_wp2_with fail
       generalize wf.heap.size + 1 = g14 at HX16 ⊢
       generalize wf.heap.size = g13 at HX16 ⊢
       generalize (wf.alloc _).alloc _ = wg at HX16 ⊢
       refine wp_region_sp (L := (Row 102 3 (.slice VS nS vsc) nS (cellsS (PI.sgs ts)) :: Row 5 1 v2 (PI.toksO O ts).length (cells8 (PI.toksO O ts)) :: Pen g4 B3 :: Bk g7 42 [.int .u8 (kd0 : Int), .slice Bq bn bc, .slice Cq cn cc] :: X :: L)) (fun ix vx => ([(fun _ => True), (fun _ => True), (· = undef), (· = undef)] : List (Value → Prop)).getD ix (fun _ => True) vx)
        (fun ix vx => ([fun u => [Row 3 1 u 286 (List.replicate 286 (.int .i64 0))], fun u => [Row 3 1 u 30 (List.replicate 30 (.int .i64 0))], fun _ => [Ex fun u => Star (Bk g13 67 [u]) (Row 3 1 u 286 (List.replicate 286 (.int .i64 0)))], fun _ => [Ex fun u => Star (Bk g14 67 [u]) (Row 3 1 u 30 (List.replicate 30 (.int .i64 0)))]] : List (Value → List Pr)).getD ix (fun _ => []) vx) (fun ix => ([[], [], [Bk g13 67 [.slice F1 288 fc1]], [Bk g14 67 [.slice F2 32 fc2]]] : List (List Pr)).getD ix []) 4 145
        [some 121, some 122, none, none]
        [[], [], [0, 0], [1, 2, 0, 1, 2]]
        [[], [], [0], [0, 1, 2]]
        [[], [], [0], [1]]
        [[], [], [], []]
        [(13, .pointer (some ⟨g13, 0, none⟩)), (14, .pointer (some ⟨g14, 0, none⟩))]
        (by kernel_rfl) rfl (by decide) (by rfl) rfl (by decide +kernel) (by decide +kernel) (by rfl) rfl rfl (by decide) (by simp) (by rfl) (HX16.out.pick 4 [1, 0]) ?hstep ?hend
       case hstep =>
        refine ⟨?_, ⟨?_, ⟨?_, ⟨?_, trivial⟩⟩⟩⟩
        ·intro x wx A rest hN hS hE H K hK0
         replace H : Sp w0 (rest) wx := H
         have hK : Hid (∀ (v : Value) (w' : World), (fun _ => True) v → Sp w0 ((Row 3 1 v 286 (List.replicate 286 (.int .i64 0))) :: rest) w' → K (A.put (some 121) v) w') := Lib.hid hK0
         clear hK0 hN hS hE
         change Oper.wp _ _ A wx K _
         refine wp_make_sp _ _ 67 rfl 3 i0 (.int .i64 0) Tryd.underlying67 hi hz0 hz1 rfl 286 rfl rfl (by rw [hz2]; omega) (by unfold maxLen; omega) H ?_
         intro ad w9 H9
         exact hK.out _ _ trivial H9
        ·intro x wx A rest hN hS hE H K hK0
         replace H : Sp w0 (rest) wx := H
         have hK : Hid (∀ (v : Value) (w' : World), (fun _ => True) v → Sp w0 ((Row 3 1 v 30 (List.replicate 30 (.int .i64 0))) :: rest) w' → K (A.put (some 122) v) w') := Lib.hid hK0
         clear hK0 hN hS hE
         change Oper.wp _ _ A wx K _
         refine wp_make_sp _ _ 67 rfl 3 i0 (.int .i64 0) Tryd.underlying67 hi hz0 hz1 rfl 30 rfl rfl (by rw [hz2]; omega) (by unfold maxLen; omega) H ?_
         intro ad w9 H9
         exact hK.out _ _ trivial H9
        ·intro x wx A rest hN hS hE H K hK0
         have e13 : A.tmps[13]?.getD undef = .pointer (some ⟨g13, 0, none⟩) := hN (13, .pointer (some ⟨g13, 0, none⟩)) (by simp)
         have q121 := (hS 0 (by decide)).1
         have e121 : A.tmps[121]?.getD undef = x 0 := (hS 0 (by decide)).2 121 rfl
         replace H : Sp w0 ((Bk g13 67 [.slice F1 288 fc1]) :: (Row 3 1 (x 0) 286 (List.replicate 286 (.int .i64 0))) :: rest) wx := H
         have hK : Hid (∀ (v : Value) (w' : World), v = undef → Sp w0 ((Ex fun u => Star (Bk g13 67 [u]) (Row 3 1 u 286 (List.replicate 286 (.int .i64 0)))) :: rest) w' → K (A.put none v) w') := Lib.hid hK0
         clear hK0 hN hS hE
         obtain ⟨x9, ex9⟩ : ∃ x9, x 0 = x9 := ⟨_, rfl⟩
         rw [ex9] at e121 H
         obtain ⟨V9, c9, rfl, _, _⟩ := Row.form H 1 rfl
         have c0 : wx.cell? ⟨g13, 0, none⟩ = some (.slice F1 288 fc1) := H.cell 0 rfl 0
         have z0 : wx.frozen? ⟨g13, 0, none⟩ = false := H.frozen 0 rfl 0
         change Oper.wp _ _ A wx K _
         go_step
         exact hK.out _ _ rfl (Sp.ex _ (Sp.star (H.set 0 (.slice V9 286 c9))))
        ·intro x wx A rest hN hS hE H K hK0
         have e14 : A.tmps[14]?.getD undef = .pointer (some ⟨g14, 0, none⟩) := hN (14, .pointer (some ⟨g14, 0, none⟩)) (by simp)
         have q122 := (hS 1 (by decide)).1
         have e122 : A.tmps[122]?.getD undef = x 1 := (hS 1 (by decide)).2 122 rfl
         replace H : Sp w0 ((Bk g14 67 [.slice F2 32 fc2]) :: (Row 3 1 (x 1) 30 (List.replicate 30 (.int .i64 0))) :: rest) wx := H
         have hK : Hid (∀ (v : Value) (w' : World), v = undef → Sp w0 ((Ex fun u => Star (Bk g14 67 [u]) (Row 3 1 u 30 (List.replicate 30 (.int .i64 0)))) :: rest) w' → K (A.put none v) w') := Lib.hid hK0
         clear hK0 hN hS hE
         obtain ⟨x9, ex9⟩ : ∃ x9, x 1 = x9 := ⟨_, rfl⟩
         rw [ex9] at e122 H
         obtain ⟨V9, c9, rfl, _, _⟩ := Row.form H 1 rfl
         have c0 : wx.cell? ⟨g14, 0, none⟩ = some (.slice F2 32 fc2) := H.cell 0 rfl 0
         have z0 : wx.frozen? ⟨g14, 0, none⟩ = false := H.frozen 0 rfl 0
         change Oper.wp _ _ A wx K _
         go_step
         exact hK.out _ _ rfl (Sp.ex _ (Sp.star (H.set 0 (.slice V9 30 c9))))
       case hend =>
        intro x wx A hA hS H
        replace H : Sp w0 ((Ex fun u => Star (Bk g13 67 [u]) (Row 3 1 u 286 (List.replicate 286 (.int .i64 0)))) :: (Ex fun u => Star (Bk g14 67 [u]) (Row 3 1 u 30 (List.replicate 30 (.int .i64 0)))) :: (Row 102 3 (.slice VS nS vsc) nS (cellsS (PI.sgs ts)) :: Row 5 1 v2 (PI.toksO O ts).length (cells8 (PI.toksO O ts)) :: Pen g4 B3 :: Bk g7 42 [.int .u8 (kd0 : Int), .slice Bq bn bc, .slice Cq cn cc] :: X :: L)) wx := H
        clear hS
        simp only [putAll, Act.put, List.setIfInBounds_toArray, List.set_cons_succ, List.set_cons_zero, Nat.reduceAdd] at hA
        subst hA
        obtain ⟨va, H⟩ := H.unex
        replace H := H.unstar.pick 3 [2, 0, 1]
        obtain ⟨vb, H⟩ := H.unex
        replace H := H.unstar
        obtain ⟨VA, ca, rfl, _, _⟩ := Row.form H 3 rfl
        obtain ⟨VB, cb, rfl, _, _⟩ := Row.form H 1 rfl
        rw [PI.cnts_nil 286, PI.cnts_nil 30] at H
        have HX18 := Lib.hid (H.pick 4 [0, 2, 1, 3])
        have hmf : ∀ (fn : Fn) (first cap : Array Value) (w : World), (Instr.makeFunc fn first cap).run Tryd.prog w = .ok (.func fn first cap) w := fun _ _ _ _ => rfl
        clear H HX16
        go_wp2_with fail
        refine (countA_ok (w0 := w0) VS nS vsc (PI.sgs ts) _ _ (fun k : Nat => Bk g14 67 [.slice VB 30 cb] :: Bk g13 67 [.slice VA 286 ca] :: Row 3 1 (.slice VB 30 cb) 30 (cellsN (PI.cnts 30 (PI.farK (PI.sgs ts) k))) :: Row 3 1 (.slice VA 286 ca) 286 (cellsN (PI.cnts 286 (PI.symK (PI.sgs ts) k))) :: Row 102 3 (.slice VS nS vsc) nS (cellsS (PI.sgs ts)) :: Row 5 1 v2 (PI.toksO O ts).length (cells8 (PI.toksO O ts)) :: Pen g4 B3 :: Bk g7 42 [.int .u8 (kd0 : Int), .slice Bq bn bc, .slice Cq cn cc] :: X :: L) HX18.out HNS.out.symm (by omega) HSOK.out (fun k _ w0 w h => row3 h 4 rfl) (fun k X9 w9 hk Hk => cloA_step g13 g14 k nS _ _ (PI.sgs ts) Hk (by rw [HNS.out]; exact hk) (by rw [HNS.out]; omega) HSOK.out)).mono ?_
        rintro _ wi ⟨rfl, H19⟩
        have H20 : Sp w0 (Bk g14 67 [.slice VB 30 cb] :: Bk g13 67 [.slice VA 286 ca] :: Row 3 1 (.slice VB 30 cb) 30 (cellsN (PI.cnts 30 (PI.farsOf ts))) :: Row 3 1 (.slice VA 286 ca) 286 (cellsN (PI.cnts 286 (PI.symsOf ts))) :: Row 102 3 (.slice VS nS vsc) nS (cellsS (PI.sgs ts)) :: Row 5 1 v2 (PI.toksO O ts).length (cells8 (PI.toksO O ts)) :: Pen g4 B3 :: Bk g7 42 [.int .u8 (kd0 : Int), .slice Bq bn bc, .slice Cq cn cc] :: X :: L) wi := by
         have h := H19
         have ht := PI.symK_toks ts
         rw [HNS.out] at ht
         simp only [ht.1, ht.2] at h
         exact h
        have HX20 := Lib.hid H20
        have hkc := PI.kcount (PI.sgs ts) nS
        have hts := PI.symK_toks ts
        rw [HNS.out] at hts
        rw [hts.1, hts.2] at hkc
        have HVAB : Hid (∀ x ∈ PI.cnts 286 (PI.symsOf ts), x ≤ 4294967296) := Lib.hid fun x hx => by have := PI.cnts_le _ _ x hx; omega
        have HVBB : Hid (∀ x ∈ PI.cnts 30 (PI.farsOf ts), x ≤ 4294967296) := Lib.hid fun x hx => by have := PI.cnts_le _ _ x hx; omega
        have HVA : Hid (Ent (Row 3 1 (.slice VB 30 cb) 30 (cellsN (PI.cnts 30 (PI.farsOf ts))) :: Row 3 1 (.slice VA 286 ca) 286 (cellsN (PI.cnts 286 (PI.symsOf ts))) :: Row 102 3 (.slice VS nS vsc) nS (cellsS (PI.sgs ts)) :: Row 5 1 v2 (PI.toksO O ts).length (cells8 (PI.toksO O ts)) :: Pen g4 B3 :: Bk g7 42 [.int .u8 (kd0 : Int), .slice Bq bn bc, .slice Cq cn cc] :: X :: L) fun w => Rd w VA (cellsN (PI.cnts 286 (PI.symsOf ts)))) := Lib.hid fun w0 w h => row3 h 1 rfl
        have HVB : Hid (Ent (Row 3 1 (.slice VB 30 cb) 30 (cellsN (PI.cnts 30 (PI.farsOf ts))) :: Row 3 1 (.slice VA 286 ca) 286 (cellsN (PI.cnts 286 (PI.symsOf ts))) :: Row 102 3 (.slice VS nS vsc) nS (cellsS (PI.sgs ts)) :: Row 5 1 v2 (PI.toksO O ts).length (cells8 (PI.toksO O ts)) :: Pen g4 B3 :: Bk g7 42 [.int .u8 (kd0 : Int), .slice Bq bn bc, .slice Cq cn cc] :: X :: L) fun w => Rd w VB (cellsN (PI.cnts 30 (PI.farsOf ts)))) := Lib.hid fun w0 w h => row3 h 0 rfl
        clear HX18 H19 H20 hkc hts
        go_wp2_with fail
        refine wp_region_sp (L := (Row 3 1 (.slice VB 30 cb) 30 (cellsN (PI.cnts 30 (PI.farsOf ts))) :: Row 3 1 (.slice VA 286 ca) 286 (cellsN (PI.cnts 286 (PI.symsOf ts))) :: Row 102 3 (.slice VS nS vsc) nS (cellsS (PI.sgs ts)) :: Row 5 1 v2 (PI.toksO O ts).length (cells8 (PI.toksO O ts)) :: Pen g4 B3 :: Bk g7 42 [.int .u8 (kd0 : Int), .slice Bq bn bc, .slice Cq cn cc] :: X :: L)) (fun ix vx => ([(· = .slice VA 286 ca), (fun _ => True), (· = .slice VB 30 cb), (fun _ => True), (· = undef), (· = undef)] : List (Value → Prop)).getD ix (fun _ => True) vx)
         (fun ix vx => ([fun _ => [], fun u => [Row 3 1 u 286 (cellsN (PI.lensA ts))], fun _ => [], fun u => [Row 3 1 u 30 (cellsN (PI.lensB ts))], fun _ => [Ex fun u => Star (Bk g13 67 [u]) (Row 3 1 u 286 (cellsN (PI.lensA ts)))], fun _ => [Ex fun u => Star (Bk g14 67 [u]) (Row 3 1 u 30 (cellsN (PI.lensB ts)))]] : List (Value → List Pr)).getD ix (fun _ => []) vx) (fun ix => ([[], [], [], [], [Bk g13 67 [.slice VA 286 ca]], [Bk g14 67 [.slice VB 30 cb]]] : List (List Pr)).getD ix []) 6 145
         [some 126, some 127, some 128, some 129, none, none]
         [[], [0], [], [2, 1], [1, 3, 0, 1], [3, 4, 0, 1, 2, 3, 4]]
         [[], [0], [], [0, 1, 2], [0, 1, 2, 3], [0, 1, 2, 3, 4]]
         [[], [], [], [], [1], [3]]
         [[4], [], [5], [], [], []]
         [(13, .pointer (some ⟨g13, 0, none⟩)), (14, .pointer (some ⟨g14, 0, none⟩))]
         (by kernel_rfl) rfl (by decide) (by rfl) rfl (by decide +kernel) (by decide +kernel) (by rfl) rfl rfl (by decide) (by simp) (by rfl) (HX20.out.pick 2 [1, 0]) ?hstep ?hend
        case hstep =>
         refine ⟨?_, ⟨?_, ⟨?_, ⟨?_, ⟨?_, ⟨?_, trivial⟩⟩⟩⟩⟩⟩
         ·intro x wx A rest hN hS hE H K hK0
          have e13 : A.tmps[13]?.getD undef = .pointer (some ⟨g13, 0, none⟩) := hN (13, .pointer (some ⟨g13, 0, none⟩)) (by simp)
          replace H : Sp w0 ((Bk g13 67 [.slice VA 286 ca]) :: rest) wx := H
          have hK : Hid (∀ (v : Value) (w' : World), v = .slice VA 286 ca → Sp w0 ((Bk g13 67 [.slice VA 286 ca]) :: rest) w' → K (A.put (some 126) v) w') := Lib.hid hK0
          clear hK0 hN hS hE
          have c : wx.cell? ⟨g13, 0, none⟩ = some (.slice VA 286 ca) := H.cell 0 rfl 0
          change Oper.wp _ _ A wx K _
          go_step
          exact hK.out _ _ rfl (H)
         ·intro x wx A rest hN hS hE H K hK0
          have e126 : A.tmps[126]?.getD undef = .slice VA 286 ca := ((hS 0 (by decide)).2 126 rfl).trans (hS 0 (by decide)).1
          replace H : Sp w0 (rest) wx := H
          have hK : Hid (∀ (v : Value) (w' : World), (fun _ => True) v → Sp w0 ((Row 3 1 v 286 (cellsN (PI.lensA ts))) :: rest) w' → K (A.put (some 127) v) w') := Lib.hid hK0
          clear hK0 hN hS
          change Oper.wp _ _ A wx K _
          go_wp2_with fail
          refine (plens_ok VA 286 ca (PI.cnts 286 (PI.symsOf ts)) 15 H (PI.cnts_len _ _).symm (hE _ HVA.out) (by omega) (by omega) (by omega) HVAB.out (by decide)).mono ?_
          rintro _ w9 ⟨v9, rfl, H9⟩
          exact hK.out _ _ trivial H9
         ·intro x wx A rest hN hS hE H K hK0
          have e14 : A.tmps[14]?.getD undef = .pointer (some ⟨g14, 0, none⟩) := hN (14, .pointer (some ⟨g14, 0, none⟩)) (by simp)
          replace H : Sp w0 ((Bk g14 67 [.slice VB 30 cb]) :: rest) wx := H
          have hK : Hid (∀ (v : Value) (w' : World), v = .slice VB 30 cb → Sp w0 ((Bk g14 67 [.slice VB 30 cb]) :: rest) w' → K (A.put (some 128) v) w') := Lib.hid hK0
          clear hK0 hN hS hE
          have c : wx.cell? ⟨g14, 0, none⟩ = some (.slice VB 30 cb) := H.cell 0 rfl 0
          change Oper.wp _ _ A wx K _
          go_step
          exact hK.out _ _ rfl (H)
         ·intro x wx A rest hN hS hE H K hK0
          have e128 : A.tmps[128]?.getD undef = .slice VB 30 cb := ((hS 2 (by decide)).2 128 rfl).trans (hS 2 (by decide)).1
          replace H : Sp w0 (rest) wx := H
          have hK : Hid (∀ (v : Value) (w' : World), (fun _ => True) v → Sp w0 ((Row 3 1 v 30 (cellsN (PI.lensB ts))) :: rest) w' → K (A.put (some 129) v) w') := Lib.hid hK0
          clear hK0 hN hS
          change Oper.wp _ _ A wx K _
          go_wp2_with fail
          refine (plens_ok VB 30 cb (PI.cnts 30 (PI.farsOf ts)) 15 H (PI.cnts_len _ _).symm (hE _ HVB.out) (by omega) (by omega) (by omega) HVBB.out (by decide)).mono ?_
          rintro _ w9 ⟨v9, rfl, H9⟩
          exact hK.out _ _ trivial H9
         ·intro x wx A rest hN hS hE H K hK0
          have e13 : A.tmps[13]?.getD undef = .pointer (some ⟨g13, 0, none⟩) := hN (13, .pointer (some ⟨g13, 0, none⟩)) (by simp)
          have q127 := (hS 1 (by decide)).1
          have e127 : A.tmps[127]?.getD undef = x 1 := (hS 1 (by decide)).2 127 rfl
          replace H : Sp w0 ((Bk g13 67 [.slice VA 286 ca]) :: (Row 3 1 (x 1) 286 (cellsN (PI.lensA ts))) :: rest) wx := H
          have hK : Hid (∀ (v : Value) (w' : World), v = undef → Sp w0 ((Ex fun u => Star (Bk g13 67 [u]) (Row 3 1 u 286 (cellsN (PI.lensA ts)))) :: rest) w' → K (A.put none v) w') := Lib.hid hK0
          clear hK0 hN hS hE
          obtain ⟨x9, ex9⟩ : ∃ x9, x 1 = x9 := ⟨_, rfl⟩
          rw [ex9] at e127 H
          obtain ⟨V9, c9, rfl, _, _⟩ := Row.form H 1 rfl
          have c0 : wx.cell? ⟨g13, 0, none⟩ = some (.slice VA 286 ca) := H.cell 0 rfl 0
          have z0 : wx.frozen? ⟨g13, 0, none⟩ = false := H.frozen 0 rfl 0
          change Oper.wp _ _ A wx K _
          go_step
          exact hK.out _ _ rfl (Sp.ex _ (Sp.star (H.set 0 (.slice V9 286 c9))))
         ·intro x wx A rest hN hS hE H K hK0
          have e14 : A.tmps[14]?.getD undef = .pointer (some ⟨g14, 0, none⟩) := hN (14, .pointer (some ⟨g14, 0, none⟩)) (by simp)
          have q129 := (hS 3 (by decide)).1
          have e129 : A.tmps[129]?.getD undef = x 3 := (hS 3 (by decide)).2 129 rfl
          replace H : Sp w0 ((Bk g14 67 [.slice VB 30 cb]) :: (Row 3 1 (x 3) 30 (cellsN (PI.lensB ts))) :: rest) wx := H
          have hK : Hid (∀ (v : Value) (w' : World), v = undef → Sp w0 ((Ex fun u => Star (Bk g14 67 [u]) (Row 3 1 u 30 (cellsN (PI.lensB ts)))) :: rest) w' → K (A.put none v) w') := Lib.hid hK0
          clear hK0 hN hS hE
          obtain ⟨x9, ex9⟩ : ∃ x9, x 3 = x9 := ⟨_, rfl⟩
          rw [ex9] at e129 H
          obtain ⟨V9, c9, rfl, _, _⟩ := Row.form H 1 rfl
          have c0 : wx.cell? ⟨g14, 0, none⟩ = some (.slice VB 30 cb) := H.cell 0 rfl 0
          have z0 : wx.frozen? ⟨g14, 0, none⟩ = false := H.frozen 0 rfl 0
          change Oper.wp _ _ A wx K _
          go_step
          exact hK.out _ _ rfl (Sp.ex _ (Sp.star (H.set 0 (.slice V9 30 c9))))
        case hend =>
         intro x wx A hA hS H
         replace H : Sp w0 ((Ex fun u => Star (Bk g13 67 [u]) (Row 3 1 u 286 (cellsN (PI.lensA ts)))) :: (Ex fun u => Star (Bk g14 67 [u]) (Row 3 1 u 30 (cellsN (PI.lensB ts)))) :: (Row 3 1 (.slice VB 30 cb) 30 (cellsN (PI.cnts 30 (PI.farsOf ts))) :: Row 3 1 (.slice VA 286 ca) 286 (cellsN (PI.cnts 286 (PI.symsOf ts))) :: Row 102 3 (.slice VS nS vsc) nS (cellsS (PI.sgs ts)) :: Row 5 1 v2 (PI.toksO O ts).length (cells8 (PI.toksO O ts)) :: Pen g4 B3 :: Bk g7 42 [.int .u8 (kd0 : Int), .slice Bq bn bc, .slice Cq cn cc] :: X :: L)) wx := H
         clear hS
         simp only [putAll, Act.put, List.setIfInBounds_toArray, List.set_cons_succ, List.set_cons_zero, Nat.reduceAdd] at hA
         subst hA
         obtain ⟨la, H⟩ := H.unex
         replace H := H.unstar.pick 3 [2, 0, 1]
         obtain ⟨lb9, H⟩ := H.unex
         replace H := H.unstar
         obtain ⟨LA, lca, rfl, _, _⟩ := Row.form H 3 rfl
         obtain ⟨LB, lcb, rfl, _, _⟩ := Row.form H 1 rfl
         have e13 : wx.cell? ⟨g13, 0, none⟩ = some (.slice LA 286 lca) := H.cell 2 rfl 0
         have e14 : wx.cell? ⟨g14, 0, none⟩ = some (.slice LB 30 lcb) := H.cell 0 rfl 0
         obtain ⟨a1, a2, a3⟩ := PI.lensA_ok ts
         obtain ⟨b1, b2, b3⟩ := PI.lensB_ok ts
         have hhl := PI.headsW_len _ _ a2 b2 a3 b3
         have hph := pheads_ok g4 lca lcb LA LB (PI.lensA ts) (PI.lensB ts) B3 (H.pick 9 [8, 0, 1, 2, 3, 4, 5, 6, 7]) a2 b2 a3 b3 (by omega) (fun w0 w h => row3 h 3 rfl) (fun w0 w h => row3 h 1 rfl)
         have HPH := Lib.hid hph
         have HA := Lib.hid (And.intro a1 (And.intro a2 a3))
         have HBb := Lib.hid (And.intro b1 (And.intro b2 b3))
         clear hph H HX20 a1 a2 a3 b1 b2 b3
         go_wp2_with fail
         refine HPH.out.mono ?_
         rintro _ wj ⟨rfl, H21⟩
         have e13 : wj.cell? ⟨g13, 0, none⟩ = some (.slice LA 286 lca) := H21.cell 3 rfl 0
         have e14 : wj.cell? ⟨g14, 0, none⟩ = some (.slice LB 30 lcb) := H21.cell 1 rfl 0
         have hpb := pbody_ok g4 nS vsc 286 lca 30 lcb VS LA LB (PI.lensA ts) (PI.lensB ts) (PI.sgs ts) (B3 ++ PI.headsW (PI.lensA ts) (PI.lensB ts)) H21 HNS.out.symm HBb.out.2.1.symm HA.out.2.1.symm HSOK.out (by rw [List.length_append]; omega) (by omega) (by omega) (by omega) (by omega) (by omega) HBb.out.2.2 HA.out.2.2 (PI.book_sum HBb.out.1) (PI.book_sum HA.out.1)
          (fun w0 w h => row3 h 6 rfl) (fun w0 w h => row3 h 1 rfl) (fun w0 w h => row3 h 3 rfl)
         have hsw : PI.sgsW (PI.lensA ts) (PI.lensB ts) (PI.sgs ts) nS = PI.toksW (PI.lensA ts) (PI.lensB ts) ts := by rw [← HNS.out]; exact PI.sgsW_toks _ _ _
         rw [hsw, List.append_assoc] at hpb
         clear hsw
         have HPB := Lib.hid hpb
         have HB1 : Hid (PI.bodyW ⟨kd0, bs, cs⟩ B3.length O = PI.headsW (PI.lensA ts) (PI.lensB ts) ++ PI.toksW (PI.lensA ts) (PI.lensB ts) ts) := Lib.hid (by
          unfold PI.bodyW
          rw [if_neg (show ¬ (kd0 % 3 : Nat) = 0 by have := HKD.out; omega), if_neg (show ¬ (kd0 % 3 : Nat) = 1 by have := HKD.out; omega), HTS.out])
         have HB2 : Hid (PI.partO ⟨kd0, bs, cs⟩ O = PI.toksO O ts) := Lib.hid (by
          unfold PI.partO
          rw [if_neg (show ¬ (kd0 % 3 : Nat) = 0 by have := HKD.out; omega), HTS.out])
         clear hpb HPH H21
         go_wp2_with fail
         refine HPB.out.mono ?_
         rintro _ wh ⟨rfl, H17⟩
         have HX17 := Lib.hid (H17.pick 10 [0, 8])
         clear HPB H17
         go_wp2_with fail
         go_roundw
         case rel =>
          refine ⟨i + 1, by go_num, by omega, ?_⟩
          have e1 : (PI.stW lp (i + 1)).1 = B3 ++ (PI.headsW (PI.lensA ts) (PI.lensB ts) ++ PI.toksW (PI.lensA ts) (PI.lensB ts) ts) := by rw [HN1b.out, HB1.out]
          have e2 : (PI.stW lp (i + 1)).2 = PI.toksO O ts := by rw [HN2.out, HB2.out]
          rw [e1, e2]
          exact HX17.out
         case measure => first | (simp [intOf]; omega) | simp [intOf]
   ·have k1 : ¬ (i : Int) < (nk : Int) := by omega
    obtain rfl : nk = i := by omega
    obtain ⟨v4, H5⟩ := pen_open H3
    have c5 : wr.cell? ⟨g4, 0, none⟩ = some v4 := H5.cell 0 rfl 0
    unfold PenR at H5
    rw [← HB.out, ← HO.out] at H5
    have HX5 := Lib.hid (H5.pick 4 [1, 2])
    clear H3 H5
    go_wp2_with fail
    go_ret2
    exact ⟨_, _, rfl, HX5.out⟩
end Go.Proofs.YtiogaejfcenooaaDoor

