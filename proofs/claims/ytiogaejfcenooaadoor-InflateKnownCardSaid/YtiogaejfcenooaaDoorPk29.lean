/- A pack of texts: InfX. -/
import Derived.Test.YtiogaejfcenooaaDoorPk25
import Derived.Test.YtiogaejfcenooaaDoorPk28
namespace Go.Proofs.YtiogaejfcenooaaDoor
set_option linter.unusedVariables false
set_option linter.unusedSimpArgs false
open Go.RowKit
theorem infoS : (Tryd.prog.info? 102).map (fun i => (i.zero, i.size, i.bytes)) = some (some (.agg #[.int .i64 0, .int .i64 0, .int .i64 0]), 3, 24) := by kernel_rfl
def litS (l : List UInt8) : List PI.Sg := l.map fun c => (c.toNat, 0, 0)
theorem litS_toks (l : List UInt8) : (PI.lits l).flatMap PI.sgsT = litS l := by
 induction l with
 | nil => rfl
 | cons c l ih =>
  show PI.sgsT (.lit c) ++ (PI.lits l).flatMap PI.sgsT = _
  rw [ih]; rfl
theorem cellsS_append (a b : List PI.Sg) : cellsS (a ++ b) = cellsS a ++ cellsS b := List.flatMap_append ..
theorem take_snoc {α : Type} (l : List α) (i : Nat) (z : α) (h : i < l.length) : l.take (i + 1) = l.take i ++ [l.getD i z] := by
 rw [List.take_succ_eq_append_getElem h, List.getD_eq_getElem?_getD, List.getElem?_eq_getElem h]; rfl
theorem PI.cps_none (l : List (Nat × Nat)) : PI.cps l [] = [] := by cases l <;> rfl
theorem PI.cps_cons {c : Nat × Nat} {r : List (Nat × Nat)} {out : List UInt8} (h : 0 < out.length) : PI.cps (c :: r) out = .cpy (3 + c.1 % 256) (1 + c.2 % min out.length 32768) :: PI.cps r (PI.copy (1 + c.2 % min out.length 32768) (3 + c.1 % 256) out) := by
 rw [PI.cps, if_neg (by omega)]
theorem rdPr {w : World} {A : Option Addr} {l : List (Nat × Nat)} (h : Rd w A (cellsPr l)) {i : Nat} (hi : i < l.length) : ∃ ad, A = some ad ∧ w.cell? (ad.add (i * 2)) = some (.int .u16 ((l.getD i (0, 0)).1 : Int)) ∧ w.cell? ⟨(ad.add (i * 2)).block, (ad.add (i * 2)).off + 1, none⟩ = some (.int .u16 ((l.getD i (0, 0)).2 : Int)) := by
 obtain ⟨ad, e, hc⟩ := h (fun h0 => by
  have := congrArg List.length h0
  unfold cellsPr at this
  rw [flat_len _ 2 (fun _ => rfl)] at this
  simp at this
  omega)
 have key : ∀ j, j < 2 → (cellsPr l)[i * 2 + j]? = ([Value.int .u16 ((l.getD i (0, 0)).1 : Int), .int .u16 ((l.getD i (0, 0)).2 : Int)] : List Value)[j]? := fun j hj => by
  obtain ⟨p, h1, h2⟩ := flat_get (fun c : Nat × Nat => [Value.int .u16 (c.1 : Int), .int .u16 (c.2 : Int)]) 2 (fun _ => rfl) l i j hj hi
  have e2 : p = l.getD i (0, 0) := by rw [List.getD_eq_getElem?_getD, h1]; rfl
  rw [← e2]; exact h2
 refine ⟨ad, e, hc _ _ (key 0 (by omega)), ?_⟩
 rw [field_addr ad (i * 2) 1 (by omega)]
 exact hc _ _ (key 1 (by omega))
set_option maxRecDepth 100000 in
set_option maxHeartbeats 16000000 in
theorem psigns_ok (x : PartV) (out : List UInt8) (vo : Value) {w0 w : World} {L : List Pr} (H : Sp w0 (Row 5 1 vo out.length (cells8 out) :: L) w) (hx : Ent L fun w => x.Ok w) (ho : out.length ≤ 1000000) :
  Calls Tryd.prog 24 #[.agg x.cells.toArray, vo] w fun e w' => ∃ v1 v2, e = .returned (.tuple #[v1, v2]) ∧ Sp w0 (Row 102 3 v1 (PI.sgs (PI.toks x.p out)).length (cellsS (PI.sgs (PI.toks x.p out))) :: Row 5 1 v2 (PI.toksO out (PI.toks x.p out)).length (cells8 (PI.toksO out (PI.toks x.p out))) :: L) w' := by
 obtain ⟨i0, hi, hz0, hz1, hz2⟩ := info_parts info8
 obtain ⟨i1, hj, hj0, hj1, hj2⟩ := info_parts infoS
 obtain ⟨kb, hby, ⟨C, cc, hcv, hcr, hcl, hcm⟩, hcs⟩ := hx _ _ H.tail
 obtain ⟨B, bc, hbv, hbr, hbl, hbm⟩ := hby
 obtain ⟨⟨kd, bs, cs⟩, bv, cv⟩ := x
 simp only at kb hbv hbr hbl hcv hcr hcl hcs
 subst hbv hcv
 obtain ⟨bn, hbn⟩ : ∃ bn, bs.length = bn := ⟨_, rfl⟩
 obtain ⟨cn, hcn⟩ : ∃ cn, cs.length = cn := ⟨_, rfl⟩
 obtain ⟨FQ9, hFS⟩ : ∃ FQ9, PI.sgs (PI.toks ⟨kd, bs, cs⟩ out) = FQ9 := ⟨_, rfl⟩
 obtain ⟨FO, hFO⟩ : ∃ FO, PI.toksO out (PI.toks ⟨kd, bs, cs⟩ out) = FO := ⟨_, rfl⟩
 show Calls _ _ _ _ fun e w' => ∃ v1 v2, e = .returned (.tuple #[v1, v2]) ∧ Sp w0 (Row _ 3 v1 (PI.sgs (PI.toks ⟨kd, bs, cs⟩ out)).length (cellsS (PI.sgs (PI.toks ⟨kd, bs, cs⟩ out))) :: Row _ 1 v2 (PI.toksO out (PI.toks ⟨kd, bs, cs⟩ out)).length (cells8 (PI.toksO out (PI.toks ⟨kd, bs, cs⟩ out))) :: L) w'
 rw [hFS, hFO]
 have h1 : litS (bs.take 80) ++ (PI.cps (cs.take 6) (out ++ bs.take 80)).flatMap PI.sgsT ++ [(256, 0, 0)] = FQ9 := by
  rw [← hFS]; unfold PI.sgs PI.toks
  rw [List.flatMap_append, litS_toks]
 have h2 : PI.toksO (out ++ bs.take 80) (PI.cps (cs.take 6) (out ++ bs.take 80)) = FO := by
  rw [← hFO]; unfold PI.toks
  rw [PI.toksO_app, PI.lits_out]
 have HF1 := Lib.hid h1
 have HF2 := Lib.hid h2
 have HBN := Lib.hid hbn
 have HCN := Lib.hid hcn
 have HCS := Lib.hid hcs
 have HX : Hid (Ent L fun w => Rd w B (cells8 bs) ∧ Rd w C (cellsPr cs)) := Lib.hid fun w0 w h => by
  obtain ⟨_, ⟨B2, c2, e2, r2, _⟩, ⟨C3, c3, e3, r3, _⟩, _⟩ := hx w0 w h
  simp only at e2 e3 r2 r3
  injection e2 with e2 _ _
  injection e3 with e3 _ _
  subst e2 e3
  exact ⟨r2, r3⟩
 show Calls _ _ #[.agg #[.int .u8 (kd : Int), .slice B bs.length bc, .slice C cs.length cc], vo] _ _
 rw [hbn, hcn]
 have H1 := (H.newBk [.int .u8 (kd : Int), .slice B bn bc, .slice C cn cc] 42).rowNil 102 3
 have H2 := H1.pick 3 [1, 0, 2]
 clear hx h1 h2 hcs hbr hcr H1 H hFS hFO hbn hcn
 go_enter Tryd.func24, Tryd.ntmps24
 go_wp2_with fail
 generalize w.heap.size = gb at H2 ⊢
 generalize World.alloc _ _ = w1 at H2 ⊢
 go_loopw [1, 6, 7] (fun ov rv iv wr => ∃ i : Nat, iv = .int .i64 (i : Int) ∧ i ≤ bn ∧ i ≤ 80 ∧ Sp w0 (Bk gb 42 [.int .u8 (kd : Int), .slice B bn bc, .slice C cn cc] :: Row 102 3 rv i (cellsS (litS (bs.take i))) :: Row 5 1 ov (out.length + i) (cells8 (out ++ bs.take i)) :: L) wr) (fun _ _ iv _ => 80 - (intOf iv).toNat)
 case atStart => exact ⟨0, rfl, Nat.zero_le _, Nat.zero_le _, by rw [List.take_zero, List.append_nil]; exact H2⟩
 case round =>
  obtain ⟨i, rfl, hib, hi80, H3⟩ := hrel
  clear H2
  have c1 : wr.cell? ⟨gb, 1, none⟩ = some (.slice B bn bc) := H3.cell 0 rfl 1
  by_cases hlt : i < bn ∧ i < 80
  ·obtain ⟨hlb, hl80⟩ := hlt
   have k1 : (i : Int) < (bn : Int) := by omega
   have k2 : (i : Int) < 80 := by omega
   have hil : i < bs.length := by rw [HBN.out]; exact hlb
   obtain ⟨VR, vrc, rfl, _, _⟩ := Row.form H3 1 rfl
   obtain ⟨VO, voc, rfl, _, _⟩ := Row.form H3 2 rfl
   obtain ⟨ab, rfl, hcell⟩ := (HX.out _ _ (H3.pick 3 [])).1 (fun h0 => by
    have := congrArg List.length h0
    simp [cells8] at this
    rw [this] at hil; simp at hil)
   have hcell := hcell i _ (cells8_get bs i hil)
   obtain ⟨cu, hcu⟩ : ∃ cu : UInt8, bs.getD i 0 = cu := ⟨_, rfl⟩
   rw [hcu] at hcell
   have htk : bs.take (i + 1) = bs.take i ++ [cu] := by rw [take_snoc bs i 0 hil, hcu]
   have HTK := Lib.hid htk
   have hu256 := cu.toNat_lt
   obtain ⟨cn8, hcn8⟩ : ∃ x, cu.toNat = x := ⟨_, rfl⟩
   rw [hcn8] at hcell hu256
   have HC8 := Lib.hid hcn8
   have H4 := H3.newBk (sgC ((cn8, 0, 0) : PI.Sg)) 102
   have HR4 := Lib.hid (Rd.of_blk (H4.blk 0 rfl))
   have HH4 := Lib.hid (H4.pick 4 [2, 0, 1, 3])
   clear hcu htk hcn8 hil H4
   go_wp2_with (at_builtin; refine wpList_append_sp rfl _ _ 64 rfl 102 i1 (.agg #[.int .i64 0, .int .i64 0, .int .i64 0]) 3 24 Tryd.underlying64 hj hj0 hj1 hj2 rfl (by decide) _ i (cellsS (litS (bs.take i))) rfl HH4.out (some ⟨wr.heap.size, 0, none⟩) 1 1 (sgC ((cn8, 0, 0) : PI.Sg)) rfl rfl HR4.out (sgC_one _) (by unfold maxLen; omega) (by omega) ?_)
   intro v5 w5 H5 _
   clear HH4 HR4 H3
   have c1 : w5.cell? ⟨gb, 1, none⟩ = some (.slice (some ab) bn bc) := H5.cell 2 rfl 1
   have hcell : w5.cell? (ab.add i) = some (.int .u8 (cn8 : Int)) := by
    obtain ⟨ab2, e2, hc⟩ := (HX.out _ _ (H5.pick 4 [])).1 (fun h0 => by
     have := congrArg List.length h0
     simp [cells8] at this
     have h9 := HBN.out
     rw [this] at h9; simp at h9; omega)
    injection e2 with e2
    subst e2
    have hil : i < bs.length := by rw [HBN.out]; exact hlb
    have h8 := hc i _ (cells8_get bs i hil)
    have h7 := HTK.out
    rw [take_snoc bs i 0 hil] at h7
    have h6 : bs.getD i 0 = cu := by simpa using h7
    rw [h6, HC8.out] at h8
    exact h8
   have H6 := H5.newBk [.int .u8 (cn8 : Int)] 5
   have HR6 := Lib.hid (Rd.of_blk (H6.blk 0 rfl))
   have HH6 := Lib.hid (H6.pick 5 [4, 0, 1, 2, 3])
   clear H6
   go_wp2_with (at_builtin; refine wpList_append_sp rfl _ _ 24 rfl 5 i0 (.int .u8 0) 1 1 Tryd.underlying24 hi hz0 hz1 hz2 rfl (by decide) _ (out.length + i) (cells8 (out ++ bs.take i)) rfl HH6.out (some ⟨w5.heap.size, 0, none⟩) 1 1 [.int .u8 (cn8 : Int)] rfl rfl HR6.out (by intro u hu; rw [List.mem_singleton.1 hu]; rfl) (by unfold maxLen; omega) (by omega) ?_)
   intro v7 w7 H7 _
   clear HH6 HR6 H5
   have HH7 := Lib.hid (H7.pick 5 [4, 2, 0])
   clear H7
   go_wp2_with fail
   go_roundw
   case rel =>
    refine ⟨i + 1, by go_num, by omega, by omega, ?_⟩
    have h := HH7.out
    rw [HTK.out]
    have e1 : cellsS (litS (bs.take i ++ [cu])) = cellsS (litS (bs.take i)) ++ sgC ((cn8, 0, 0) : PI.Sg) := by
     unfold litS
     rw [List.map_append, cellsS_append]
     congr 1
     rw [← HC8.out]; simp [cellsS]
    have e2 : cells8 (out ++ (bs.take i ++ [cu])) = cells8 (out ++ bs.take i) ++ [.int .u8 (cn8 : Int)] := by
     rw [← List.append_assoc, ← HC8.out]; simp [cells8]
    rw [e1, e2]
    exact h
   case measure => first | (simp [intOf]; omega) | simp [intOf]
  ·by_cases hlb : i < bn
   ·have k1 : (i : Int) < (bn : Int) := by omega
    have k2 : ¬ (i : Int) < 80 := by omega
    have hib2 : i = min bn 80 := by omega
    clear hlt
    have HT0 : Hid (bs.take i = bs.take 80) := Lib.hid (by
     rw [List.take_eq_take_iff, HBN.out]; omega)
    have l1 : (litS (bs.take 80)).length = i := by
     unfold litS; rw [List.length_map, List.length_take, HBN.out]; omega
    have l2 : (out ++ bs.take 80).length = out.length + i := by
     rw [List.length_append, List.length_take, HBN.out]; omega
    rw [HT0.out, ← l2] at H3
    rw [← l1] at H3
    have HX0 := Lib.hid H3
    clear l1 l2 H3
    have hol : (out ++ bs.take 80).length ≤ out.length + 80 := by rw [List.length_append, List.length_take]; omega
    have hrl : (litS (bs.take 80)).length ≤ 80 := by unfold litS; rw [List.length_map, List.length_take]; omega
    clear hib2
    go_wp2_with fail
    clear c1
    go_loopw [1, 6, 8] (fun ov rv iv wr => ∃ (i : Nat) (R : List PI.Sg) (o : List UInt8), iv = .int .i64 (i : Int) ∧ i ≤ 6 ∧ i ≤ cn ∧ R.length ≤ 80 + 2 * i ∧ o.length ≤ out.length + 80 + 258 * i ∧ R ++ (PI.cps ((cs.take 6).drop i) o).flatMap PI.sgsT ++ [(256, 0, 0)] = FQ9 ∧ PI.toksO o (PI.cps ((cs.take 6).drop i) o) = FO ∧ Sp w0 (Bk gb 42 [.int .u8 (kd : Int), .slice B bn bc, .slice C cn cc] :: Row 102 3 rv R.length (cellsS R) :: Row 5 1 ov o.length (cells8 o) :: L) wr) (fun _ _ iv _ => 6 - (intOf iv).toNat)
    case atStart => exact ⟨0, _, _, rfl, Nat.zero_le _, Nat.zero_le _, hrl, hol, HF1.out, HF2.out, HX0.out⟩
    case round =>
     obtain ⟨i, R, o, rfl, hi6, hic, hrl, hol, hinv1, hinv2, H1⟩ := hrel
     clear HX0 HF1 HF2 HT0
     have HI1 := Lib.hid hinv1
     have HI2 := Lib.hid hinv2
     clear hinv1 hinv2
     have c2 : wr.cell? ⟨gb, 2, none⟩ = some (.slice C cn cc) := H1.cell 0 rfl 2
     obtain ⟨VR, vrc, rfl, _, _⟩ := Row.form H1 1 rfl
     obtain ⟨VO, voc, rfl, _, _⟩ := Row.form H1 2 rfl
     obtain ⟨ol, hoL⟩ : ∃ ol, o.length = ol := ⟨_, rfl⟩
     have HOL := Lib.hid hoL
     rw [hoL] at H1 hol ⊢
     by_cases hc : i < cn
     ·have k1 : (i : Int) < (cn : Int) := by omega
      by_cases h6 : i < 6
      ·have k2 : (i : Int) < 6 := by omega
       by_cases h0 : 0 < ol
       ·have k3 : (ol : Int) > 0 := by omega
        clear hoL
        have hil : i < cs.length := by rw [HCN.out]; exact hc
        obtain ⟨ac, rfl, hp1, hp2⟩ := rdPr (HX.out _ _ (H1.pick 3 [])).2 hil
        obtain ⟨⟨x1, x2⟩, hxx⟩ : ∃ c, cs.getD i (0, 0) = c := ⟨_, rfl⟩
        have hxb := HCS.out (x1, x2) (by rw [← hxx, List.getD_eq_getElem?_getD, List.getElem?_eq_getElem hil]; exact List.getElem_mem hil)
        rw [hxx] at hp1 hp2
        simp only at hp1 hp2 hxb
        have hdr : (cs.take 6).drop i = (x1, x2) :: (cs.take 6).drop (i + 1) := by
         have hl6 : i < (cs.take 6).length := by rw [List.length_take]; omega
         rw [PI.getD_cons_drop (0, 0) hl6]
         congr 1
         rw [← hxx, List.getD_eq_getElem?_getD, List.getD_eq_getElem?_getD, List.getElem?_take_of_lt h6]
        obtain ⟨n, hn⟩ : ∃ n, 3 + x1 % 256 = n := ⟨_, rfl⟩
        obtain ⟨back, hback⟩ : ∃ b, 1 + x2 % min ol 32768 = b := ⟨_, rfl⟩
        have hcp : PI.cps ((cs.take 6).drop i) o = .cpy n back :: PI.cps ((cs.take 6).drop (i + 1)) (PI.copy back n o) := by
         rw [hdr, PI.cps_cons (by rw [HOL.out]; exact h0), HOL.out, hn, hback]
        obtain ⟨OT, hOT⟩ : ∃ OT, PI.copy back n o = OT := ⟨_, rfl⟩
        have hn3 : 3 ≤ n ∧ n ≤ 258 := by omega
        have hmm : x2 % min ol 32768 < min ol 32768 := Nat.mod_lt _ (by omega)
        have hb1 : 1 ≤ back ∧ back ≤ 32768 ∧ back ≤ ol := by omega
        rw [hOT] at hcp
        have HJ1 : Hid ((R ++ PI.sgsT (.cpy n back)) ++ (PI.cps ((cs.take 6).drop (i + 1)) OT).flatMap PI.sgsT ++ [(256, 0, 0)] = FQ9) := by
         rw [← HI1.out, hcp, List.flatMap_cons, ← List.append_assoc R]; exact Lib.hid rfl
        have HJ2 : Hid (PI.toksO OT (PI.cps ((cs.take 6).drop (i + 1)) OT) = FO) := by
         rw [← HI2.out, hcp, ← hOT]; exact Lib.hid rfl
        have HOT := Lib.hid hOT
        obtain ⟨n0, hn0⟩ : ∃ n0, x1 % 256 = n0 := ⟨_, rfl⟩
        obtain ⟨mm, hmmE⟩ : ∃ mm, min ol 32768 = mm := ⟨_, rfl⟩
        obtain ⟨r0, hr0⟩ : ∃ r0, x2 % mm = r0 := ⟨_, rfl⟩
        have y1 : (x1 : Int) % 256 = (n0 : Int) := by omega
        have y2 : 3 + (n0 : Int) = (n : Int) := by omega
        have y3 : min (ol : Int) 32768 = (mm : Int) := by omega
        have y4 : (x2 : Int) % (mm : Int) = (r0 : Int) := by rw [← hr0]; simp
        have y5 : 1 + (r0 : Int) = (back : Int) := by rw [hmmE, hr0] at hback; omega
        have y6 : ¬ (mm : Int) = 0 := by omega
        have hmm0 : 0 < mm := by omega
        have hxb1 := hxb.1
        have hxb2 := hxb.2
        have HC2 := Lib.hid c2
        obtain ⟨⟨s1, v1, b1⟩, hsa⟩ : ∃ x : PI.Sg, (257 + (PI.longS n).1, (PI.longS n).2.2, (PI.longS n).2.1) = x := ⟨_, rfl⟩
        obtain ⟨⟨s2, v2, b2⟩, hsb⟩ : ∃ x : PI.Sg, ((PI.farS back).1, (PI.farS back).2.2, (PI.farS back).2.1) = x := ⟨_, rfl⟩
        have HPL : Hid (∀ w9 : World, Sp w0 (Bk gb 42 [.int .u8 (kd : Int), .slice B bn bc, .slice (some ac) cn cc] :: Row 102 3 (.slice VR R.length vrc) R.length (cellsS R) :: Row 5 1 (.slice VO ol voc) ol (cells8 o) :: L) w9 → Calls Tryd.prog 39 #[.int .i64 (n : Int)] w9 fun e w' => e = .returned (.agg #[.int .i64 (s1 : Int), .int .i64 (v1 : Int), .int .i64 (b1 : Int)]) ∧ Sp w0 (Bk gb 42 [.int .u8 (kd : Int), .slice B bn bc, .slice (some ac) cn cc] :: Row 102 3 (.slice VR R.length vrc) R.length (cellsS R) :: Row 5 1 (.slice VO ol voc) ol (cells8 o) :: L) w') := Lib.hid fun w9 Hq => by
         have h := plong_ok n Hq hn3.1 hn3.2
         rw [hsa] at h
         exact h
        have HPF : Hid (∀ w9 : World, Sp w0 (Bk gb 42 [.int .u8 (kd : Int), .slice B bn bc, .slice (some ac) cn cc] :: Row 102 3 (.slice VR R.length vrc) R.length (cellsS R) :: Row 5 1 (.slice VO ol voc) ol (cells8 o) :: L) w9 → Calls Tryd.prog 40 #[.int .i64 (back : Int)] w9 fun e w' => e = .returned (.agg #[.int .i64 (s2 : Int), .int .i64 (v2 : Int), .int .i64 (b2 : Int)]) ∧ Sp w0 (Bk gb 42 [.int .u8 (kd : Int), .slice B bn bc, .slice (some ac) cn cc] :: Row 102 3 (.slice VR R.length vrc) R.length (cellsS R) :: Row 5 1 (.slice VO ol voc) ol (cells8 o) :: L) w') := Lib.hid fun w9 Hq => by
         have h := pfar_ok back Hq hb1.1 hb1.2.1
         rw [hsb] at h
         exact h
        have HTK : Hid (PI.sgsT (.cpy n back) = [(s1, v1, b1), (s2, v2, b2)]) := Lib.hid (by
         show [((257 + (PI.longS n).1, (PI.longS n).2.2, (PI.longS n).2.1) : PI.Sg), ((PI.farS back).1, (PI.farS back).2.2, (PI.farS back).2.1)] = _
         rw [hsa, hsb])
        clear hsa hsb
        have hbo := hb1.2.2
        have HH1 := Lib.hid H1
        clear hcp hOT hn hback hdr hxx hil hr0 hmmE hmm hn0 hxb H1
        have hbo1 := hb1.1
        go_wp2_with fail
        refine (HPL.out _ HH1.out).mono ?_
        rintro _ w3 ⟨rfl, H3⟩
        clear HH1 HPL c2
        go_wp2_with fail
        refine (HPF.out _ H3).mono ?_
        rintro _ w4 ⟨rfl, H4⟩
        have H5 := H4.newBk (sgC ((s1, v1, b1) : PI.Sg) ++ sgC ((s2, v2, b2) : PI.Sg)) 102
        have HR5 := Lib.hid (Rd.of_blk (H5.blk 0 rfl))
        have HH5 := Lib.hid (H5.pick 4 [2, 0, 1, 3])
        clear HPF H3 H5 H4
        go_wp2_with (at_builtin; refine wpList_append_sp rfl _ _ 64 rfl 102 i1 (.agg #[.int .i64 0, .int .i64 0, .int .i64 0]) 3 24 Tryd.underlying64 hj hj0 hj1 hj2 rfl (by decide) _ R.length (cellsS R) rfl HH5.out (some ⟨w4.heap.size, 0, none⟩) 2 2 (sgC ((s1, v1, b1) : PI.Sg) ++ sgC ((s2, v2, b2) : PI.Sg)) rfl rfl HR5.out (by intro u hu; rcases List.mem_append.1 hu with h | h <;> exact sgC_one _ _ h) (by unfold maxLen; omega) (by omega) ?_)
        intro v5 w5 H6 _
        have HH6 := Lib.hid (H6.pick 4 [3, 0, 2])
        clear HR5 HH5 H6
        go_wp2_with fail
        go_loopw [1, 85] (fun ov jv wr => ∃ (j : Nat) (o' : List UInt8), jv = .int .i64 (j : Int) ∧ j ≤ n ∧ o'.length = ol + j ∧ PI.copy back (n - j) o' = OT ∧ Sp w0 (Row 5 1 ov o'.length (cells8 o') :: Row 102 3 v5 (R.length + 2) (cellsS R ++ (sgC ((s1, v1, b1) : PI.Sg) ++ sgC ((s2, v2, b2) : PI.Sg))) :: Bk gb 42 [.int .u8 (kd : Int), .slice B bn bc, .slice (some ac) cn cc] :: L) wr) (fun _ jv _ => n - (intOf jv).toNat)
        case atStart => exact ⟨0, o, rfl, Nat.zero_le _, HOL.out, HOT.out, by rw [HOL.out]; exact HH6.out⟩
        case round =>
         obtain ⟨j, o', rfl, hjn, hol', hcp, H7⟩ := hrel
         clear HH6 HOT
         by_cases hj : j < n
         ·have k4 : (j : Int) < (n : Int) := by omega
          obtain ⟨VQ, vq, rfl, _, hvm⟩ := Row.form H7 0 rfl
          obtain ⟨q, hq⟩ : ∃ q, o'.length = q := ⟨_, rfl⟩
          rw [hq] at H7 hol' ⊢
          obtain ⟨ad, rfl⟩ := slice_of H7 0 rfl (by omega) (by simp [cells8, hq])
          obtain ⟨jx, hjx⟩ : ∃ jx, q - back = jx := ⟨_, rfl⟩
          have y7 : (q : Int) - (back : Int) = (jx : Int) := by omega
          have y8 : (jx : Int) < (q : Int) := by omega
          obtain ⟨bv, hbv⟩ : ∃ bv : UInt8, o'.getD jx 0 = bv := ⟨_, rfl⟩
          have hcp2 : PI.copy back (n - (j + 1)) (o' ++ [bv]) = OT := by
           rw [← hcp, show n - j = (n - (j + 1)) + 1 by omega, PI.copy, hq, hjx, hbv]
          have hcl9 : wr.cell? (ad.add jx) = some (.int .u8 (bv.toNat : Int)) := by
           obtain ⟨ad2, e, hcc⟩ := (row_ent 0 rfl _ _ H7).at_ (k := jx) (by rw [cells8, List.length_map, hq]; omega)
           injection e with e
           subst e
           have hlt2 : jx < o'.length := by rw [hq]; omega
           rw [hcc, ← hbv, List.getD_eq_getElem?_getD, List.getElem?_eq_getElem hlt2]
           simp [cells8]
          obtain ⟨b8, hb8⟩ : ∃ b8, bv.toNat = b8 := ⟨_, rfl⟩
          rw [hb8] at hcl9
          have HB8 := Lib.hid hb8
          have HCP := Lib.hid hcp2
          have HQ := Lib.hid hq
          have HOL2 := Lib.hid hol'
          have hq9 : q ≤ 100000000 := by omega
          have H8 := H7.newBk [.int .u8 (b8 : Int)] 5
          have HR8 := Lib.hid (Rd.of_blk (H8.blk 0 rfl))
          have HH8 := Lib.hid (H8.pick 2 [1, 0])
          clear hb8 hcp2 hq hcp hbv hjx hol' H8 H7
          go_wp2_with (at_builtin; refine wpList_append_sp rfl _ _ 24 rfl 5 i0 (.int .u8 0) 1 1 Tryd.underlying24 hi hz0 hz1 hz2 rfl (by decide) _ q (cells8 o') rfl HH8.out (some ⟨wr.heap.size, 0, none⟩) 1 1 [.int .u8 (b8 : Int)] rfl rfl HR8.out (by intro u hu; rw [List.mem_singleton.1 hu]; rfl) (by unfold maxLen; omega) (by omega) ?_)
          intro v9 w9 H9 _
          have HH9 := Lib.hid (H9.pick 2 [0])
          clear HR8 HH8 H9
          go_wp2_with fail
          go_roundw
          case rel =>
           have hl1 : (o' ++ [bv]).length = q + 1 := by rw [List.length_append, HQ.out]; rfl
           refine ⟨j + 1, o' ++ [bv], by go_num, by omega, by rw [hl1]; have := HOL2.out; omega, HCP.out, ?_⟩
           have ec : cells8 (o' ++ [bv]) = cells8 o' ++ [.int .u8 (b8 : Int)] := by rw [← HB8.out]; simp [cells8]
           rw [hl1, ec]
           exact HH9.out
          case measure => first | (simp [intOf]; omega) | simp [intOf]
         ·have k4 : ¬ (j : Int) < (n : Int) := by omega
          obtain rfl : j = n := by omega
          rw [Nat.sub_self] at hcp
          have hcp' : o' = OT := hcp
          subst hcp'
          have HOL2 := Lib.hid hol'
          clear hcp hol'
          go_wp2_with fail
          go_roundw
          case rel =>
           refine ⟨i + 1, R ++ PI.sgsT (.cpy j back), o', by go_num, by omega, by omega, by rw [HTK.out, List.length_append]; simp only [List.length_cons, List.length_nil]; omega, by have := HOL2.out; omega, HJ1.out, HJ2.out, ?_⟩
           have e1 : cellsS (R ++ PI.sgsT (.cpy j back)) = cellsS R ++ (sgC ((s1, v1, b1) : PI.Sg) ++ sgC ((s2, v2, b2) : PI.Sg)) := by
            rw [HTK.out, cellsS_append]; simp [cellsS]
           have e2 : (R ++ PI.sgsT (.cpy j back)).length = R.length + 2 := by rw [HTK.out, List.length_append]; rfl
           rw [e1, e2]
           exact H7.pick 3 [2, 1, 0]
          case measure => first | (simp [intOf]; omega) | simp [intOf]
       ·have k3 : ¬ (ol : Int) > 0 := by omega
        have hnil : PI.cps ((cs.take 6).drop i) o = [] := by rw [List.eq_nil_of_length_eq_zero (show o.length = 0 by rw [HOL.out]; omega)]; exact PI.cps_none _
        clear hoL
        have H4 := H1.newBk (sgC ((256, 0, 0) : PI.Sg)) 102
        have HR4 := Lib.hid (Rd.of_blk (H4.blk 0 rfl))
        have HH4 := Lib.hid (H4.pick 4 [2, 0, 1, 3])
        have HFS : Hid (R ++ [(256, 0, 0)] = FQ9) := by rw [← HI1.out, hnil]; exact Lib.hid (by simp)
        have HFO : Hid (o = FO) := by rw [← HI2.out, hnil]; exact Lib.hid rfl
        clear H4
        go_wp2_with (at_builtin; refine wpList_append_sp rfl _ _ 64 rfl 102 i1 (.agg #[.int .i64 0, .int .i64 0, .int .i64 0]) 3 24 Tryd.underlying64 hj hj0 hj1 hj2 rfl (by decide) _ R.length (cellsS R) rfl HH4.out (some ⟨wr.heap.size, 0, none⟩) 1 1 (sgC ((256, 0, 0) : PI.Sg)) rfl rfl HR4.out (sgC_one _) (by unfold maxLen; omega) (by omega) ?_)
        intro v5 w5 H5 _
        clear HH4 HR4
        go_wp2_with fail
        go_ret2
        have H6 := H5.pick 4 [0, 3]
        have e1 : cellsS R ++ sgC ((256, 0, 0) : PI.Sg) = cellsS (R ++ [(256, 0, 0)]) := by rw [cellsS_append]; simp [cellsS]
        have e2 : R.length + 1 = (R ++ [((256, 0, 0) : PI.Sg)]).length := by rw [List.length_append]; rfl
        have hl : FO.length = ol := by rw [← HFO.out]; exact HOL.out
        rw [e1, e2, HFS.out, HFO.out] at H6
        refine ⟨_, _, rfl, ?_⟩
        rw [hl]
        exact H6
      ·have k2 : ¬ (i : Int) < 6 := by omega
       have hnil : PI.cps ((cs.take 6).drop i) o = [] := by rw [List.drop_eq_nil_iff.2 (by rw [List.length_take]; omega)]; rfl
       clear hoL
       have H4 := H1.newBk (sgC ((256, 0, 0) : PI.Sg)) 102
       have HR4 := Lib.hid (Rd.of_blk (H4.blk 0 rfl))
       have HH4 := Lib.hid (H4.pick 4 [2, 0, 1, 3])
       have HFS : Hid (R ++ [(256, 0, 0)] = FQ9) := by rw [← HI1.out, hnil]; exact Lib.hid (by simp)
       have HFO : Hid (o = FO) := by rw [← HI2.out, hnil]; exact Lib.hid rfl
       clear H4
       go_wp2_with (at_builtin; refine wpList_append_sp rfl _ _ 64 rfl 102 i1 (.agg #[.int .i64 0, .int .i64 0, .int .i64 0]) 3 24 Tryd.underlying64 hj hj0 hj1 hj2 rfl (by decide) _ R.length (cellsS R) rfl HH4.out (some ⟨wr.heap.size, 0, none⟩) 1 1 (sgC ((256, 0, 0) : PI.Sg)) rfl rfl HR4.out (sgC_one _) (by unfold maxLen; omega) (by omega) ?_)
       intro v5 w5 H5 _
       clear HH4 HR4
       go_wp2_with fail
       go_ret2
       have H6 := H5.pick 4 [0, 3]
       have e1 : cellsS R ++ sgC ((256, 0, 0) : PI.Sg) = cellsS (R ++ [(256, 0, 0)]) := by rw [cellsS_append]; simp [cellsS]
       have e2 : R.length + 1 = (R ++ [((256, 0, 0) : PI.Sg)]).length := by rw [List.length_append]; rfl
       have hl : FO.length = ol := by rw [← HFO.out]; exact HOL.out
       rw [e1, e2, HFS.out, HFO.out] at H6
       refine ⟨_, _, rfl, ?_⟩
       rw [hl]
       exact H6
     ·have k1 : ¬ (i : Int) < (cn : Int) := by omega
      have hnil : PI.cps ((cs.take 6).drop i) o = [] := by rw [List.drop_eq_nil_iff.2 (by rw [List.length_take, HCN.out]; omega)]; rfl
      clear hoL
      have H4 := H1.newBk (sgC ((256, 0, 0) : PI.Sg)) 102
      have HR4 := Lib.hid (Rd.of_blk (H4.blk 0 rfl))
      have HH4 := Lib.hid (H4.pick 4 [2, 0, 1, 3])
      have HFS : Hid (R ++ [(256, 0, 0)] = FQ9) := by rw [← HI1.out, hnil]; exact Lib.hid (by simp)
      have HFO : Hid (o = FO) := by rw [← HI2.out, hnil]; exact Lib.hid rfl
      clear H4
      go_wp2_with (at_builtin; refine wpList_append_sp rfl _ _ 64 rfl 102 i1 (.agg #[.int .i64 0, .int .i64 0, .int .i64 0]) 3 24 Tryd.underlying64 hj hj0 hj1 hj2 rfl (by decide) _ R.length (cellsS R) rfl HH4.out (some ⟨wr.heap.size, 0, none⟩) 1 1 (sgC ((256, 0, 0) : PI.Sg)) rfl rfl HR4.out (sgC_one _) (by unfold maxLen; omega) (by omega) ?_)
      intro v5 w5 H5 _
      clear HH4 HR4
      go_wp2_with fail
      go_ret2
      have H6 := H5.pick 4 [0, 3]
      have e1 : cellsS R ++ sgC ((256, 0, 0) : PI.Sg) = cellsS (R ++ [(256, 0, 0)]) := by rw [cellsS_append]; simp [cellsS]
      have e2 : R.length + 1 = (R ++ [((256, 0, 0) : PI.Sg)]).length := by rw [List.length_append]; rfl
      have hl : FO.length = ol := by rw [← HFO.out]; exact HOL.out
      rw [e1, e2, HFS.out, HFO.out] at H6
      refine ⟨_, _, rfl, ?_⟩
      rw [hl]
      exact H6
   ·have k1 : ¬ (i : Int) < (bn : Int) := by omega
    have hib2 : i = min bn 80 := by omega
    clear hlt
    have HT0 : Hid (bs.take i = bs.take 80) := Lib.hid (by
     rw [List.take_eq_take_iff, HBN.out]; omega)
    have l1 : (litS (bs.take 80)).length = i := by
     unfold litS; rw [List.length_map, List.length_take, HBN.out]; omega
    have l2 : (out ++ bs.take 80).length = out.length + i := by
     rw [List.length_append, List.length_take, HBN.out]; omega
    rw [HT0.out, ← l2] at H3
    rw [← l1] at H3
    have HX0 := Lib.hid H3
    clear l1 l2 H3
    have hol : (out ++ bs.take 80).length ≤ out.length + 80 := by rw [List.length_append, List.length_take]; omega
    have hrl : (litS (bs.take 80)).length ≤ 80 := by unfold litS; rw [List.length_map, List.length_take]; omega
    clear hib2
    go_wp2_with fail
    clear c1
    go_loopw [1, 6, 8] (fun ov rv iv wr => ∃ (i : Nat) (R : List PI.Sg) (o : List UInt8), iv = .int .i64 (i : Int) ∧ i ≤ 6 ∧ i ≤ cn ∧ R.length ≤ 80 + 2 * i ∧ o.length ≤ out.length + 80 + 258 * i ∧ R ++ (PI.cps ((cs.take 6).drop i) o).flatMap PI.sgsT ++ [(256, 0, 0)] = FQ9 ∧ PI.toksO o (PI.cps ((cs.take 6).drop i) o) = FO ∧ Sp w0 (Bk gb 42 [.int .u8 (kd : Int), .slice B bn bc, .slice C cn cc] :: Row 102 3 rv R.length (cellsS R) :: Row 5 1 ov o.length (cells8 o) :: L) wr) (fun _ _ iv _ => 6 - (intOf iv).toNat)
    case atStart => exact ⟨0, _, _, rfl, Nat.zero_le _, Nat.zero_le _, hrl, hol, HF1.out, HF2.out, HX0.out⟩
    case round =>
     obtain ⟨i, R, o, rfl, hi6, hic, hrl, hol, hinv1, hinv2, H1⟩ := hrel
     clear HX0 HF1 HF2 HT0
     have HI1 := Lib.hid hinv1
     have HI2 := Lib.hid hinv2
     clear hinv1 hinv2
     have c2 : wr.cell? ⟨gb, 2, none⟩ = some (.slice C cn cc) := H1.cell 0 rfl 2
     obtain ⟨VR, vrc, rfl, _, _⟩ := Row.form H1 1 rfl
     obtain ⟨VO, voc, rfl, _, _⟩ := Row.form H1 2 rfl
     obtain ⟨ol, hoL⟩ : ∃ ol, o.length = ol := ⟨_, rfl⟩
     have HOL := Lib.hid hoL
     rw [hoL] at H1 hol ⊢
     by_cases hc : i < cn
     ·have k1 : (i : Int) < (cn : Int) := by omega
      by_cases h6 : i < 6
      ·have k2 : (i : Int) < 6 := by omega
       by_cases h0 : 0 < ol
       ·have k3 : (ol : Int) > 0 := by omega
        clear hoL
        have hil : i < cs.length := by rw [HCN.out]; exact hc
        obtain ⟨ac, rfl, hp1, hp2⟩ := rdPr (HX.out _ _ (H1.pick 3 [])).2 hil
        obtain ⟨⟨x1, x2⟩, hxx⟩ : ∃ c, cs.getD i (0, 0) = c := ⟨_, rfl⟩
        have hxb := HCS.out (x1, x2) (by rw [← hxx, List.getD_eq_getElem?_getD, List.getElem?_eq_getElem hil]; exact List.getElem_mem hil)
        rw [hxx] at hp1 hp2
        simp only at hp1 hp2 hxb
        have hdr : (cs.take 6).drop i = (x1, x2) :: (cs.take 6).drop (i + 1) := by
         have hl6 : i < (cs.take 6).length := by rw [List.length_take]; omega
         rw [PI.getD_cons_drop (0, 0) hl6]
         congr 1
         rw [← hxx, List.getD_eq_getElem?_getD, List.getD_eq_getElem?_getD, List.getElem?_take_of_lt h6]
        obtain ⟨n, hn⟩ : ∃ n, 3 + x1 % 256 = n := ⟨_, rfl⟩
        obtain ⟨back, hback⟩ : ∃ b, 1 + x2 % min ol 32768 = b := ⟨_, rfl⟩
        have hcp : PI.cps ((cs.take 6).drop i) o = .cpy n back :: PI.cps ((cs.take 6).drop (i + 1)) (PI.copy back n o) := by
         rw [hdr, PI.cps_cons (by rw [HOL.out]; exact h0), HOL.out, hn, hback]
        obtain ⟨OT, hOT⟩ : ∃ OT, PI.copy back n o = OT := ⟨_, rfl⟩
        have hn3 : 3 ≤ n ∧ n ≤ 258 := by omega
        have hmm : x2 % min ol 32768 < min ol 32768 := Nat.mod_lt _ (by omega)
        have hb1 : 1 ≤ back ∧ back ≤ 32768 ∧ back ≤ ol := by omega
        rw [hOT] at hcp
        have HJ1 : Hid ((R ++ PI.sgsT (.cpy n back)) ++ (PI.cps ((cs.take 6).drop (i + 1)) OT).flatMap PI.sgsT ++ [(256, 0, 0)] = FQ9) := by
         rw [← HI1.out, hcp, List.flatMap_cons, ← List.append_assoc R]; exact Lib.hid rfl
        have HJ2 : Hid (PI.toksO OT (PI.cps ((cs.take 6).drop (i + 1)) OT) = FO) := by
         rw [← HI2.out, hcp, ← hOT]; exact Lib.hid rfl
        have HOT := Lib.hid hOT
        obtain ⟨n0, hn0⟩ : ∃ n0, x1 % 256 = n0 := ⟨_, rfl⟩
        obtain ⟨mm, hmmE⟩ : ∃ mm, min ol 32768 = mm := ⟨_, rfl⟩
        obtain ⟨r0, hr0⟩ : ∃ r0, x2 % mm = r0 := ⟨_, rfl⟩
        have y1 : (x1 : Int) % 256 = (n0 : Int) := by omega
        have y2 : 3 + (n0 : Int) = (n : Int) := by omega
        have y3 : min (ol : Int) 32768 = (mm : Int) := by omega
        have y4 : (x2 : Int) % (mm : Int) = (r0 : Int) := by rw [← hr0]; simp
        have y5 : 1 + (r0 : Int) = (back : Int) := by rw [hmmE, hr0] at hback; omega
        have y6 : ¬ (mm : Int) = 0 := by omega
        have hmm0 : 0 < mm := by omega
        have hxb1 := hxb.1
        have hxb2 := hxb.2
        have HC2 := Lib.hid c2
        obtain ⟨⟨s1, v1, b1⟩, hsa⟩ : ∃ x : PI.Sg, (257 + (PI.longS n).1, (PI.longS n).2.2, (PI.longS n).2.1) = x := ⟨_, rfl⟩
        obtain ⟨⟨s2, v2, b2⟩, hsb⟩ : ∃ x : PI.Sg, ((PI.farS back).1, (PI.farS back).2.2, (PI.farS back).2.1) = x := ⟨_, rfl⟩
        have HPL : Hid (∀ w9 : World, Sp w0 (Bk gb 42 [.int .u8 (kd : Int), .slice B bn bc, .slice (some ac) cn cc] :: Row 102 3 (.slice VR R.length vrc) R.length (cellsS R) :: Row 5 1 (.slice VO ol voc) ol (cells8 o) :: L) w9 → Calls Tryd.prog 39 #[.int .i64 (n : Int)] w9 fun e w' => e = .returned (.agg #[.int .i64 (s1 : Int), .int .i64 (v1 : Int), .int .i64 (b1 : Int)]) ∧ Sp w0 (Bk gb 42 [.int .u8 (kd : Int), .slice B bn bc, .slice (some ac) cn cc] :: Row 102 3 (.slice VR R.length vrc) R.length (cellsS R) :: Row 5 1 (.slice VO ol voc) ol (cells8 o) :: L) w') := Lib.hid fun w9 Hq => by
         have h := plong_ok n Hq hn3.1 hn3.2
         rw [hsa] at h
         exact h
        have HPF : Hid (∀ w9 : World, Sp w0 (Bk gb 42 [.int .u8 (kd : Int), .slice B bn bc, .slice (some ac) cn cc] :: Row 102 3 (.slice VR R.length vrc) R.length (cellsS R) :: Row 5 1 (.slice VO ol voc) ol (cells8 o) :: L) w9 → Calls Tryd.prog 40 #[.int .i64 (back : Int)] w9 fun e w' => e = .returned (.agg #[.int .i64 (s2 : Int), .int .i64 (v2 : Int), .int .i64 (b2 : Int)]) ∧ Sp w0 (Bk gb 42 [.int .u8 (kd : Int), .slice B bn bc, .slice (some ac) cn cc] :: Row 102 3 (.slice VR R.length vrc) R.length (cellsS R) :: Row 5 1 (.slice VO ol voc) ol (cells8 o) :: L) w') := Lib.hid fun w9 Hq => by
         have h := pfar_ok back Hq hb1.1 hb1.2.1
         rw [hsb] at h
         exact h
        have HTK : Hid (PI.sgsT (.cpy n back) = [(s1, v1, b1), (s2, v2, b2)]) := Lib.hid (by
         show [((257 + (PI.longS n).1, (PI.longS n).2.2, (PI.longS n).2.1) : PI.Sg), ((PI.farS back).1, (PI.farS back).2.2, (PI.farS back).2.1)] = _
         rw [hsa, hsb])
        clear hsa hsb
        have hbo := hb1.2.2
        have HH1 := Lib.hid H1
        clear hcp hOT hn hback hdr hxx hil hr0 hmmE hmm hn0 hxb H1
        have hbo1 := hb1.1
        go_wp2_with fail
        refine (HPL.out _ HH1.out).mono ?_
        rintro _ w3 ⟨rfl, H3⟩
        clear HH1 HPL c2
        go_wp2_with fail
        refine (HPF.out _ H3).mono ?_
        rintro _ w4 ⟨rfl, H4⟩
        have H5 := H4.newBk (sgC ((s1, v1, b1) : PI.Sg) ++ sgC ((s2, v2, b2) : PI.Sg)) 102
        have HR5 := Lib.hid (Rd.of_blk (H5.blk 0 rfl))
        have HH5 := Lib.hid (H5.pick 4 [2, 0, 1, 3])
        clear HPF H3 H5 H4
        go_wp2_with (at_builtin; refine wpList_append_sp rfl _ _ 64 rfl 102 i1 (.agg #[.int .i64 0, .int .i64 0, .int .i64 0]) 3 24 Tryd.underlying64 hj hj0 hj1 hj2 rfl (by decide) _ R.length (cellsS R) rfl HH5.out (some ⟨w4.heap.size, 0, none⟩) 2 2 (sgC ((s1, v1, b1) : PI.Sg) ++ sgC ((s2, v2, b2) : PI.Sg)) rfl rfl HR5.out (by intro u hu; rcases List.mem_append.1 hu with h | h <;> exact sgC_one _ _ h) (by unfold maxLen; omega) (by omega) ?_)
        intro v5 w5 H6 _
        have HH6 := Lib.hid (H6.pick 4 [3, 0, 2])
        clear HR5 HH5 H6
        go_wp2_with fail
        go_loopw [1, 85] (fun ov jv wr => ∃ (j : Nat) (o' : List UInt8), jv = .int .i64 (j : Int) ∧ j ≤ n ∧ o'.length = ol + j ∧ PI.copy back (n - j) o' = OT ∧ Sp w0 (Row 5 1 ov o'.length (cells8 o') :: Row 102 3 v5 (R.length + 2) (cellsS R ++ (sgC ((s1, v1, b1) : PI.Sg) ++ sgC ((s2, v2, b2) : PI.Sg))) :: Bk gb 42 [.int .u8 (kd : Int), .slice B bn bc, .slice (some ac) cn cc] :: L) wr) (fun _ jv _ => n - (intOf jv).toNat)
        case atStart => exact ⟨0, o, rfl, Nat.zero_le _, HOL.out, HOT.out, by rw [HOL.out]; exact HH6.out⟩
        case round =>
         obtain ⟨j, o', rfl, hjn, hol', hcp, H7⟩ := hrel
         clear HH6 HOT
         by_cases hj : j < n
         ·have k4 : (j : Int) < (n : Int) := by omega
          obtain ⟨VQ, vq, rfl, _, hvm⟩ := Row.form H7 0 rfl
          obtain ⟨q, hq⟩ : ∃ q, o'.length = q := ⟨_, rfl⟩
          rw [hq] at H7 hol' ⊢
          obtain ⟨ad, rfl⟩ := slice_of H7 0 rfl (by omega) (by simp [cells8, hq])
          obtain ⟨jx, hjx⟩ : ∃ jx, q - back = jx := ⟨_, rfl⟩
          have y7 : (q : Int) - (back : Int) = (jx : Int) := by omega
          have y8 : (jx : Int) < (q : Int) := by omega
          obtain ⟨bv, hbv⟩ : ∃ bv : UInt8, o'.getD jx 0 = bv := ⟨_, rfl⟩
          have hcp2 : PI.copy back (n - (j + 1)) (o' ++ [bv]) = OT := by
           rw [← hcp, show n - j = (n - (j + 1)) + 1 by omega, PI.copy, hq, hjx, hbv]
          have hcl9 : wr.cell? (ad.add jx) = some (.int .u8 (bv.toNat : Int)) := by
           obtain ⟨ad2, e, hcc⟩ := (row_ent 0 rfl _ _ H7).at_ (k := jx) (by rw [cells8, List.length_map, hq]; omega)
           injection e with e
           subst e
           have hlt2 : jx < o'.length := by rw [hq]; omega
           rw [hcc, ← hbv, List.getD_eq_getElem?_getD, List.getElem?_eq_getElem hlt2]
           simp [cells8]
          obtain ⟨b8, hb8⟩ : ∃ b8, bv.toNat = b8 := ⟨_, rfl⟩
          rw [hb8] at hcl9
          have HB8 := Lib.hid hb8
          have HCP := Lib.hid hcp2
          have HQ := Lib.hid hq
          have HOL2 := Lib.hid hol'
          have hq9 : q ≤ 100000000 := by omega
          have H8 := H7.newBk [.int .u8 (b8 : Int)] 5
          have HR8 := Lib.hid (Rd.of_blk (H8.blk 0 rfl))
          have HH8 := Lib.hid (H8.pick 2 [1, 0])
          clear hb8 hcp2 hq hcp hbv hjx hol' H8 H7
          go_wp2_with (at_builtin; refine wpList_append_sp rfl _ _ 24 rfl 5 i0 (.int .u8 0) 1 1 Tryd.underlying24 hi hz0 hz1 hz2 rfl (by decide) _ q (cells8 o') rfl HH8.out (some ⟨wr.heap.size, 0, none⟩) 1 1 [.int .u8 (b8 : Int)] rfl rfl HR8.out (by intro u hu; rw [List.mem_singleton.1 hu]; rfl) (by unfold maxLen; omega) (by omega) ?_)
          intro v9 w9 H9 _
          have HH9 := Lib.hid (H9.pick 2 [0])
          clear HR8 HH8 H9
          go_wp2_with fail
          go_roundw
          case rel =>
           have hl1 : (o' ++ [bv]).length = q + 1 := by rw [List.length_append, HQ.out]; rfl
           refine ⟨j + 1, o' ++ [bv], by go_num, by omega, by rw [hl1]; have := HOL2.out; omega, HCP.out, ?_⟩
           have ec : cells8 (o' ++ [bv]) = cells8 o' ++ [.int .u8 (b8 : Int)] := by rw [← HB8.out]; simp [cells8]
           rw [hl1, ec]
           exact HH9.out
          case measure => first | (simp [intOf]; omega) | simp [intOf]
         ·have k4 : ¬ (j : Int) < (n : Int) := by omega
          obtain rfl : j = n := by omega
          rw [Nat.sub_self] at hcp
          have hcp' : o' = OT := hcp
          subst hcp'
          have HOL2 := Lib.hid hol'
          clear hcp hol'
          go_wp2_with fail
          go_roundw
          case rel =>
           refine ⟨i + 1, R ++ PI.sgsT (.cpy j back), o', by go_num, by omega, by omega, by rw [HTK.out, List.length_append]; simp only [List.length_cons, List.length_nil]; omega, by have := HOL2.out; omega, HJ1.out, HJ2.out, ?_⟩
           have e1 : cellsS (R ++ PI.sgsT (.cpy j back)) = cellsS R ++ (sgC ((s1, v1, b1) : PI.Sg) ++ sgC ((s2, v2, b2) : PI.Sg)) := by
            rw [HTK.out, cellsS_append]; simp [cellsS]
           have e2 : (R ++ PI.sgsT (.cpy j back)).length = R.length + 2 := by rw [HTK.out, List.length_append]; rfl
           rw [e1, e2]
           exact H7.pick 3 [2, 1, 0]
          case measure => first | (simp [intOf]; omega) | simp [intOf]
       ·have k3 : ¬ (ol : Int) > 0 := by omega
        have hnil : PI.cps ((cs.take 6).drop i) o = [] := by rw [List.eq_nil_of_length_eq_zero (show o.length = 0 by rw [HOL.out]; omega)]; exact PI.cps_none _
        clear hoL
        have H4 := H1.newBk (sgC ((256, 0, 0) : PI.Sg)) 102
        have HR4 := Lib.hid (Rd.of_blk (H4.blk 0 rfl))
        have HH4 := Lib.hid (H4.pick 4 [2, 0, 1, 3])
        have HFS : Hid (R ++ [(256, 0, 0)] = FQ9) := by rw [← HI1.out, hnil]; exact Lib.hid (by simp)
        have HFO : Hid (o = FO) := by rw [← HI2.out, hnil]; exact Lib.hid rfl
        clear H4
        go_wp2_with (at_builtin; refine wpList_append_sp rfl _ _ 64 rfl 102 i1 (.agg #[.int .i64 0, .int .i64 0, .int .i64 0]) 3 24 Tryd.underlying64 hj hj0 hj1 hj2 rfl (by decide) _ R.length (cellsS R) rfl HH4.out (some ⟨wr.heap.size, 0, none⟩) 1 1 (sgC ((256, 0, 0) : PI.Sg)) rfl rfl HR4.out (sgC_one _) (by unfold maxLen; omega) (by omega) ?_)
        intro v5 w5 H5 _
        clear HH4 HR4
        go_wp2_with fail
        go_ret2
        have H6 := H5.pick 4 [0, 3]
        have e1 : cellsS R ++ sgC ((256, 0, 0) : PI.Sg) = cellsS (R ++ [(256, 0, 0)]) := by rw [cellsS_append]; simp [cellsS]
        have e2 : R.length + 1 = (R ++ [((256, 0, 0) : PI.Sg)]).length := by rw [List.length_append]; rfl
        have hl : FO.length = ol := by rw [← HFO.out]; exact HOL.out
        rw [e1, e2, HFS.out, HFO.out] at H6
        refine ⟨_, _, rfl, ?_⟩
        rw [hl]
        exact H6
      ·have k2 : ¬ (i : Int) < 6 := by omega
       have hnil : PI.cps ((cs.take 6).drop i) o = [] := by rw [List.drop_eq_nil_iff.2 (by rw [List.length_take]; omega)]; rfl
       clear hoL
       have H4 := H1.newBk (sgC ((256, 0, 0) : PI.Sg)) 102
       have HR4 := Lib.hid (Rd.of_blk (H4.blk 0 rfl))
       have HH4 := Lib.hid (H4.pick 4 [2, 0, 1, 3])
       have HFS : Hid (R ++ [(256, 0, 0)] = FQ9) := by rw [← HI1.out, hnil]; exact Lib.hid (by simp)
       have HFO : Hid (o = FO) := by rw [← HI2.out, hnil]; exact Lib.hid rfl
       clear H4
       go_wp2_with (at_builtin; refine wpList_append_sp rfl _ _ 64 rfl 102 i1 (.agg #[.int .i64 0, .int .i64 0, .int .i64 0]) 3 24 Tryd.underlying64 hj hj0 hj1 hj2 rfl (by decide) _ R.length (cellsS R) rfl HH4.out (some ⟨wr.heap.size, 0, none⟩) 1 1 (sgC ((256, 0, 0) : PI.Sg)) rfl rfl HR4.out (sgC_one _) (by unfold maxLen; omega) (by omega) ?_)
       intro v5 w5 H5 _
       clear HH4 HR4
       go_wp2_with fail
       go_ret2
       have H6 := H5.pick 4 [0, 3]
       have e1 : cellsS R ++ sgC ((256, 0, 0) : PI.Sg) = cellsS (R ++ [(256, 0, 0)]) := by rw [cellsS_append]; simp [cellsS]
       have e2 : R.length + 1 = (R ++ [((256, 0, 0) : PI.Sg)]).length := by rw [List.length_append]; rfl
       have hl : FO.length = ol := by rw [← HFO.out]; exact HOL.out
       rw [e1, e2, HFS.out, HFO.out] at H6
       refine ⟨_, _, rfl, ?_⟩
       rw [hl]
       exact H6
     ·have k1 : ¬ (i : Int) < (cn : Int) := by omega
      have hnil : PI.cps ((cs.take 6).drop i) o = [] := by rw [List.drop_eq_nil_iff.2 (by rw [List.length_take, HCN.out]; omega)]; rfl
      clear hoL
      have H4 := H1.newBk (sgC ((256, 0, 0) : PI.Sg)) 102
      have HR4 := Lib.hid (Rd.of_blk (H4.blk 0 rfl))
      have HH4 := Lib.hid (H4.pick 4 [2, 0, 1, 3])
      have HFS : Hid (R ++ [(256, 0, 0)] = FQ9) := by rw [← HI1.out, hnil]; exact Lib.hid (by simp)
      have HFO : Hid (o = FO) := by rw [← HI2.out, hnil]; exact Lib.hid rfl
      clear H4
      go_wp2_with (at_builtin; refine wpList_append_sp rfl _ _ 64 rfl 102 i1 (.agg #[.int .i64 0, .int .i64 0, .int .i64 0]) 3 24 Tryd.underlying64 hj hj0 hj1 hj2 rfl (by decide) _ R.length (cellsS R) rfl HH4.out (some ⟨wr.heap.size, 0, none⟩) 1 1 (sgC ((256, 0, 0) : PI.Sg)) rfl rfl HR4.out (sgC_one _) (by unfold maxLen; omega) (by omega) ?_)
      intro v5 w5 H5 _
      clear HH4 HR4
      go_wp2_with fail
      go_ret2
      have H6 := H5.pick 4 [0, 3]
      have e1 : cellsS R ++ sgC ((256, 0, 0) : PI.Sg) = cellsS (R ++ [(256, 0, 0)]) := by rw [cellsS_append]; simp [cellsS]
      have e2 : R.length + 1 = (R ++ [((256, 0, 0) : PI.Sg)]).length := by rw [List.length_append]; rfl
      have hl : FO.length = ol := by rw [← HFO.out]; exact HOL.out
      rw [e1, e2, HFS.out, HFO.out] at H6
      refine ⟨_, _, rfl, ?_⟩
      rw [hl]
      exact H6
end Go.Proofs.YtiogaejfcenooaaDoor

