/- A pack of texts: DefH. -/
import Derived.Test.YtloijdbkikccgaaDoorPk22
namespace Go.Proofs.YtloijdbkikccgaaDoor
set_option linter.unusedVariables false
set_option linter.unusedSimpArgs false
open Go.RowKit
def agF:Value->Nat->Value
 | .agg a,i=>a.getD i undef
 | _,_=>undef
def BP.of (Y:List PM.St) (b:List UInt8) (last:Bool):BP:=⟨b,PD.words Y,last,PD.lenA Y,PD.lenB Y,(PD.rowY Y).map PD.rwd,PD.fst7 Y⟩
theorem fl15:∀x ∈ PI.fixedL,x<=15:=by decide +kernel
theorem fd15:∀x ∈ PI.fixedD,x<=15:=by decide +kernel
set_option maxRecDepth 100000 in
set_option maxHeartbeats 4000000 in
theorem dfixedB_ok (g gw:Nat) (dv:DV) (p:BP) (B:List Bool) {w0 w:World} {L:List Pr} (H:Sp w0 (WB gw B::L) w) (hb:Ent L (DBr g dv p)) (hok:∀t ∈ p.W,PD.WdOk PI.fixedL PI.fixedD t) (hWl:p.W.length<=2000000) (hB:B.length<=800000000) :
  Calls Tryd.prog 81 #[.pointer (some ⟨g,0,none⟩),.pointer (some ⟨gw,0,none⟩)] w fun e w'=>e=.returned (.tuple #[])/\Sp w0 (WB gw (B++([p.last]++PBits.bitsOf 1 2++PD.layW PI.fixedL PI.fixedD p.W))::L) w':=by
 obtain⟨B1,hB1⟩:∃B1,B++([p.last]++PBits.bitsOf 1 2)=B1:=⟨_,rfl⟩
 have hB1l:B1.length=B.length+3:=by rw [<- hB1]; simp [PBits.bitsOf_length]
 have hh:=dhead_ok g gw 1 dv p B H hb (by decide) (by omega)
 rw [hB1] at hh
 rw [<- List.append_assoc,hB1]
 have HH:=Lib.hid hh
 have HB:=Lib.hid hb
 have HOK:=Lib.hid hok
 have HF1:=Lib.hid PI.fixed_sum
 have HF2:=Lib.hid PI.fixed_sumD
 clear hb hok H hh
 go_enter Tryd.func81,Tryd.ntmps81
 go_wp2_with fail
 refine HH.out.mono ?_
 rintro _ w1 ⟨rfl,H1⟩
 have HX:=Lib.hid H1
 clear HH H1 hB1
 go_wp2_with fail
 refine wp_region_sc (L:=L) [some (.pointer (some ⟨gw,0,none⟩)),some (.pointer (some ⟨g,0,none⟩)),some (.pointer (some ⟨g,0,none⟩)),some (.pointer (some ⟨g,2,none⟩)),some (.slice dv.w p.W.length dv.wc),none,some (.tuple #[])] (fun ix vx=>match ix with | 5=>(fun vv=>vv=.agg #[agF vv 0,agF vv 1]) vx | _=>True) (fun ix vx=>match ix with | 5=>(fun vv=>[Row 3 1 (agF vv 0) 288 (cellsN PI.fixedL),Row 3 1 (agF vv 1) 32 (cellsN PI.fixedD)]) vx | 6=>(fun _=>[WB gw (B1++PD.layW PI.fixedL PI.fixedD p.W)]) vx | _=>[]) (fun ix=>match ix with | 6=>[WB gw B1] | _=>[]) 7 14
  [some 7,some 8,some 9,some 10,some 11,some 12,some 13]
  [[],[],[1],[2],[3],[],[0,4,5,5]]
  [[],[],[1],[1,2],[1,2,3],[],[0,1,2,3,4,5]]
  [[],[],[],[],[],[],[5]] [[],[],[],[],[],[],[]] [(0,.pointer (some ⟨g,0,none⟩)),(1,.pointer (some ⟨gw,0,none⟩))]
  (by kernel_rfl) rfl (by decide) (by rfl) (by decide +kernel) rfl rfl (by simp) (HX.out) ?hstep ?hend
 case hstep =>
  refine⟨?p0,⟨?p1,⟨?p2,⟨?p3,⟨?p4,⟨?p5,⟨?p6,trivial⟩⟩⟩⟩⟩⟩⟩
  case p0 | p1 | p2 | p3 =>
   intro x wx A rest hDf hF hS hE H K hK
   replace hK:=Lib.hid hK
   clear hS hE hDf
   repeat (obtain⟨_,hF⟩:=hF)
   change Oper.wp _ _ A wx K _
   go_step
   exact hK.out _ _ rfl H
  case p4 =>
   intro x wx A rest hDf hF hS hE H K hK0
   replace hDf:=Lib.hid hDf
   have e10:A.tmps[10]?.getD undef=.pointer (some ⟨g,2,none⟩):=((hS 3 (by decide)).2 10 rfl).trans (hS 3 (by decide)).1
   replace H:Sp w0 (rest) wx:=H
   have hK:Hid (∀(v:Value) (w' : World),v=.slice dv.w p.W.length dv.wc->Sp w0 (rest) w'->K (A.put (some 11) v) w'):=Lib.hid hK0
   clear hK0 hF hS
   have c:=(hE _ HB.out _ _ H).c2
   clear hE
   change Oper.wp _ _ A wx K _
   go_step
   exact hK.out _ _ rfl (H)
  case p5 =>
   intro x wx A rest hDf hF hS hE H K hK0
   replace hDf:=Lib.hid hDf
   replace H:Sp w0 (rest) wx:=H
   have hK:Hid (∀(v:Value) (w' : World),v=.agg #[agF v 0,agF v 1]->Sp w0 ((Row 3 1 (agF v 0) 288 (cellsN PI.fixedL))::(Row 3 1 (agF v 1) 32 (cellsN PI.fixedD))::rest) w'->K (A.put (some 12) v) w'):=Lib.hid hK0
   clear hK0 hF hS hE
   change Oper.wp _ _ A wx K _
   go_wp2_with fail
   refine(dfixed_ok H).mono ?_
   rintro _ w9 ⟨v0,v1,rfl,H9⟩
   exact hK.out _ _ rfl H9
  case p6 =>
   intro x wx A rest hDf hF hS hE H K hK0
   replace hDf:=Lib.hid hDf
   have e7:A.tmps[7]?.getD undef=.pointer (some ⟨gw,0,none⟩):=((hS 0 (by decide)).2 7 rfl).trans (hS 0 (by decide)).1
   have e11:A.tmps[11]?.getD undef=.slice dv.w p.W.length dv.wc:=((hS 4 (by decide)).2 11 rfl).trans (hS 4 (by decide)).1
   have q12:(x 5)=.agg #[agF (x 5) 0,agF (x 5) 1]:=(hS 5 (by decide)).1
   have e12:A.tmps[12]?.getD undef=x 5:=(hS 5 (by decide)).2 12 rfl
   replace H:Sp w0 ((WB gw B1)::(Row 3 1 (agF (x 5) 0) 288 (cellsN PI.fixedL))::(Row 3 1 (agF (x 5) 1) 32 (cellsN PI.fixedD))::rest) wx:=H
   have hK:Hid (∀(v:Value) (w' : World),v=.tuple #[]->Sp w0 ((WB gw (B1++PD.layW PI.fixedL PI.fixedD p.W))::rest) w'->K (A.put (some 13) v) w'):=Lib.hid hK0
   clear hK0 hF hS
   obtain⟨r0,hr0⟩:∃r,agF (x 5) 0=r:=⟨_,rfl⟩
   obtain⟨r1,hr1⟩:∃r,agF (x 5) 1=r:=⟨_,rfl⟩
   rw [hr0,hr1] at q12 H
   rw [q12] at e12
   clear hr0 hr1 q12
   obtain⟨A0,c0,rfl,_,_⟩:=Row.form H 1 rfl
   obtain⟨A1,c1,rfl,_,_⟩:=Row.form H 2 rfl
   have hbr:=Lib.hid (hE _ HB.out)
   have HZ:=Lib.hid H
   clear hE H
   change Oper.wp _ _ A wx K _
   go_wp2_with fail
   refine(dlay_ok gw B1 dv.w A0 A1 p.W.length dv.wc 288 c0 32 c1 p.W PI.fixedL PI.fixedD HZ.out (fun w0 w h=>(hbr.out w0 w (h.pick 2 [])).w) (fun w0 w h=>rowRd h 0 rfl) (fun w0 w h=>rowRd h 1 rfl) rfl dfixedL_len.symm rfl hWl (by decide) (by decide) fl15 fd15 HF1.out HF2.out HOK.out (by omega)).mono ?_
   rintro _ w9 ⟨rfl,H9⟩
   exact hK.out _ _ rfl (H9.pick 3 [0])
 case hend =>
  intro x wx A hA hS H
  replace H:Sp w0 ((WB gw (B1++PD.layW PI.fixedL PI.fixedD p.W))::L) wx:=H
  clear hS
  simp only [putAll,Act.put,List.setIfInBounds_toArray,List.set_cons_succ,List.set_cons_zero,Nat.reduceAdd] at hA
  subst hA
  have HY:=Lib.hid H
  clear H HX
  go_wp2
  go_end0
  refine⟨rfl,?_⟩
  have h:=HY.out
  first | exact h | (rw [List.append_assoc]; exact h) | (rw [List.append_assoc] at h; exact h)
set_option maxRecDepth 100000 in
set_option maxHeartbeats 4000000 in
theorem ddyn_ok (g gw:Nat) (dv:DV) (p:BP) (B:List Bool) {TL TF:Option Addr} {cl cf:Nat} {w0 w:World} {L:List Pr} (H:Sp w0 (WB gw B::L) w) (hb:Ent L (DBr g dv p)) (hT:Ent L (DTabs TL TF cl cf)) (hA1:257<=p.A.length) (hA2:p.A.length<=286) (hD1:1<=p.D.length) (hD2:p.D.length<=30)
  (hA:∀x ∈ p.A,x<=15) (hD:∀x ∈ p.D,x<=15) (hAs:PH.sum p.A<=32768) (hDs:PH.sum p.D<=32768) (hF:p.F.length=19) (hF7:∀x ∈ p.F,x<=7) (hFs:PH.sum p.F<=32768)
  (hokR:∀t ∈ p.R,PD.WdOk p.F [] t) (hokW:∀t ∈ p.W,PD.WdOk p.A p.D t) (hRl:p.R.length<=1000) (hWl:p.W.length<=2000000) (hB:B.length<=800000000) :
  Calls Tryd.prog 82 #[.pointer (some ⟨g,0,none⟩),.pointer (some ⟨gw,0,none⟩)] w fun e w'=>e=.returned (.tuple #[]) /\
   Sp w0 (WB gw (B++([p.last]++PBits.bitsOf 2 2++(PBits.bitsOf (p.A.length - 257) 5++(PBits.bitsOf (p.D.length - 1) 5++(PBits.bitsOf (PD.told p.F - 4) 4++(PI.firstsW p.F (PI.orderT.take (PD.told p.F))++PD.layW p.F [] p.R)))++PD.layW p.A p.D p.W)))::L) w':=by
 obtain⟨B1,hB1⟩:∃B1,B++([p.last]++PBits.bitsOf 2 2)=B1:=⟨_,rfl⟩
 have hB1l:B1.length=B.length+3:=by rw [<- hB1]; simp [PBits.bitsOf_length]
 have hh:=dhead_ok g gw 2 dv p B H hb (by decide) (by omega)
 rw [hB1] at hh
 obtain⟨na,hna⟩:∃na,p.A.length=na:=⟨_,rfl⟩
 obtain⟨nd,hnd⟩:∃nd,p.D.length=nd:=⟨_,rfl⟩
 obtain⟨a7,ha7⟩:∃a7,na - 257=a7:=⟨_,rfl⟩
 obtain⟨d1,hd1⟩:∃d1,nd - 1=d1:=⟨_,rfl⟩
 obtain⟨m,hm⟩:∃m,PD.told p.F=m:=⟨_,rfl⟩
 obtain⟨m4,hm4⟩:∃m4,m - 4=m4:=⟨_,rfl⟩
 have hm19:4<=m/\m<=19:=by rw [<- hm]; exact PD.told_ok p.F
 rw [hna] at hA1 hA2
 rw [hnd] at hD1 hD2
 have y1:(na:Int) - 257=(a7:Int):=by omega
 have y2:(nd:Int) - 1=(d1:Int):=by omega
 have y3:(m:Int) - 4=(m4:Int):=by omega
 have z1:a7<2 ^ 5:=by omega
 have z2:d1<2 ^ 5:=by omega
 have z3:m4<2 ^ 4:=by omega
 have HZ:=Lib.hid (show a7<2 ^ 5/\d1<2 ^ 5/\m4<2 ^ 4 from⟨z1,z2,z3⟩)
 rw [hna,hnd,hm,ha7,hd1,hm4,<- List.append_assoc B,hB1]
 have HH:=Lib.hid hh
 have HB:=Lib.hid hb
 have HT:=Lib.hid hT
 have HA:=Lib.hid hA
 have HD:=Lib.hid hD
 have HAS:=Lib.hid hAs
 have HDS:=Lib.hid hDs
 have HF:=Lib.hid hF
 have HF7:=Lib.hid hF7
 have HFS:=Lib.hid hFs
 have HOKR:=Lib.hid hokR
 have HOKW:=Lib.hid hokW
 have HNA:=Lib.hid hna
 have HND:=Lib.hid hnd
 have HM:=Lib.hid hm
 have y4:(m:Int)<=19:=by omega
 clear hb hT hA hD hAs hDs hF hF7 hFs hokR hokW H hh hB1 hna hnd hm ha7 hd1 hm4 z1 z2 z3
 go_enter Tryd.func82,Tryd.ntmps82
 go_wp2_with fail
 refine HH.out.mono ?_
 rintro _ w1 ⟨rfl,H1⟩
 clear HH
 go_wp2_with fail
 refine(dtold_ok g dv p H1 (fun w0 w h=>HB.out w0 w h.tail) (fun w0 w h=>HT.out w0 w h.tail) HF.out).mono ?_
 rintro _ w2 ⟨rfl,H2⟩
 rw [HM.out]
 have c4:=(HB.out _ _ H2.tail).c4
 rw [HNA.out] at c4
 have HX2:=Lib.hid H2
 clear H1 H2
 go_wp2_with fail
 refine(wb_put gw B1 a7 5 HX2.out (by decide) HZ.out.1 (by omega)).mono ?_
 rintro _ w3 ⟨rfl,H3⟩
 have c5:=(HB.out _ _ H3.tail).c5
 rw [HND.out] at c5
 have HX3:=Lib.hid H3
 clear HX2 H3 c4
 go_wp2_with fail
 refine(wb_put gw _ d1 5 HX3.out (by decide) HZ.out.2.1 (by simp only [List.length_append,PBits.bitsOf_length]; omega)).mono ?_
 rintro _ w4 ⟨rfl,H4⟩
 have HX4:=Lib.hid H4
 clear HX3 H4 c5
 go_wp2_with fail
 refine(wb_put gw _ m4 4 HX4.out (by decide) HZ.out.2.2 (by simp only [List.length_append,PBits.bitsOf_length]; omega)).mono ?_
 rintro _ w5 ⟨rfl,H5⟩
 obtain⟨B2,hB2⟩:∃B2,B1++PBits.bitsOf a7 5++PBits.bitsOf d1 5++PBits.bitsOf m4 4=B2:=⟨_,rfl⟩
 have hB2l:B2.length=B1.length+14:=by rw [<- hB2]; simp only [List.length_append,PBits.bitsOf_length]
 rw [hB2] at H5
 have HB2:=Lib.hid hB2
 have HX5:=Lib.hid H5
 clear HX4 H5 hB2
 go_wp2_with fail
 go_loopw [40] (fun iv wr=>∃i:Nat,iv=.int .i64 (i:Int)/\i<=m/\Sp w0 (WB gw (B2++PI.firstsW p.F (PI.orderT.take i))::L) wr) (fun iv _=>m - (intOf iv).toNat)
 case atStart=>exact⟨0,rfl,Nat.zero_le _,by rw [List.take_zero]; show Sp w0 (WB gw (B2++[])::L) _; rw [List.append_nil]; exact HX5.out⟩
 case round =>
  obtain⟨i,rfl,him,H6⟩:=hrel
  clear HX5
  have hfl:(PI.firstsW p.F (PI.orderT.take i)).length<=57:=by
   unfold PI.firstsW
   rw [List.length_flatMap]
   simp only [PBits.bitsOf_length,List.map_const',List.sum_replicate_nat,List.length_take]
   show min i 19 * 3<=57
   omega
  by_cases hlt:i<m
  ·have k1:(i:Int)<(m:Int):=by omega
   have k2:(i:Int)<19:=by omega
   have o1:=(HT.out _ _ H6.tail).order i (by omega)
   have c7:=(HB.out _ _ H6.tail).c7
   rw [HF.out] at c7
   obtain⟨z,hz⟩:∃z,PI.orderT.getD i 0=z:=⟨_,rfl⟩
   have hz19:z<19:=by
    have:∀j,j<19->PI.orderT.getD j 0<19:=by decide
    rw [<- hz]; exact this i (by omega)
   have k3:(z:Int)<19:=by omega
   obtain⟨ad,hva,c0⟩:=rdN (HB.out _ _ H6.tail).f (i:=z) (by rw [HF.out]; exact hz19)
   obtain⟨x,hx⟩:∃x,p.F.getD z 0=x:=⟨_,rfl⟩
   have hx7:x<2 ^ 3:=by
    have hzl:z<p.F.length:=by rw [HF.out]; exact hz19
    have h:=HF7.out _ (List.getElem_mem hzl)
    have hx2:=hx
    rw [List.getD_eq_getElem?_getD,List.getElem?_eq_getElem hzl] at hx2
    rw [show p.F[z]=x from hx2] at h
    have h8:x<8:=by omega
    exact h8
   have hnx:PI.firstsW p.F (PI.orderT.take (i+1))=PI.firstsW p.F (PI.orderT.take i)++PBits.bitsOf x 3:=by
    have hil:i<PI.orderT.length:=by show i<19; omega
    unfold PI.firstsW
    rw [List.take_succ_eq_append_getElem hil,List.flatMap_append]
    rw [List.getD_eq_getElem?_getD,List.getElem?_eq_getElem hil] at hz
    rw [show PI.orderT[i]=z from hz,List.flatMap_cons,List.flatMap_nil,List.append_nil,hx]
   rw [hva] at c7
   rw [hx] at c0
   rw [hz] at o1
   have HNX:=Lib.hid hnx
   have HX7:=Lib.hid hx7
   have HX:=Lib.hid H6
   have hx8:x<8:=hx7
   clear hnx hx hz hva H6 hx7
   go_wp2_with fail
   refine(wb_put gw _ x 3 HX.out (by decide) HX7.out (by rw [List.length_append]; omega)).mono ?_
   rintro _ w7 ⟨rfl,H7⟩
   clear HX
   go_wp2_with fail
   go_roundw
   case rel=>exact⟨i+1,by go_num,by omega,by rw [HNX.out,<- List.append_assoc]; exact H7⟩
   case measure=>first | (simp [intOf]; omega) | simp [intOf]
  ·have k1:¬ (i:Int)<(m:Int):=by omega
   obtain rfl:i=m:=by omega
   obtain⟨B3,hB3⟩:∃B3,B2++PI.firstsW p.F (PI.orderT.take i)=B3:=⟨_,rfl⟩
   have hB3l:B3.length<=B.length+100:=by rw [<- hB3,List.length_append]; omega
   rw [hB3] at H6
   have HB3:=Lib.hid hB3
   have HX:=Lib.hid H6
   clear H6 hB3 hfl hlt him
   go_wp2_with fail
   refine wp_region_sc (L:=L) [some (.pointer (some ⟨gw,0,none⟩)),some (.pointer (some ⟨g,0,none⟩)),some (.pointer (some ⟨g,0,none⟩)),some (.pointer (some ⟨g,6,none⟩)),some (.slice dv.r p.R.length dv.rc),some (.pointer (some ⟨g,0,none⟩)),some (.pointer (some ⟨g,0,none⟩)),some (.pointer (some ⟨g,7,none⟩)),some (.slice dv.f p.F.length dv.fc),some (.agg #[.slice dv.f p.F.length dv.fc,.slice none 0 0]),some (.tuple #[])] (fun _ _=>True) (fun ix vx=>match ix with | 10=>(fun _=>[WB gw (B3++PD.layW p.F [] p.R)]) vx | _=>[]) (fun ix=>match ix with | 10=>[WB gw B3] | _=>[]) 11 76
    [some 55,some 56,some 57,some 58,some 59,some 60,some 61,some 62,some 63,some 64,some 65]
    [[],[],[1],[2],[3],[],[5],[6],[7],[8],[0,4,9]]
    [[],[],[1],[1,2],[1,2,3],[],[5],[5,6],[5,6,7],[5,6,7,8],[0,1,2,3,4,5,6,7,8,9]]
    [[],[],[],[],[],[],[],[],[],[],[]] [[],[],[],[],[],[],[],[],[],[],[]] [(0,.pointer (some ⟨g,0,none⟩)),(1,.pointer (some ⟨gw,0,none⟩))]
    (by kernel_rfl) rfl (by decide) (by rfl) (by decide +kernel) rfl rfl (by simp) (HX.out) ?hstep ?hend
   case hstep =>
    refine⟨?p0,⟨?p1,⟨?p2,⟨?p3,⟨?p4,⟨?p5,⟨?p6,⟨?p7,⟨?p8,⟨?p9,⟨?p10,trivial⟩⟩⟩⟩⟩⟩⟩⟩⟩⟩⟩
    case p0 | p1 | p2 | p3 | p5 | p6 | p7 | p9 =>
     intro x wx A rest hDf hF hS hE H K hK
     replace hK:=Lib.hid hK
     clear hS hE hDf
     repeat (obtain⟨_,hF⟩:=hF)
     change Oper.wp _ _ A wx K _
     go_step
     exact hK.out _ _ rfl H
    case p4 =>
     intro x wx A rest hDf hF hS hE H K hK0
     replace hDf:=Lib.hid hDf
     have e58:A.tmps[58]?.getD undef=.pointer (some ⟨g,6,none⟩):=((hS 3 (by decide)).2 58 rfl).trans (hS 3 (by decide)).1
     replace H:Sp w0 (rest) wx:=H
     have hK:Hid (∀(v:Value) (w' : World),v=.slice dv.r p.R.length dv.rc->Sp w0 (rest) w'->K (A.put (some 59) v) w'):=Lib.hid hK0
     clear hK0 hF hS
     have c:=(hE _ HB.out _ _ H).c6
     clear hE
     change Oper.wp _ _ A wx K _
     go_step
     exact hK.out _ _ rfl (H)
    case p8 =>
     intro x wx A rest hDf hF hS hE H K hK0
     replace hDf:=Lib.hid hDf
     have e62:A.tmps[62]?.getD undef=.pointer (some ⟨g,7,none⟩):=((hS 7 (by decide)).2 62 rfl).trans (hS 7 (by decide)).1
     replace H:Sp w0 (rest) wx:=H
     have hK:Hid (∀(v:Value) (w' : World),v=.slice dv.f p.F.length dv.fc->Sp w0 (rest) w'->K (A.put (some 63) v) w'):=Lib.hid hK0
     clear hK0 hF hS
     have c:=(hE _ HB.out _ _ H).c7
     clear hE
     change Oper.wp _ _ A wx K _
     go_step
     exact hK.out _ _ rfl (H)
    case p10 =>
     intro x wx A rest hDf hF hS hE H K hK0
     replace hDf:=Lib.hid hDf
     have e55:A.tmps[55]?.getD undef=.pointer (some ⟨gw,0,none⟩):=((hS 0 (by decide)).2 55 rfl).trans (hS 0 (by decide)).1
     have e59:A.tmps[59]?.getD undef=.slice dv.r p.R.length dv.rc:=((hS 4 (by decide)).2 59 rfl).trans (hS 4 (by decide)).1
     have e64:A.tmps[64]?.getD undef=.agg #[.slice dv.f p.F.length dv.fc,.slice none 0 0]:=((hS 9 (by decide)).2 64 rfl).trans (hS 9 (by decide)).1
     replace H:Sp w0 ((WB gw B3)::rest) wx:=H
     have hK:Hid (∀(v:Value) (w' : World),v=.tuple #[]->Sp w0 ((WB gw (B3++PD.layW p.F [] p.R))::rest) w'->K (A.put (some 65) v) w'):=Lib.hid hK0
     clear hK0 hF hS
     have hbr:=Lib.hid (hE _ HB.out)
     have HZ:=Lib.hid H
     clear hE H
     change Oper.wp _ _ A wx K _
     go_wp2_with fail
     refine(dlay_ok gw B3 dv.r dv.f none p.R.length dv.rc p.F.length dv.fc 0 0 p.R p.F [] HZ.out (fun w0 w h=>(hbr.out w0 w h).r) (fun w0 w h=>(hbr.out w0 w h).f) (fun w0 w h=>Rd.nil) rfl rfl rfl (by omega) (by rw [HF.out]; decide) (by decide) (fun x hx=>by have:=HF7.out x hx; omega) (fun x hx=>by cases hx) HFS.out (by decide) HOKR.out (by omega)).mono ?_
     rintro _ w9 ⟨rfl,H9⟩
     exact hK.out _ _ rfl H9
   case hend =>
    intro x wx A hA hS H
    replace H:Sp w0 ((WB gw (B3++PD.layW p.F [] p.R))::L) wx:=H
    clear hS
    simp only [putAll,Act.put,List.setIfInBounds_toArray,List.set_cons_succ,List.set_cons_zero,Nat.reduceAdd] at hA
    subst hA
    obtain⟨B4,hB4⟩:∃B4,B3++PD.layW p.F [] p.R=B4:=⟨_,rfl⟩
    have hl4:=layW_le (A:=p.F) (D:=[]) (fun x hx=>by have:=HF7.out x hx; omega) (fun x hx=>by cases hx) p.R HOKR.out
    have hB4l:B4.length<=B.length+30000:=by rw [<- hB4,List.length_append]; omega
    rw [hB4] at H
    have HB4:=Lib.hid hB4
    have HY:=Lib.hid H
    clear H HX hB4 hl4
    go_wp2_with fail
    refine wp_region_sc (L:=L) [some (.pointer (some ⟨gw,0,none⟩)),some (.pointer (some ⟨g,0,none⟩)),some (.pointer (some ⟨g,0,none⟩)),some (.pointer (some ⟨g,2,none⟩)),some (.slice dv.w p.W.length dv.wc),some (.pointer (some ⟨g,0,none⟩)),some (.pointer (some ⟨g,0,none⟩)),some (.pointer (some ⟨g,4,none⟩)),some (.agg #[.slice dv.a p.A.length dv.ac,.slice dv.d p.D.length dv.dc]),some (.tuple #[])] (fun _ _=>True) (fun ix vx=>match ix with | 9=>(fun _=>[WB gw (B4++PD.layW p.A p.D p.W)]) vx | _=>[]) (fun ix=>match ix with | 9=>[WB gw B4] | _=>[]) 10 76
     [some 66,some 67,some 68,some 69,some 70,some 71,some 72,some 73,some 74,some 75]
     [[],[],[1],[2],[3],[],[5],[6],[7],[0,4,8]]
     [[],[],[1],[1,2],[1,2,3],[],[5],[5,6],[5,6,7],[0,1,2,3,4,5,6,7,8]]
     [[],[],[],[],[],[],[],[],[],[]] [[],[],[],[],[],[],[],[],[],[]] [(0,.pointer (some ⟨g,0,none⟩)),(1,.pointer (some ⟨gw,0,none⟩))]
     (by kernel_rfl) rfl (by decide) (by rfl) (by decide +kernel) rfl rfl (by simp) (HY.out) ?hstep ?hend
    case hstep =>
     refine⟨?p0,⟨?p1,⟨?p2,⟨?p3,⟨?p4,⟨?p5,⟨?p6,⟨?p7,⟨?p8,⟨?p9,trivial⟩⟩⟩⟩⟩⟩⟩⟩⟩⟩
     case p0 | p1 | p2 | p3 | p5 | p6 | p7 =>
      intro x wx A rest hDf hF hS hE H K hK
      replace hK:=Lib.hid hK
      clear hS hE hDf
      repeat (obtain⟨_,hF⟩:=hF)
      change Oper.wp _ _ A wx K _
      go_step
      exact hK.out _ _ rfl H
     case p4 =>
      intro x wx A rest hDf hF hS hE H K hK0
      replace hDf:=Lib.hid hDf
      have e69:A.tmps[69]?.getD undef=.pointer (some ⟨g,2,none⟩):=((hS 3 (by decide)).2 69 rfl).trans (hS 3 (by decide)).1
      replace H:Sp w0 (rest) wx:=H
      have hK:Hid (∀(v:Value) (w' : World),v=.slice dv.w p.W.length dv.wc->Sp w0 (rest) w'->K (A.put (some 70) v) w'):=Lib.hid hK0
      clear hK0 hF hS
      have c:=(hE _ HB.out _ _ H).c2
      clear hE
      change Oper.wp _ _ A wx K _
      go_step
      exact hK.out _ _ rfl (H)
     case p8 =>
      intro x wx A rest hDf hF hS hE H K hK0
      replace hDf:=Lib.hid hDf
      have e73:A.tmps[73]?.getD undef=.pointer (some ⟨g,4,none⟩):=((hS 7 (by decide)).2 73 rfl).trans (hS 7 (by decide)).1
      replace H:Sp w0 (rest) wx:=H
      have hK:Hid (∀(v:Value) (w' : World),v=.agg #[.slice dv.a p.A.length dv.ac,.slice dv.d p.D.length dv.dc]->Sp w0 (rest) w'->K (A.put (some 74) v) w'):=Lib.hid hK0
      clear hK0 hF hS
      have c4:=(hE _ HB.out _ _ H).c4
      have c5:=(hE _ HB.out _ _ H).c5
      clear hE
      change Oper.wp _ _ A wx K _
      go_step
      exact hK.out _ _ rfl (H)
     case p9 =>
      intro x wx A rest hDf hF hS hE H K hK0
      replace hDf:=Lib.hid hDf
      have e66:A.tmps[66]?.getD undef=.pointer (some ⟨gw,0,none⟩):=((hS 0 (by decide)).2 66 rfl).trans (hS 0 (by decide)).1
      have e70:A.tmps[70]?.getD undef=.slice dv.w p.W.length dv.wc:=((hS 4 (by decide)).2 70 rfl).trans (hS 4 (by decide)).1
      have e74:A.tmps[74]?.getD undef=.agg #[.slice dv.a p.A.length dv.ac,.slice dv.d p.D.length dv.dc]:=((hS 8 (by decide)).2 74 rfl).trans (hS 8 (by decide)).1
      replace H:Sp w0 ((WB gw B4)::rest) wx:=H
      have hK:Hid (∀(v:Value) (w' : World),v=.tuple #[]->Sp w0 ((WB gw (B4++PD.layW p.A p.D p.W))::rest) w'->K (A.put (some 75) v) w'):=Lib.hid hK0
      clear hK0 hF hS
      have hbr:=Lib.hid (hE _ HB.out)
      have HZ:=Lib.hid H
      clear hE H
      change Oper.wp _ _ A wx K _
      go_wp2_with fail
      refine(dlay_ok gw B4 dv.w dv.a dv.d p.W.length dv.wc p.A.length dv.ac p.D.length dv.dc p.W p.A p.D HZ.out (fun w0 w h=>(hbr.out w0 w h).w) (fun w0 w h=>(hbr.out w0 w h).a) (fun w0 w h=>(hbr.out w0 w h).d) rfl rfl rfl hWl (by rw [HNA.out]; omega) (by rw [HND.out]; omega) HA.out HD.out HAS.out HDS.out HOKW.out (by omega)).mono ?_
      rintro _ w9 ⟨rfl,H9⟩
      exact hK.out _ _ rfl H9
    case hend =>
     intro x wx A hA hS H
     replace H:Sp w0 ((WB gw (B4++PD.layW p.A p.D p.W))::L) wx:=H
     clear hS
     simp only [putAll,Act.put,List.setIfInBounds_toArray,List.set_cons_succ,List.set_cons_zero,Nat.reduceAdd] at hA
     subst hA
     have HQ:=Lib.hid H
     clear H HY
     go_wp2
     go_end0
     refine⟨rfl,?_⟩
     have h:=HQ.out
     rw [<- HB4.out,<- HB3.out,<- HB2.out] at h
     simp only [List.append_assoc] at h ⊢
     exact h
end Go.Proofs.YtloijdbkikccgaaDoor

