/- A pack of texts: DefI DefJ DefM. -/
import Derived.Test.YtloijdbkikccgaaDoorPk22
import Derived.Test.YtloijdbkikccgaaDoorPk23
namespace Go.Proofs.YtloijdbkikccgaaDoor
set_option linter.unusedVariables false
set_option linter.unusedSimpArgs false
open Go.RowKit
set_option maxRecDepth 100000 in
set_option maxHeartbeats 8000000 in
theorem dsizes_ok (g a:Nat) (dv:DV) (p:BP) {TL TF:Option Addr} {cl cf:Nat} {w0 w:World} {L:List Pr} (H:Sp w0 L w) (hb:Ent L (DBr g dv p)) (hT:Ent L (DTabs TL TF cl cf)) (hbl:p.b.length<=100000000)
  (hA:∀x ∈ p.A,x<=15) (hD:∀x ∈ p.D,x<=15) (hF:p.F.length=19) (hF7:∀x ∈ p.F,x<=7)
  (hokR:∀t ∈ p.R,PD.WdOk p.F [] t) (hokW:∀t ∈ p.W,PD.WdOk p.A p.D t) (hokX:∀t ∈ p.W,PD.WdOk PI.fixedL PI.fixedD t) (hRl:p.R.length<=1000) (hWl:p.W.length<=2000000) (ha:a<=900000000) :
  Calls Tryd.prog 83 #[.pointer (some ⟨g,0,none⟩),.int .i64 (a:Int)] w fun e w'=>e=.returned (.agg #[.int .i64 (PD.sto p.b.length a),.int .i64 ((3+PD.costW PI.fixedL PI.fixedD p.W:Nat):Int),.int .i64 ((17+3 * PD.told p.F+PD.costW p.F [] p.R+PD.costW p.A p.D p.W:Nat):Int)])/\Sp w0 L w':=by
 obtain⟨S,hS⟩:∃S,PD.sto p.b.length a=S:=⟨_,rfl⟩
 obtain⟨n,hn⟩:∃n,p.b.length=n:=⟨_,rfl⟩
 obtain⟨td,htd⟩:∃td,PD.told p.F=td:=⟨_,rfl⟩
 obtain⟨cR,hcR⟩:∃c,PD.costW p.F [] p.R=c:=⟨_,rfl⟩
 obtain⟨cW,hcW⟩:∃c,PD.costW p.A p.D p.W=c:=⟨_,rfl⟩
 obtain⟨cX,hcX⟩:∃c,PD.costW PI.fixedL PI.fixedD p.W=c:=⟨_,rfl⟩
 have htd19:td<=19:=by rw [<- htd]; exact(PD.told_ok p.F).2
 have l1:cR<=28 * 1000:=by
  have h:=layW_le (A:=p.F) (D:=[]) (fun x hx=>by have:=hF7 x hx; omega) (fun x hx=>by cases hx) p.R hokR
  rw [PD.layW_len,hcR] at h; omega
 have l2:cW<=28 * 2000000:=by
  have h:=layW_le hA hD p.W hokW
  rw [PD.layW_len,hcW] at h; omega
 have l3:cX<=28 * 2000000:=by
  have h:=layW_le fl15 fd15 p.W hokX
  rw [PD.layW_len,hcX] at h; omega
 rw [hS,htd,hcR,hcW,hcX]
 rw [hn] at hbl
 have HB:=Lib.hid hb
 have HT:=Lib.hid hT
 have HN:=Lib.hid hn
 have HA:=Lib.hid hA
 have HD:=Lib.hid hD
 have HF:=Lib.hid hF
 have HF7:=Lib.hid hF7
 have HOKR:=Lib.hid hokR
 have HOKW:=Lib.hid hokW
 have HOKX:=Lib.hid hokX
 have HTD:=Lib.hid htd
 have HCR:=Lib.hid hcR
 have HCW:=Lib.hid hcW
 have HCX:=Lib.hid hcX
 have H1:=H.newBk [.int .i64 0,.int .i64 0,.int .i64 0] 43
 have c1:=(HB.out _ _ H1.tail).c1
 rw [hn] at c1
 have HX:=Lib.hid H1
 obtain⟨es1,hes1⟩:∃x,3 * td=x:=⟨_,rfl⟩
 obtain⟨es2,hes2⟩:∃x,17+es1=x:=⟨_,rfl⟩
 obtain⟨es3,hes3⟩:∃x,es2+cR=x:=⟨_,rfl⟩
 obtain⟨es4,hes4⟩:∃x,es3+cW=x:=⟨_,rfl⟩
 obtain⟨es5,hes5⟩:∃x,3+cX=x:=⟨_,rfl⟩
 rw [hes1,hes2,hes3,hes4,hes5]
 have i1:3 * (td:Int)=(es1:Int):=by omega
 have i2:17+(es1:Int)=(es2:Int):=by omega
 have i3:(es2:Int)+(cR:Int)=(es3:Int):=by omega
 have i4:(es3:Int)+(cW:Int)=(es4:Int):=by omega
 have i5:3+(cX:Int)=(es5:Int):=by omega
 have b1:es4<=1000000000/\es3<=1000000000/\es2<=1000000000/\es5<=1000000000:=by omega
 obtain⟨b1,b2,b3,b4⟩:=b1
 clear hb hT hA hD hF hF7 hokR hokW hokX htd hcR hcW hcX H H1 hn hes1 hes2 hes3 hes4 hes5 l1 l2 l3
 by_cases h6:n<=65535
 ·obtain⟨a3,ha3⟩:∃x,a+3=x:=⟨_,rfl⟩
  obtain⟨pd,hpd⟩:∃x,PD.pad a3=x:=⟨_,rfl⟩
  have hpd7:pd<=7:=by rw [<- hpd]; unfold PD.pad; omega
  obtain⟨f1,hf1⟩:∃x,3+pd=x:=⟨_,rfl⟩
  obtain⟨f2,hf2⟩:∃x,f1+32=x:=⟨_,rfl⟩
  obtain⟨f3,hf3⟩:∃x,8 * n=x:=⟨_,rfl⟩
  obtain⟨f4,hf4⟩:∃x,f2+f3=x:=⟨_,rfl⟩
  have hS4:S=(f4:Int):=by
   rw [<- hS,<- hf4,<- hf2,<- hf1,<- hf3,<- hpd,<- ha3]
   unfold PD.sto
   rw [HN.out,if_pos h6]
  subst hS4
  have j0:(a:Int)+3=(a3:Int):=by omega
  have j1:bits .and .i64 (-(a3:Int)) 7=(pd:Int):=by
   rw [i64_and7,<- hpd]; unfold PD.pad; omega
  have j2:3+(pd:Int)=(f1:Int):=by omega
  have j3:(f1:Int)+32=(f2:Int):=by omega
  have j4:8 * (n:Int)=(f3:Int):=by omega
  have j5:(f2:Int)+(f3:Int)=(f4:Int):=by omega
  have b5:a3<=1000000000:=by omega
  have b6:f1<=100/\f2<=100/\f3<=1000000/\f4<=2000000:=by omega
  obtain⟨b6,b7,b8,b9⟩:=b6
  have k1:(n:Int)<=65535:=by omega
  clear hS ha3 hpd hf1 hf2 hf3 hf4
  go_enter Tryd.func83,Tryd.ntmps83
  go_wp2_with fail
  generalize w.heap.size=g4 at HX ⊢
  have HBX:Hid (Ent (Bk g4 43 [.int .i64 0,.int .i64 0,.int .i64 0]::L) (DBr g dv p)):=Lib.hid fun w0 w h=>HB.out w0 w h.tail
  have HTX:Hid (Ent (Bk g4 43 [.int .i64 0,.int .i64 0,.int .i64 0]::L) (DTabs TL TF cl cf)):=Lib.hid fun w0 w h=>HT.out w0 w h.tail
  refine wp_region_sc (L:=Bk g4 43 [.int .i64 0,.int .i64 0,.int .i64 0]::L) [some (.pointer (some ⟨g,0,none⟩)),some (.int .i64 (td:Int)),some (.int .i64 (es1:Int)),some (.int .i64 (es2:Int)),some (.pointer (some ⟨g,0,none⟩)),some (.pointer (some ⟨g,0,none⟩)),some (.pointer (some ⟨g,6,none⟩)),some (.slice dv.r p.R.length dv.rc),some (.pointer (some ⟨g,0,none⟩)),some (.pointer (some ⟨g,0,none⟩)),some (.pointer (some ⟨g,7,none⟩)),some (.slice dv.f p.F.length dv.fc),some (.agg #[.slice dv.f p.F.length dv.fc,.slice none 0 0]),some (.int .i64 (cR:Int)),some (.int .i64 (es3:Int)),some (.pointer (some ⟨g,0,none⟩)),some (.pointer (some ⟨g,0,none⟩)),some (.pointer (some ⟨g,2,none⟩)),some (.slice dv.w p.W.length dv.wc),some (.pointer (some ⟨g,0,none⟩)),some (.pointer (some ⟨g,0,none⟩)),some (.pointer (some ⟨g,4,none⟩)),some (.agg #[.slice dv.a p.A.length dv.ac,.slice dv.d p.D.length dv.dc]),some (.int .i64 (cW:Int)),some (.int .i64 (es4:Int)),some (.int .i64 (es4:Int))] (fun _ _=>True) (fun _ _=>[]) (fun _=>[]) 26 61
   [some 26,some 27,some 28,some 29,some 30,some 31,some 32,some 33,some 34,some 35,some 36,some 37,some 38,some 39,some 40,some 41,some 42,some 43,some 44,some 45,some 46,some 47,some 48,some 49,some 50,some 6]
   [[],[0],[1],[2],[],[4],[5],[6],[],[8],[9],[10],[11],[7,12,1],[3,13],[],[15],[16],[17],[],[19],[20],[21],[18,22,13],[14,23],[24,23,0,1,2,3,4,5,6,7,8,9,10,11,12,13,14,15,16,17,18,19,20,21,22,23,24]]
   [[],[0],[0,1],[0,1,2],[],[4],[4,5],[4,5,6],[],[8],[8,9],[8,9,10],[8,9,10,11],[0,1,4,5,6,7,8,9,10,11,12],[0,1,2,3,4,5,6,7,8,9,10,11,12,13],[],[15],[15,16],[15,16,17],[],[19],[19,20],[19,20,21],[0,1,4,5,6,7,8,9,10,11,12,13,15,16,17,18,19,20,21,22],[0,1,2,3,4,5,6,7,8,9,10,11,12,13,14,15,16,17,18,19,20,21,22,23],[0,1,2,3,4,5,6,7,8,9,10,11,12,13,14,15,16,17,18,19,20,21,22,23,24]]
   [[],[],[],[],[],[],[],[],[],[],[],[],[],[],[],[],[],[],[],[],[],[],[],[],[],[]] [[],[],[],[],[],[],[],[],[],[],[],[],[],[],[],[],[],[],[],[],[],[],[],[],[],[]] [(0,.pointer (some ⟨g,0,none⟩))]
   (by kernel_rfl) rfl (by decide) (by rfl) (by decide +kernel) rfl rfl (by simp) (HX.out) ?hstep ?hend
  case hstep =>
   refine⟨?p0,⟨?p1,⟨?p2,⟨?p3,⟨?p4,⟨?p5,⟨?p6,⟨?p7,⟨?p8,⟨?p9,⟨?p10,⟨?p11,⟨?p12,⟨?p13,⟨?p14,⟨?p15,⟨?p16,⟨?p17,⟨?p18,⟨?p19,⟨?p20,⟨?p21,⟨?p22,⟨?p23,⟨?p24,⟨?p25,trivial⟩⟩⟩⟩⟩⟩⟩⟩⟩⟩⟩⟩⟩⟩⟩⟩⟩⟩⟩⟩⟩⟩⟩⟩⟩⟩
   case p0 | p2 | p3 | p4 | p5 | p6 | p8 | p9 | p10 | p12 | p14 | p15 | p16 | p17 | p19 | p20 | p21 | p24 | p25 =>
    intro x wx A rest hDf hF hS hE H K hK
    replace hK:=Lib.hid hK
    clear hS hE hDf
    repeat (obtain⟨_,hF⟩:=hF)
    change Oper.wp _ _ A wx K _
    go_step
    exact hK.out _ _ rfl H
   case p1 =>
    intro x wx A rest hDf hF hS hE H K hK0
    replace hDf:=Lib.hid hDf
    have e26:A.tmps[26]?.getD undef=.pointer (some ⟨g,0,none⟩):=((hS 0 (by decide)).2 26 rfl).trans (hS 0 (by decide)).1
    replace H:Sp w0 (rest) wx:=H
    have hK:Hid (∀(v:Value) (w' : World),v=.int .i64 (td:Int)->Sp w0 (rest) w'->K (A.put (some 27) v) w'):=Lib.hid hK0
    clear hK0 hF hS
    have htb:=Lib.hid (hE _ HTX.out)
    have hbr:=Lib.hid (hE _ HBX.out)
    have HZ:=Lib.hid H
    clear hE H
    change Oper.wp _ _ A wx K _
    go_wp2_with fail
    refine(dtold_ok g dv p HZ.out hbr.out htb.out HF.out).mono ?_
    rw [HTD.out]
    rintro _ w9 ⟨rfl,H9⟩
    exact hK.out _ _ rfl H9
   case p7 =>
    intro x wx A rest hDf hF hS hE H K hK0
    replace hDf:=Lib.hid hDf
    have e32:A.tmps[32]?.getD undef=.pointer (some ⟨g,6,none⟩):=((hS 6 (by decide)).2 32 rfl).trans (hS 6 (by decide)).1
    replace H:Sp w0 (rest) wx:=H
    have hK:Hid (∀(v:Value) (w' : World),v=.slice dv.r p.R.length dv.rc->Sp w0 (rest) w'->K (A.put (some 33) v) w'):=Lib.hid hK0
    clear hK0 hF hS
    have c:=(hE _ HBX.out _ _ H).c6
    clear hE
    change Oper.wp _ _ A wx K _
    go_step
    exact hK.out _ _ rfl (H)
   case p11 =>
    intro x wx A rest hDf hF hS hE H K hK0
    replace hDf:=Lib.hid hDf
    have e36:A.tmps[36]?.getD undef=.pointer (some ⟨g,7,none⟩):=((hS 10 (by decide)).2 36 rfl).trans (hS 10 (by decide)).1
    replace H:Sp w0 (rest) wx:=H
    have hK:Hid (∀(v:Value) (w' : World),v=.slice dv.f p.F.length dv.fc->Sp w0 (rest) w'->K (A.put (some 37) v) w'):=Lib.hid hK0
    clear hK0 hF hS
    have c:=(hE _ HBX.out _ _ H).c7
    clear hE
    change Oper.wp _ _ A wx K _
    go_step
    exact hK.out _ _ rfl (H)
   case p13 =>
    intro x wx A rest hDf hF hS hE H K hK0
    replace hDf:=Lib.hid hDf
    have e33:A.tmps[33]?.getD undef=.slice dv.r p.R.length dv.rc:=((hS 7 (by decide)).2 33 rfl).trans (hS 7 (by decide)).1
    have e38:A.tmps[38]?.getD undef=.agg #[.slice dv.f p.F.length dv.fc,.slice none 0 0]:=((hS 12 (by decide)).2 38 rfl).trans (hS 12 (by decide)).1
    replace H:Sp w0 (rest) wx:=H
    have hK:Hid (∀(v:Value) (w' : World),v=.int .i64 (cR:Int)->Sp w0 (rest) w'->K (A.put (some 39) v) w'):=Lib.hid hK0
    clear hK0 hF hS
    have hbr:=Lib.hid (hE _ HBX.out)
    have HZ:=Lib.hid H
    clear hE H
    change Oper.wp _ _ A wx K _
    go_wp2_with fail
    refine(dcost_ok dv.r dv.f none p.R.length dv.rc p.F.length dv.fc 0 0 p.R p.F [] HZ.out (fun w0 w h=>(hbr.out w0 w h).r) (fun w0 w h=>(hbr.out w0 w h).f) (fun w0 w h=>Rd.nil) rfl rfl rfl (by omega) (fun x hx=>by have:=HF7.out x hx; omega) (fun x hx=>by cases hx) HOKR.out).mono ?_
    rw [HCR.out]
    rintro _ w9 ⟨rfl,H9⟩
    exact hK.out _ _ rfl H9
   case p18 =>
    intro x wx A rest hDf hF hS hE H K hK0
    replace hDf:=Lib.hid hDf
    have e43:A.tmps[43]?.getD undef=.pointer (some ⟨g,2,none⟩):=((hS 17 (by decide)).2 43 rfl).trans (hS 17 (by decide)).1
    replace H:Sp w0 (rest) wx:=H
    have hK:Hid (∀(v:Value) (w' : World),v=.slice dv.w p.W.length dv.wc->Sp w0 (rest) w'->K (A.put (some 44) v) w'):=Lib.hid hK0
    clear hK0 hF hS
    have c:=(hE _ HBX.out _ _ H).c2
    clear hE
    change Oper.wp _ _ A wx K _
    go_step
    exact hK.out _ _ rfl (H)
   case p22 =>
    intro x wx A rest hDf hF hS hE H K hK0
    replace hDf:=Lib.hid hDf
    have e47:A.tmps[47]?.getD undef=.pointer (some ⟨g,4,none⟩):=((hS 21 (by decide)).2 47 rfl).trans (hS 21 (by decide)).1
    replace H:Sp w0 (rest) wx:=H
    have hK:Hid (∀(v:Value) (w' : World),v=.agg #[.slice dv.a p.A.length dv.ac,.slice dv.d p.D.length dv.dc]->Sp w0 (rest) w'->K (A.put (some 48) v) w'):=Lib.hid hK0
    clear hK0 hF hS
    have c4:=(hE _ HBX.out _ _ H).c4
    have c5:=(hE _ HBX.out _ _ H).c5
    clear hE
    change Oper.wp _ _ A wx K _
    go_step
    exact hK.out _ _ rfl (H)
   case p23 =>
    intro x wx A rest hDf hF hS hE H K hK0
    replace hDf:=Lib.hid hDf
    have e44:A.tmps[44]?.getD undef=.slice dv.w p.W.length dv.wc:=((hS 18 (by decide)).2 44 rfl).trans (hS 18 (by decide)).1
    have e48:A.tmps[48]?.getD undef=.agg #[.slice dv.a p.A.length dv.ac,.slice dv.d p.D.length dv.dc]:=((hS 22 (by decide)).2 48 rfl).trans (hS 22 (by decide)).1
    replace H:Sp w0 (rest) wx:=H
    have hK:Hid (∀(v:Value) (w' : World),v=.int .i64 (cW:Int)->Sp w0 (rest) w'->K (A.put (some 49) v) w'):=Lib.hid hK0
    clear hK0 hF hS
    have hbr:=Lib.hid (hE _ HBX.out)
    have HZ:=Lib.hid H
    clear hE H
    change Oper.wp _ _ A wx K _
    go_wp2_with fail
    refine(dcost_ok dv.w dv.a dv.d p.W.length dv.wc p.A.length dv.ac p.D.length dv.dc p.W p.A p.D HZ.out (fun w0 w h=>(hbr.out w0 w h).w) (fun w0 w h=>(hbr.out w0 w h).a) (fun w0 w h=>(hbr.out w0 w h).d) rfl rfl rfl hWl HA.out HD.out HOKW.out).mono ?_
    rw [HCW.out]
    rintro _ w9 ⟨rfl,H9⟩
    exact hK.out _ _ rfl H9
  case hend =>
   intro x wx A hA hS H
   replace H:Sp w0 (Bk g4 43 [.int .i64 0,.int .i64 0,.int .i64 0]::L) wx:=H
   have y25:x 25=.int .i64 (es4:Int):=hS 25 (by decide)
   clear hS
   simp only [putAll,Act.put,List.setIfInBounds_toArray,List.set_cons_succ,List.set_cons_zero,Nat.reduceAdd] at hA
   subst hA
   rw [y25]
   have HY:=Lib.hid H
   clear H HX
   go_wp2_with fail
   refine wp_region_sc (L:=L) [some (.int .i64 (f4:Int)),some (.pointer (some ⟨g,0,none⟩)),some (.pointer (some ⟨g,0,none⟩)),some (.pointer (some ⟨g,2,none⟩)),some (.slice dv.w p.W.length dv.wc),none,some (.int .i64 (cX:Int)),some (.int .i64 (es5:Int)),some (.int .i64 (es4:Int)),some (.agg #[.int .i64 (f4:Int),.int .i64 (es5:Int),.int .i64 (es4:Int)]),some (undef)] (fun ix vx=>match ix with | 5=>(fun vv=>vv=.agg #[agF vv 0,agF vv 1]) vx | _=>True) (fun ix vx=>match ix with | 5=>(fun vv=>[Row 3 1 (agF vv 0) 288 (cellsN PI.fixedL),Row 3 1 (agF vv 1) 32 (cellsN PI.fixedD)]) vx | 10=>(fun _=>[Bk g4 43 [.int .i64 (f4:Int),.int .i64 (es5:Int),.int .i64 (es4:Int)]]) vx | _=>[]) (fun ix=>match ix with | 10=>[Bk g4 43 [.int .i64 0,.int .i64 0,.int .i64 0]] | _=>[]) 11 61
    [some 51,some 52,some 53,some 54,some 55,some 56,some 57,some 58,some 59,some 60,none]
    [[],[],[1],[2],[3],[],[4,5,5],[6],[],[0,7,8],[9,6,0,1,2,3,4,5,6,7,8,9]]
    [[],[],[1],[1,2],[1,2,3],[],[1,2,3,4,5],[1,2,3,4,5,6],[],[0,1,2,3,4,5,6,7,8],[0,1,2,3,4,5,6,7,8,9]]
    [[],[],[],[],[],[],[5],[],[],[],[]] [[],[],[],[],[],[],[],[],[],[],[]] [(0,.pointer (some ⟨g,0,none⟩)),(4,.pointer (some ⟨g4,0,none⟩)),(5,.int .i64 (f4:Int)),(6,.int .i64 (es4:Int))]
    (by kernel_rfl) rfl (by decide) (by rfl) (by decide +kernel) rfl rfl (by simp) (HY.out) ?hstep ?hend
   case hstep =>
    refine⟨?p0,⟨?p1,⟨?p2,⟨?p3,⟨?p4,⟨?p5,⟨?p6,⟨?p7,⟨?p8,⟨?p9,⟨?p10,trivial⟩⟩⟩⟩⟩⟩⟩⟩⟩⟩⟩
    case p0 | p1 | p2 | p3 | p7 | p8 | p9 =>
     intro x wx A rest hDf hF hS hE H K hK
     replace hK:=Lib.hid hK
     clear hS hE hDf
     repeat (obtain⟨_,hF⟩:=hF)
     change Oper.wp _ _ A wx K _
     go_step
     exact hK.out _ _ rfl H
    case p4 =>
     intro x wx A rest hDf hF hS hE H K hK0
     replace hDf:=Lib.hid hDf
     have e54:A.tmps[54]?.getD undef=.pointer (some ⟨g,2,none⟩):=((hS 3 (by decide)).2 54 rfl).trans (hS 3 (by decide)).1
     replace H:Sp w0 (rest) wx:=H
     have hK:Hid (∀(v:Value) (w' : World),v=.slice dv.w p.W.length dv.wc->Sp w0 (rest) w'->K (A.put (some 55) v) w'):=Lib.hid hK0
     clear hK0 hF hS
     have c:=(hE _ HB.out _ _ H).c2
     clear hE
     change Oper.wp _ _ A wx K _
     go_step
     exact hK.out _ _ rfl (H)
    case p5 =>
     intro x wx A rest hDf hF hS hE H K hK0
     replace hDf:=Lib.hid hDf
     replace H:Sp w0 (rest) wx:=H
     have hK:Hid (∀(v:Value) (w' : World),v=.agg #[agF v 0,agF v 1]->Sp w0 ((Row 3 1 (agF v 0) 288 (cellsN PI.fixedL))::(Row 3 1 (agF v 1) 32 (cellsN PI.fixedD))::rest) w'->K (A.put (some 56) v) w'):=Lib.hid hK0
     clear hK0 hF hS hE
     change Oper.wp _ _ A wx K _
     go_wp2_with fail
     refine(dfixed_ok H).mono ?_
     rintro _ w9 ⟨v0,v1,rfl,H9⟩
     exact hK.out _ _ rfl H9
    case p6 =>
     intro x wx A rest hDf hF hS hE H K hK0
     replace hDf:=Lib.hid hDf
     have e55:A.tmps[55]?.getD undef=.slice dv.w p.W.length dv.wc:=((hS 4 (by decide)).2 55 rfl).trans (hS 4 (by decide)).1
     have q56:(x 5)=.agg #[agF (x 5) 0,agF (x 5) 1]:=(hS 5 (by decide)).1
     have e56:A.tmps[56]?.getD undef=x 5:=(hS 5 (by decide)).2 56 rfl
     replace H:Sp w0 ((Row 3 1 (agF (x 5) 0) 288 (cellsN PI.fixedL))::(Row 3 1 (agF (x 5) 1) 32 (cellsN PI.fixedD))::rest) wx:=H
     have hK:Hid (∀(v:Value) (w' : World),v=.int .i64 (cX:Int)->Sp w0 (rest) w'->K (A.put (some 57) v) w'):=Lib.hid hK0
     clear hK0 hF hS
     obtain⟨r0,hr0⟩:∃r,agF (x 5) 0=r:=⟨_,rfl⟩
     obtain⟨r1,hr1⟩:∃r,agF (x 5) 1=r:=⟨_,rfl⟩
     rw [hr0,hr1] at q56 H
     rw [q56] at e56
     clear hr0 hr1 q56
     obtain⟨A0,c0,rfl,_,_⟩:=Row.form H 0 rfl
     obtain⟨A1,c1,rfl,_,_⟩:=Row.form H 1 rfl
     have hbr:=Lib.hid (hE _ HB.out)
     have HZ:=Lib.hid H
     clear hE H
     change Oper.wp _ _ A wx K _
     go_wp2_with fail
     refine(dcost_ok dv.w A0 A1 p.W.length dv.wc 288 c0 32 c1 p.W PI.fixedL PI.fixedD HZ.out (fun w0 w h=>(hbr.out w0 w (h.pick 2 [])).w) (fun w0 w h=>rowRd h 0 rfl) (fun w0 w h=>rowRd h 1 rfl) rfl dfixedL_len.symm rfl hWl fl15 fd15 HOKX.out).mono ?_
     rw [HCX.out]
     rintro _ w9 ⟨rfl,H9⟩
     exact hK.out _ _ rfl H9.tail2
    case p10 =>
     intro x wx A rest hDf hF hS hE H K hK0
     replace hDf:=Lib.hid hDf
     have e4:A.tmps[4]?.getD undef=.pointer (some ⟨g4,0,none⟩):=factsE_get hF (4,.pointer (some ⟨g4,0,none⟩)) (by simp) (by rfl)
     have e60:A.tmps[60]?.getD undef=.agg #[.int .i64 (f4:Int),.int .i64 (es5:Int),.int .i64 (es4:Int)]:=((hS 9 (by decide)).2 60 rfl).trans (hS 9 (by decide)).1
     replace H:Sp w0 ((Bk g4 43 [.int .i64 0,.int .i64 0,.int .i64 0])::rest) wx:=H
     have hK:Hid (∀(v:Value) (w' : World),v=undef->Sp w0 ((Bk g4 43 [.int .i64 (f4:Int),.int .i64 (es5:Int),.int .i64 (es4:Int)])::rest) w'->K (A.put none v) w'):=Lib.hid hK0
     clear hK0 hF hS hE
     have t0:=H.cell 0 rfl 0
     have t1:=H.cell 0 rfl 1
     have t2:=H.cell 0 rfl 2
     have z0:=H.frozen 0 rfl 0
     have z1:=H.frozen 0 rfl 1
     have z2:=H.frozen 0 rfl 2
     change Oper.wp _ _ A wx K _
     go_step
     exact hK.out _ _ rfl (((H.set 0 (.int .i64 (f4:Int))).set 1 (.int .i64 (es5:Int))).set 2 (.int .i64 (es4:Int)))
   case hend =>
    intro x wx A hA hS H
    replace H:Sp w0 ((Bk g4 43 [.int .i64 (f4:Int),.int .i64 (es5:Int),.int .i64 (es4:Int)])::L) wx:=H
    clear hS
    simp only [putAll,Act.put,List.setIfInBounds_toArray,List.set_cons_succ,List.set_cons_zero,Nat.reduceAdd] at hA
    subst hA
    have HQ:=Lib.hid H
    clear H HY
    go_wp2
    have t0:=HQ.out.cell 0 rfl 0
    have t1:=HQ.out.cell 0 rfl 1
    have t2:=HQ.out.cell 0 rfl 2
    simp only [List.getElem?_cons_zero,List.getElem?_cons_succ] at t0 t1 t2
    exact bodyPost_ret (v:=.agg #[.int .i64 (f4:Int),.int .i64 (es5:Int),.int .i64 (es4:Int)]) (by simp [results,go_sem,t0,t1,t2]) rfl ⟨rfl,HQ.out.tail⟩
 ·have hS4:S = -1:=by
   rw [<- hS]
   unfold PD.sto
   rw [HN.out,if_neg h6]
  subst hS4
  have k1:¬ (n:Int)<=65535:=by omega
  clear hS
  go_enter Tryd.func83,Tryd.ntmps83
  go_wp2_with fail
  generalize w.heap.size=g4 at HX ⊢
  have HBX:Hid (Ent (Bk g4 43 [.int .i64 0,.int .i64 0,.int .i64 0]::L) (DBr g dv p)):=Lib.hid fun w0 w h=>HB.out w0 w h.tail
  have HTX:Hid (Ent (Bk g4 43 [.int .i64 0,.int .i64 0,.int .i64 0]::L) (DTabs TL TF cl cf)):=Lib.hid fun w0 w h=>HT.out w0 w h.tail
  refine wp_region_sc (L:=Bk g4 43 [.int .i64 0,.int .i64 0,.int .i64 0]::L) [some (.pointer (some ⟨g,0,none⟩)),some (.int .i64 (td:Int)),some (.int .i64 (es1:Int)),some (.int .i64 (es2:Int)),some (.pointer (some ⟨g,0,none⟩)),some (.pointer (some ⟨g,0,none⟩)),some (.pointer (some ⟨g,6,none⟩)),some (.slice dv.r p.R.length dv.rc),some (.pointer (some ⟨g,0,none⟩)),some (.pointer (some ⟨g,0,none⟩)),some (.pointer (some ⟨g,7,none⟩)),some (.slice dv.f p.F.length dv.fc),some (.agg #[.slice dv.f p.F.length dv.fc,.slice none 0 0]),some (.int .i64 (cR:Int)),some (.int .i64 (es3:Int)),some (.pointer (some ⟨g,0,none⟩)),some (.pointer (some ⟨g,0,none⟩)),some (.pointer (some ⟨g,2,none⟩)),some (.slice dv.w p.W.length dv.wc),some (.pointer (some ⟨g,0,none⟩)),some (.pointer (some ⟨g,0,none⟩)),some (.pointer (some ⟨g,4,none⟩)),some (.agg #[.slice dv.a p.A.length dv.ac,.slice dv.d p.D.length dv.dc]),some (.int .i64 (cW:Int)),some (.int .i64 (es4:Int)),some (.int .i64 (es4:Int))] (fun _ _=>True) (fun _ _=>[]) (fun _=>[]) 26 61
   [some 26,some 27,some 28,some 29,some 30,some 31,some 32,some 33,some 34,some 35,some 36,some 37,some 38,some 39,some 40,some 41,some 42,some 43,some 44,some 45,some 46,some 47,some 48,some 49,some 50,some 6]
   [[],[0],[1],[2],[],[4],[5],[6],[],[8],[9],[10],[11],[7,12,1],[3,13],[],[15],[16],[17],[],[19],[20],[21],[18,22,13],[14,23],[24,23,0,1,2,3,4,5,6,7,8,9,10,11,12,13,14,15,16,17,18,19,20,21,22,23,24]]
   [[],[0],[0,1],[0,1,2],[],[4],[4,5],[4,5,6],[],[8],[8,9],[8,9,10],[8,9,10,11],[0,1,4,5,6,7,8,9,10,11,12],[0,1,2,3,4,5,6,7,8,9,10,11,12,13],[],[15],[15,16],[15,16,17],[],[19],[19,20],[19,20,21],[0,1,4,5,6,7,8,9,10,11,12,13,15,16,17,18,19,20,21,22],[0,1,2,3,4,5,6,7,8,9,10,11,12,13,14,15,16,17,18,19,20,21,22,23],[0,1,2,3,4,5,6,7,8,9,10,11,12,13,14,15,16,17,18,19,20,21,22,23,24]]
   [[],[],[],[],[],[],[],[],[],[],[],[],[],[],[],[],[],[],[],[],[],[],[],[],[],[]] [[],[],[],[],[],[],[],[],[],[],[],[],[],[],[],[],[],[],[],[],[],[],[],[],[],[]] [(0,.pointer (some ⟨g,0,none⟩))]
   (by kernel_rfl) rfl (by decide) (by rfl) (by decide +kernel) rfl rfl (by simp) (HX.out) ?hstep ?hend
  case hstep =>
   refine⟨?p0,⟨?p1,⟨?p2,⟨?p3,⟨?p4,⟨?p5,⟨?p6,⟨?p7,⟨?p8,⟨?p9,⟨?p10,⟨?p11,⟨?p12,⟨?p13,⟨?p14,⟨?p15,⟨?p16,⟨?p17,⟨?p18,⟨?p19,⟨?p20,⟨?p21,⟨?p22,⟨?p23,⟨?p24,⟨?p25,trivial⟩⟩⟩⟩⟩⟩⟩⟩⟩⟩⟩⟩⟩⟩⟩⟩⟩⟩⟩⟩⟩⟩⟩⟩⟩⟩
   case p0 | p2 | p3 | p4 | p5 | p6 | p8 | p9 | p10 | p12 | p14 | p15 | p16 | p17 | p19 | p20 | p21 | p24 | p25 =>
    intro x wx A rest hDf hF hS hE H K hK
    replace hK:=Lib.hid hK
    clear hS hE hDf
    repeat (obtain⟨_,hF⟩:=hF)
    change Oper.wp _ _ A wx K _
    go_step
    exact hK.out _ _ rfl H
   case p1 =>
    intro x wx A rest hDf hF hS hE H K hK0
    replace hDf:=Lib.hid hDf
    have e26:A.tmps[26]?.getD undef=.pointer (some ⟨g,0,none⟩):=((hS 0 (by decide)).2 26 rfl).trans (hS 0 (by decide)).1
    replace H:Sp w0 (rest) wx:=H
    have hK:Hid (∀(v:Value) (w' : World),v=.int .i64 (td:Int)->Sp w0 (rest) w'->K (A.put (some 27) v) w'):=Lib.hid hK0
    clear hK0 hF hS
    have htb:=Lib.hid (hE _ HTX.out)
    have hbr:=Lib.hid (hE _ HBX.out)
    have HZ:=Lib.hid H
    clear hE H
    change Oper.wp _ _ A wx K _
    go_wp2_with fail
    refine(dtold_ok g dv p HZ.out hbr.out htb.out HF.out).mono ?_
    rw [HTD.out]
    rintro _ w9 ⟨rfl,H9⟩
    exact hK.out _ _ rfl H9
   case p7 =>
    intro x wx A rest hDf hF hS hE H K hK0
    replace hDf:=Lib.hid hDf
    have e32:A.tmps[32]?.getD undef=.pointer (some ⟨g,6,none⟩):=((hS 6 (by decide)).2 32 rfl).trans (hS 6 (by decide)).1
    replace H:Sp w0 (rest) wx:=H
    have hK:Hid (∀(v:Value) (w' : World),v=.slice dv.r p.R.length dv.rc->Sp w0 (rest) w'->K (A.put (some 33) v) w'):=Lib.hid hK0
    clear hK0 hF hS
    have c:=(hE _ HBX.out _ _ H).c6
    clear hE
    change Oper.wp _ _ A wx K _
    go_step
    exact hK.out _ _ rfl (H)
   case p11 =>
    intro x wx A rest hDf hF hS hE H K hK0
    replace hDf:=Lib.hid hDf
    have e36:A.tmps[36]?.getD undef=.pointer (some ⟨g,7,none⟩):=((hS 10 (by decide)).2 36 rfl).trans (hS 10 (by decide)).1
    replace H:Sp w0 (rest) wx:=H
    have hK:Hid (∀(v:Value) (w' : World),v=.slice dv.f p.F.length dv.fc->Sp w0 (rest) w'->K (A.put (some 37) v) w'):=Lib.hid hK0
    clear hK0 hF hS
    have c:=(hE _ HBX.out _ _ H).c7
    clear hE
    change Oper.wp _ _ A wx K _
    go_step
    exact hK.out _ _ rfl (H)
   case p13 =>
    intro x wx A rest hDf hF hS hE H K hK0
    replace hDf:=Lib.hid hDf
    have e33:A.tmps[33]?.getD undef=.slice dv.r p.R.length dv.rc:=((hS 7 (by decide)).2 33 rfl).trans (hS 7 (by decide)).1
    have e38:A.tmps[38]?.getD undef=.agg #[.slice dv.f p.F.length dv.fc,.slice none 0 0]:=((hS 12 (by decide)).2 38 rfl).trans (hS 12 (by decide)).1
    replace H:Sp w0 (rest) wx:=H
    have hK:Hid (∀(v:Value) (w' : World),v=.int .i64 (cR:Int)->Sp w0 (rest) w'->K (A.put (some 39) v) w'):=Lib.hid hK0
    clear hK0 hF hS
    have hbr:=Lib.hid (hE _ HBX.out)
    have HZ:=Lib.hid H
    clear hE H
    change Oper.wp _ _ A wx K _
    go_wp2_with fail
    refine(dcost_ok dv.r dv.f none p.R.length dv.rc p.F.length dv.fc 0 0 p.R p.F [] HZ.out (fun w0 w h=>(hbr.out w0 w h).r) (fun w0 w h=>(hbr.out w0 w h).f) (fun w0 w h=>Rd.nil) rfl rfl rfl (by omega) (fun x hx=>by have:=HF7.out x hx; omega) (fun x hx=>by cases hx) HOKR.out).mono ?_
    rw [HCR.out]
    rintro _ w9 ⟨rfl,H9⟩
    exact hK.out _ _ rfl H9
   case p18 =>
    intro x wx A rest hDf hF hS hE H K hK0
    replace hDf:=Lib.hid hDf
    have e43:A.tmps[43]?.getD undef=.pointer (some ⟨g,2,none⟩):=((hS 17 (by decide)).2 43 rfl).trans (hS 17 (by decide)).1
    replace H:Sp w0 (rest) wx:=H
    have hK:Hid (∀(v:Value) (w' : World),v=.slice dv.w p.W.length dv.wc->Sp w0 (rest) w'->K (A.put (some 44) v) w'):=Lib.hid hK0
    clear hK0 hF hS
    have c:=(hE _ HBX.out _ _ H).c2
    clear hE
    change Oper.wp _ _ A wx K _
    go_step
    exact hK.out _ _ rfl (H)
   case p22 =>
    intro x wx A rest hDf hF hS hE H K hK0
    replace hDf:=Lib.hid hDf
    have e47:A.tmps[47]?.getD undef=.pointer (some ⟨g,4,none⟩):=((hS 21 (by decide)).2 47 rfl).trans (hS 21 (by decide)).1
    replace H:Sp w0 (rest) wx:=H
    have hK:Hid (∀(v:Value) (w' : World),v=.agg #[.slice dv.a p.A.length dv.ac,.slice dv.d p.D.length dv.dc]->Sp w0 (rest) w'->K (A.put (some 48) v) w'):=Lib.hid hK0
    clear hK0 hF hS
    have c4:=(hE _ HBX.out _ _ H).c4
    have c5:=(hE _ HBX.out _ _ H).c5
    clear hE
    change Oper.wp _ _ A wx K _
    go_step
    exact hK.out _ _ rfl (H)
   case p23 =>
    intro x wx A rest hDf hF hS hE H K hK0
    replace hDf:=Lib.hid hDf
    have e44:A.tmps[44]?.getD undef=.slice dv.w p.W.length dv.wc:=((hS 18 (by decide)).2 44 rfl).trans (hS 18 (by decide)).1
    have e48:A.tmps[48]?.getD undef=.agg #[.slice dv.a p.A.length dv.ac,.slice dv.d p.D.length dv.dc]:=((hS 22 (by decide)).2 48 rfl).trans (hS 22 (by decide)).1
    replace H:Sp w0 (rest) wx:=H
    have hK:Hid (∀(v:Value) (w' : World),v=.int .i64 (cW:Int)->Sp w0 (rest) w'->K (A.put (some 49) v) w'):=Lib.hid hK0
    clear hK0 hF hS
    have hbr:=Lib.hid (hE _ HBX.out)
    have HZ:=Lib.hid H
    clear hE H
    change Oper.wp _ _ A wx K _
    go_wp2_with fail
    refine(dcost_ok dv.w dv.a dv.d p.W.length dv.wc p.A.length dv.ac p.D.length dv.dc p.W p.A p.D HZ.out (fun w0 w h=>(hbr.out w0 w h).w) (fun w0 w h=>(hbr.out w0 w h).a) (fun w0 w h=>(hbr.out w0 w h).d) rfl rfl rfl hWl HA.out HD.out HOKW.out).mono ?_
    rw [HCW.out]
    rintro _ w9 ⟨rfl,H9⟩
    exact hK.out _ _ rfl H9
  case hend =>
   intro x wx A hA hS H
   replace H:Sp w0 (Bk g4 43 [.int .i64 0,.int .i64 0,.int .i64 0]::L) wx:=H
   have y25:x 25=.int .i64 (es4:Int):=hS 25 (by decide)
   clear hS
   simp only [putAll,Act.put,List.setIfInBounds_toArray,List.set_cons_succ,List.set_cons_zero,Nat.reduceAdd] at hA
   subst hA
   rw [y25]
   have HY:=Lib.hid H
   clear H HX
   go_wp2_with fail
   refine wp_region_sc (L:=L) [some (.int .i64 (-1)),some (.pointer (some ⟨g,0,none⟩)),some (.pointer (some ⟨g,0,none⟩)),some (.pointer (some ⟨g,2,none⟩)),some (.slice dv.w p.W.length dv.wc),none,some (.int .i64 (cX:Int)),some (.int .i64 (es5:Int)),some (.int .i64 (es4:Int)),some (.agg #[.int .i64 (-1),.int .i64 (es5:Int),.int .i64 (es4:Int)]),some (undef)] (fun ix vx=>match ix with | 5=>(fun vv=>vv=.agg #[agF vv 0,agF vv 1]) vx | _=>True) (fun ix vx=>match ix with | 5=>(fun vv=>[Row 3 1 (agF vv 0) 288 (cellsN PI.fixedL),Row 3 1 (agF vv 1) 32 (cellsN PI.fixedD)]) vx | 10=>(fun _=>[Bk g4 43 [.int .i64 (-1),.int .i64 (es5:Int),.int .i64 (es4:Int)]]) vx | _=>[]) (fun ix=>match ix with | 10=>[Bk g4 43 [.int .i64 0,.int .i64 0,.int .i64 0]] | _=>[]) 11 61
    [some 51,some 52,some 53,some 54,some 55,some 56,some 57,some 58,some 59,some 60,none]
    [[],[],[1],[2],[3],[],[4,5,5],[6],[],[0,7,8],[9,6,0,1,2,3,4,5,6,7,8,9]]
    [[],[],[1],[1,2],[1,2,3],[],[1,2,3,4,5],[1,2,3,4,5,6],[],[0,1,2,3,4,5,6,7,8],[0,1,2,3,4,5,6,7,8,9]]
    [[],[],[],[],[],[],[5],[],[],[],[]] [[],[],[],[],[],[],[],[],[],[],[]] [(0,.pointer (some ⟨g,0,none⟩)),(4,.pointer (some ⟨g4,0,none⟩)),(5,.int .i64 (-1)),(6,.int .i64 (es4:Int))]
    (by kernel_rfl) rfl (by decide) (by rfl) (by decide +kernel) rfl rfl (by simp) (HY.out) ?hstep ?hend
   case hstep =>
    refine⟨?p0,⟨?p1,⟨?p2,⟨?p3,⟨?p4,⟨?p5,⟨?p6,⟨?p7,⟨?p8,⟨?p9,⟨?p10,trivial⟩⟩⟩⟩⟩⟩⟩⟩⟩⟩⟩
    case p0 | p1 | p2 | p3 | p7 | p8 | p9 =>
     intro x wx A rest hDf hF hS hE H K hK
     replace hK:=Lib.hid hK
     clear hS hE hDf
     repeat (obtain⟨_,hF⟩:=hF)
     change Oper.wp _ _ A wx K _
     go_step
     exact hK.out _ _ rfl H
    case p4 =>
     intro x wx A rest hDf hF hS hE H K hK0
     replace hDf:=Lib.hid hDf
     have e54:A.tmps[54]?.getD undef=.pointer (some ⟨g,2,none⟩):=((hS 3 (by decide)).2 54 rfl).trans (hS 3 (by decide)).1
     replace H:Sp w0 (rest) wx:=H
     have hK:Hid (∀(v:Value) (w' : World),v=.slice dv.w p.W.length dv.wc->Sp w0 (rest) w'->K (A.put (some 55) v) w'):=Lib.hid hK0
     clear hK0 hF hS
     have c:=(hE _ HB.out _ _ H).c2
     clear hE
     change Oper.wp _ _ A wx K _
     go_step
     exact hK.out _ _ rfl (H)
    case p5 =>
     intro x wx A rest hDf hF hS hE H K hK0
     replace hDf:=Lib.hid hDf
     replace H:Sp w0 (rest) wx:=H
     have hK:Hid (∀(v:Value) (w' : World),v=.agg #[agF v 0,agF v 1]->Sp w0 ((Row 3 1 (agF v 0) 288 (cellsN PI.fixedL))::(Row 3 1 (agF v 1) 32 (cellsN PI.fixedD))::rest) w'->K (A.put (some 56) v) w'):=Lib.hid hK0
     clear hK0 hF hS hE
     change Oper.wp _ _ A wx K _
     go_wp2_with fail
     refine(dfixed_ok H).mono ?_
     rintro _ w9 ⟨v0,v1,rfl,H9⟩
     exact hK.out _ _ rfl H9
    case p6 =>
     intro x wx A rest hDf hF hS hE H K hK0
     replace hDf:=Lib.hid hDf
     have e55:A.tmps[55]?.getD undef=.slice dv.w p.W.length dv.wc:=((hS 4 (by decide)).2 55 rfl).trans (hS 4 (by decide)).1
     have q56:(x 5)=.agg #[agF (x 5) 0,agF (x 5) 1]:=(hS 5 (by decide)).1
     have e56:A.tmps[56]?.getD undef=x 5:=(hS 5 (by decide)).2 56 rfl
     replace H:Sp w0 ((Row 3 1 (agF (x 5) 0) 288 (cellsN PI.fixedL))::(Row 3 1 (agF (x 5) 1) 32 (cellsN PI.fixedD))::rest) wx:=H
     have hK:Hid (∀(v:Value) (w' : World),v=.int .i64 (cX:Int)->Sp w0 (rest) w'->K (A.put (some 57) v) w'):=Lib.hid hK0
     clear hK0 hF hS
     obtain⟨r0,hr0⟩:∃r,agF (x 5) 0=r:=⟨_,rfl⟩
     obtain⟨r1,hr1⟩:∃r,agF (x 5) 1=r:=⟨_,rfl⟩
     rw [hr0,hr1] at q56 H
     rw [q56] at e56
     clear hr0 hr1 q56
     obtain⟨A0,c0,rfl,_,_⟩:=Row.form H 0 rfl
     obtain⟨A1,c1,rfl,_,_⟩:=Row.form H 1 rfl
     have hbr:=Lib.hid (hE _ HB.out)
     have HZ:=Lib.hid H
     clear hE H
     change Oper.wp _ _ A wx K _
     go_wp2_with fail
     refine(dcost_ok dv.w A0 A1 p.W.length dv.wc 288 c0 32 c1 p.W PI.fixedL PI.fixedD HZ.out (fun w0 w h=>(hbr.out w0 w (h.pick 2 [])).w) (fun w0 w h=>rowRd h 0 rfl) (fun w0 w h=>rowRd h 1 rfl) rfl dfixedL_len.symm rfl hWl fl15 fd15 HOKX.out).mono ?_
     rw [HCX.out]
     rintro _ w9 ⟨rfl,H9⟩
     exact hK.out _ _ rfl H9.tail2
    case p10 =>
     intro x wx A rest hDf hF hS hE H K hK0
     replace hDf:=Lib.hid hDf
     have e4:A.tmps[4]?.getD undef=.pointer (some ⟨g4,0,none⟩):=factsE_get hF (4,.pointer (some ⟨g4,0,none⟩)) (by simp) (by rfl)
     have e60:A.tmps[60]?.getD undef=.agg #[.int .i64 (-1),.int .i64 (es5:Int),.int .i64 (es4:Int)]:=((hS 9 (by decide)).2 60 rfl).trans (hS 9 (by decide)).1
     replace H:Sp w0 ((Bk g4 43 [.int .i64 0,.int .i64 0,.int .i64 0])::rest) wx:=H
     have hK:Hid (∀(v:Value) (w' : World),v=undef->Sp w0 ((Bk g4 43 [.int .i64 (-1),.int .i64 (es5:Int),.int .i64 (es4:Int)])::rest) w'->K (A.put none v) w'):=Lib.hid hK0
     clear hK0 hF hS hE
     have t0:=H.cell 0 rfl 0
     have t1:=H.cell 0 rfl 1
     have t2:=H.cell 0 rfl 2
     have z0:=H.frozen 0 rfl 0
     have z1:=H.frozen 0 rfl 1
     have z2:=H.frozen 0 rfl 2
     change Oper.wp _ _ A wx K _
     go_step
     exact hK.out _ _ rfl (((H.set 0 (.int .i64 (-1))).set 1 (.int .i64 (es5:Int))).set 2 (.int .i64 (es4:Int)))
   case hend =>
    intro x wx A hA hS H
    replace H:Sp w0 ((Bk g4 43 [.int .i64 (-1),.int .i64 (es5:Int),.int .i64 (es4:Int)])::L) wx:=H
    clear hS
    simp only [putAll,Act.put,List.setIfInBounds_toArray,List.set_cons_succ,List.set_cons_zero,Nat.reduceAdd] at hA
    subst hA
    have HQ:=Lib.hid H
    clear H HY
    go_wp2
    have t0:=HQ.out.cell 0 rfl 0
    have t1:=HQ.out.cell 0 rfl 1
    have t2:=HQ.out.cell 0 rfl 2
    simp only [List.getElem?_cons_zero,List.getElem?_cons_succ] at t0 t1 t2
    exact bodyPost_ret (v:=.agg #[.int .i64 (-1),.int .i64 (es5:Int),.int .i64 (es4:Int)]) (by simp [results,go_sem,t0,t1,t2]) rfl ⟨rfl,HQ.out.tail⟩
def BP.dyn (p:BP):List Bool:=PBits.bitsOf (p.A.length - 257) 5++(PBits.bitsOf (p.D.length - 1) 5++(PBits.bitsOf (PD.told p.F - 4) 4++(PI.firstsW p.F (PI.orderT.take (PD.told p.F))++PD.layW p.F [] p.R)))++PD.layW p.A p.D p.W
def BP.lay (p:BP) (k a:Nat):List Bool:=[p.last]++PBits.bitsOf k 2++(if k=0 then List.replicate (PD.pad (a+3)) false++PI.storedW p.b else if k=1 then PD.layW PI.fixedL PI.fixedD p.W else p.dyn)
def BP.fixN (p:BP):Nat:=3+PD.costW PI.fixedL PI.fixedD p.W
def BP.dynN (p:BP):Nat:=17+3 * PD.told p.F+PD.costW p.F [] p.R+PD.costW p.A p.D p.W
def BP.kind (p:BP) (a:Nat):Nat:=PD.pick (PD.sto p.b.length a) p.fixN p.dynN
structure BP.Ok (p:BP):Prop where
 hA1:257<=p.A.length
 hA2:p.A.length<=286
 hD1:1<=p.D.length
 hD2:p.D.length<=30
 hA:∀x ∈ p.A,x<=15
 hD:∀x ∈ p.D,x<=15
 hAs:PH.sum p.A<=32768
 hDs:PH.sum p.D<=32768
 hF:p.F.length=19
 hF7:∀x ∈ p.F,x<=7
 hFs:PH.sum p.F<=32768
 hokR:∀t ∈ p.R,PD.WdOk p.F [] t
 hokW:∀t ∈ p.W,PD.WdOk p.A p.D t
 hokX:∀t ∈ p.W,PD.WdOk PI.fixedL PI.fixedD t
 hRl:p.R.length<=1000
 hWl:p.W.length<=2000000
 hbl:p.b.length<=100000000
def two (s:Int) (f:Nat):Nat:=if 0<=s/\s<=(f:Int) then 0 else 1
theorem pick_two (s:Int) (f d:Nat):PD.pick s f d=if (d:Int)<(if two s f=0 then s else (f:Int)) then 2 else two s f:=by
 by_cases h0:0<=s
 ·by_cases h1:(f:Int)<s
  ·have e:two s f=1:=by unfold two; rw [if_neg (by omega)]
   unfold PD.pick
   rw [e,if_pos h0,if_pos h1,if_neg (by decide:¬ (1:Nat)=0)]
   by_cases h2:d<f
   ·rw [if_pos h2,if_pos (by omega)]
   ·rw [if_neg h2,if_neg (by omega)]
  ·have e:two s f=0:=by unfold two; rw [if_pos (by omega)]
   unfold PD.pick
   rw [e,if_pos h0,if_neg h1,if_pos rfl]
 ·have e:two s f=1:=by unfold two; rw [if_neg (by omega)]
  unfold PD.pick
  rw [e,if_neg h0,if_neg (by decide:¬ (1:Nat)=0)]
  by_cases h2:d<f
  ·rw [if_pos h2,if_pos (by omega)]
  ·rw [if_neg h2,if_neg (by omega)]
set_option maxRecDepth 100000 in
set_option maxHeartbeats 8000000 in
theorem dput_ok (g gw:Nat) (dv:DV) (p:BP) (B:List Bool) {TL TF:Option Addr} {cl cf:Nat} {w0 w:World} {L:List Pr} (H:Sp w0 (WB gw B::L) w) (hb:Ent L (DBr g dv p)) (hT:Ent L (DTabs TL TF cl cf)) (hok:p.Ok) (hB:B.length<=800000000) :
  Calls Tryd.prog 54 #[.pointer (some ⟨g,0,none⟩),.pointer (some ⟨gw,0,none⟩)] w fun e w'=>e=.returned (.tuple #[])/\Sp w0 (WB gw (B++p.lay (p.kind B.length) B.length)::L) w':=by
 have hmf:∀(fn:Fn) (first cap:Array Value) (w:World),(Instr.makeFunc fn first cap).run Tryd.prog w=.ok (.func fn first cap) w:=fun _ _ _ _=>rfl
 have hi0:∀(a b c:Value) (w:World),(Instr.index 43 (.agg #[a,b,c]) (.int .i64 0)).run Tryd.prog w=.ok a w:=fun _ _ _ _=>rfl
 have hi1:∀(a b c:Value) (w:World),(Instr.index 43 (.agg #[a,b,c]) (.int .i64 1)).run Tryd.prog w=.ok b w:=fun _ _ _ _=>rfl
 have hi2:∀(a b c:Value) (w:World),(Instr.index 43 (.agg #[a,b,c]) (.int .i64 2)).run Tryd.prog w=.ok c w:=fun _ _ _ _=>rfl
 obtain⟨s,hs⟩:∃s,PD.sto p.b.length B.length=s:=⟨_,rfl⟩
 obtain⟨f,hf⟩:∃f,p.fixN=f:=⟨_,rfl⟩
 obtain⟨d,hd⟩:∃d,p.dynN=d:=⟨_,rfl⟩
 have HB:=Lib.hid hb
 have HT:=Lib.hid hT
 have HOK:=Lib.hid hok
 have HSZ:Hid (∀(L2:List Pr) (w2:World),Sp w0 (L2++L) w2->(∀φ,Ent L φ->Ent (L2++L) φ)->Calls Tryd.prog 83 #[.pointer (some ⟨g,0,none⟩),.int .i64 (B.length:Int)] w2 fun e w'=>e=.returned (.agg #[.int .i64 s,.int .i64 (f:Int),.int .i64 (d:Int)])/\Sp w0 (L2++L) w'):=Lib.hid fun L2 w2 H2 hE=>by
  have h:=dsizes_ok g B.length dv p H2 (hE _ hb) (hE _ hT) hok.hbl hok.hA hok.hD hok.hF hok.hF7 hok.hokR hok.hokW hok.hokX hok.hRl hok.hWl (by omega)
  rw [hs,show(3+PD.costW PI.fixedL PI.fixedD p.W:Nat)=f from hf,show(17+3 * PD.told p.F+PD.costW p.F [] p.R+PD.costW p.A p.D p.W:Nat)=d from hd] at h
  exact h
 have HSTO:Hid (PD.pick s f d=0->p.b.length<=65535):=Lib.hid fun h=>by
  have h2:=PD.pick_sto h
  rw [<- hs] at h2
  unfold PD.sto at h2
  split at h2
  ·assumption
  ·omega
 have hkind:p.kind B.length=PD.pick s f d:=by unfold BP.kind; rw [hs,hf,hd]
 rw [hkind]
 have HX:=Lib.hid H
 clear hb hT hok H hs hf hd hkind
 go_enter Tryd.func54,Tryd.ntmps54
 go_wp2_with (refine wpList_store_whole rfl 169 _ _ rfl w.heap.size 169 _ [.func (.func 80) #[.pointer (some ⟨g,0,none⟩)] #[],.func (.func 81) #[.pointer (some ⟨g,0,none⟩)] #[],.func (.func 82) #[.pointer (some ⟨g,0,none⟩)] #[]] rfl rfl (HX.out.newBk _ _) rfl Tryd.sizeOf169 (by intro u hu; simp only [List.mem_cons,List.not_mem_nil,or_false] at hu; rcases hu with rfl | rfl | rfl <;> rfl) ?_)
 intro w1 H1
 have HX1:=Lib.hid (H1.pick 2 [1,0])
 clear H1 HX
 generalize w.heap.size=g4 at HX1 ⊢
 go_wp2_with fail
 refine(wb_len gw B HX1.out (by omega)).mono ?_
 rintro _ w2 ⟨rfl,H2⟩
 clear HX1
 have HSZ2:=Lib.hid (HSZ.out [WB gw B,Bk g4 169 [.func (.func 80) #[.pointer (some ⟨g,0,none⟩)] #[],.func (.func 81) #[.pointer (some ⟨g,0,none⟩)] #[],.func (.func 82) #[.pointer (some ⟨g,0,none⟩)] #[]]] w2 H2 (fun φ hφ w0 w h=>hφ _ _ (h.pick 2 [])))
 clear HSZ H2
 go_wp2_with fail
 refine HSZ2.out.mono ?_
 rintro _ w3 ⟨rfl,H3⟩
 clear HSZ2
 have HX3:=Lib.hid (Sp.newBk (L:=WB gw B::Bk g4 169 [.func (.func 80) #[.pointer (some ⟨g,0,none⟩)] #[],.func (.func 81) #[.pointer (some ⟨g,0,none⟩)] #[],.func (.func 82) #[.pointer (some ⟨g,0,none⟩)] #[]]::L) H3 [.int .i64 s,.int .i64 (f:Int),.int .i64 (d:Int)] 43)
 have t0:=HX3.out.cell 0 rfl 0
 have t1:=HX3.out.cell 0 rfl 1
 have t2:=HX3.out.cell 0 rfl 2
 simp only [List.getElem?_cons_zero,List.getElem?_cons_succ] at t0 t1 t2
 clear H3
 go_wp2_with fail
 generalize w3.heap.size=g6 at HX3 t0 t1 t2 ⊢
 clear t0 t1 t2
 go_loopw [5,21] (fun bv kv wr=>((kv=.int .i64 0/\bv=.int .i64 (-1))∨(kv=.int .i64 1/\bv=.int .i64 (if 0<=s then 0 else -1))∨(kv=.int .i64 2/\bv=.int .i64 (two s f:Nat))∨(kv=.int .i64 3/\bv=.int .i64 (PD.pick s f d:Nat)))/\Sp w0 (Bk g6 43 [.int .i64 s,.int .i64 (f:Int),.int .i64 (d:Int)]::WB gw B::Bk g4 169 [.func (.func 80) #[.pointer (some ⟨g,0,none⟩)] #[],.func (.func 81) #[.pointer (some ⟨g,0,none⟩)] #[],.func (.func 82) #[.pointer (some ⟨g,0,none⟩)] #[]]::L) wr) (fun _ kv _=>3 - (intOf kv).toNat)
 case atStart=>exact⟨.inl ⟨rfl,rfl⟩,HX3.out⟩
 case round =>
  obtain⟨hst,H4⟩:=hrel
  clear HX3
  have HY:=Lib.hid H4
  have t0:=H4.cell 0 rfl 0
  have t1:=H4.cell 0 rfl 1
  have t2:=H4.cell 0 rfl 2
  simp only [List.getElem?_cons_zero,List.getElem?_cons_succ] at t0 t1 t2
  clear H4
  rcases hst with ⟨rfl,rfl⟩ | ⟨rfl,rfl⟩ | ⟨rfl,rfl⟩ | ⟨rfl,rfl⟩
  ·by_cases h0:0<=s
   ·have k0:s≥0:=h0
    go_wp2_with fail
    go_roundw
    case rel=>exact⟨.inr (.inl ⟨by go_num,by rw [if_pos h0]⟩),HY.out⟩
    case measure=>first | (simp [intOf]; omega) | simp [intOf]
   ·have k0:¬ s≥0:=h0
    go_wp2_with fail
    go_roundw
    case rel=>exact⟨.inr (.inl ⟨by go_num,by rw [if_neg h0]⟩),HY.out⟩
    case measure=>first | (simp [intOf]; omega) | simp [intOf]
  ·have kf:(f:Int)≥0:=by omega
   by_cases h0:0<=s
   ·rw [if_pos h0]
    by_cases h1:(f:Int)<s
    ·have e:two s f=1:=by unfold two; rw [if_neg (by omega)]
     go_wp2_with fail
     go_roundw
     case rel=>exact⟨.inr (.inr (.inl ⟨by go_num,by rw [e]; first | done | rfl⟩)),HY.out⟩
     case measure=>first | (simp [intOf]; omega) | simp [intOf]
    ·have e:two s f=0:=by unfold two; rw [if_pos (by omega)]
     go_wp2_with fail
     go_roundw
     case rel=>exact⟨.inr (.inr (.inl ⟨by go_num,by rw [e]; first | done | rfl⟩)),HY.out⟩
     case measure=>first | (simp [intOf]; omega) | simp [intOf]
   ·rw [if_neg h0]
    have e:two s f=1:=by unfold two; rw [if_neg (by omega)]
    go_wp2_with fail
    go_roundw
    case rel=>exact⟨.inr (.inr (.inl ⟨by go_num,by rw [e]; first | done | rfl⟩)),HY.out⟩
    case measure=>first | (simp [intOf]; omega) | simp [intOf]
  ·have kd:(d:Int)≥0:=by omega
   have hp:=pick_two s f d
   have h01:two s f=0∨two s f=1:=by unfold two; split <;> simp
   rcases h01 with e | e
   ·rw [e] at hp ⊢
    rw [if_pos rfl] at hp
    by_cases h1:(d:Int)<s
    ·rw [if_pos h1] at hp
     go_wp2_with fail
     go_roundw
     case rel=>exact⟨.inr (.inr (.inr ⟨by go_num,by rw [hp]; first | done | rfl⟩)),HY.out⟩
     case measure=>first | (simp [intOf]; omega) | simp [intOf]
    ·rw [if_neg h1] at hp
     go_wp2_with fail
     go_roundw
     case rel=>exact⟨.inr (.inr (.inr ⟨by go_num,by rw [hp]; first | done | rfl⟩)),HY.out⟩
     case measure=>first | (simp [intOf]; omega) | simp [intOf]
   ·rw [e] at hp ⊢
    rw [if_neg (by decide:¬ (1:Nat)=0)] at hp
    by_cases h1:(d:Int)<(f:Int)
    ·rw [if_pos h1] at hp
     have h2:d<f:=by omega
     go_wp2_with fail
     go_roundw
     case rel=>exact⟨.inr (.inr (.inr ⟨by go_num,by rw [hp]; first | done | rfl⟩)),HY.out⟩
     case measure=>first | (simp [intOf]; omega) | simp [intOf]
    ·rw [if_neg h1] at hp
     have h2:¬ d<f:=by omega
     go_wp2_with fail
     go_roundw
     case rel=>exact⟨.inr (.inr (.inr ⟨by go_num,by rw [hp]; first | done | rfl⟩)),HY.out⟩
     case measure=>first | (simp [intOf]; omega) | simp [intOf]
  ·have h9:PD.pick s f d=0∨PD.pick s f d=1∨PD.pick s f d=2:=by have:=PD.pick_lt s f d; omega
   have u0:=HY.out.cell 2 rfl 0
   have u1:=HY.out.cell 2 rfl 1
   have u2:=HY.out.cell 2 rfl 2
   simp only [List.getElem?_cons_zero,List.getElem?_cons_succ] at u0 u1 u2
   have hz:Sp w0 (WB gw B::Bk g4 169 [.func (.func 80) #[.pointer (some ⟨g,0,none⟩)] #[],.func (.func 81) #[.pointer (some ⟨g,0,none⟩)] #[],.func (.func 82) #[.pointer (some ⟨g,0,none⟩)] #[]]::L) wr:=HY.out.pick 3 [1,2]
   have HZ:=Lib.hid hz
   clear hz
   clear HY t0 t1 t2
   rcases h9 with e | e | e
   ·rw [e]
    have h:=dstored_ok g gw dv p B HZ.out (fun w0 w h=>HB.out w0 w (h.pick 1 [])) (HSTO.out e) hB
    have HC:=Lib.hid h
    clear h
    go_wp2_with fail
    refine HC.out.mono ?_
    rintro _ w5 ⟨rfl,H5⟩
    go_wp2
    go_end0
    refine⟨rfl,?_⟩
    have h:Sp w0 (WB gw _::L) w5:=H5.pick 2 [0]
    unfold BP.lay
    rw [e,if_pos rfl]
    exact h
   ·rw [e]
    have h:=dfixedB_ok g gw dv p B HZ.out (fun w0 w h=>HB.out w0 w (h.pick 1 [])) HOK.out.hokX HOK.out.hWl hB
    have HC:=Lib.hid h
    clear h
    go_wp2_with fail
    refine HC.out.mono ?_
    rintro _ w5 ⟨rfl,H5⟩
    go_wp2
    go_end0
    refine⟨rfl,?_⟩
    have h:Sp w0 (WB gw _::L) w5:=H5.pick 2 [0]
    unfold BP.lay
    rw [e,if_neg (by decide),if_pos rfl]
    exact h
   ·rw [e]
    have h:=ddyn_ok g gw dv p B HZ.out (fun w0 w h=>HB.out w0 w (h.pick 1 [])) (fun w0 w h=>HT.out w0 w (h.pick 1 [])) HOK.out.hA1 HOK.out.hA2 HOK.out.hD1 HOK.out.hD2 HOK.out.hA HOK.out.hD HOK.out.hAs HOK.out.hDs HOK.out.hF HOK.out.hF7 HOK.out.hFs HOK.out.hokR HOK.out.hokW HOK.out.hRl HOK.out.hWl hB
    have HC:=Lib.hid h
    clear h
    go_wp2_with fail
    refine HC.out.mono ?_
    rintro _ w5 ⟨rfl,H5⟩
    go_wp2
    go_end0
    refine⟨rfl,?_⟩
    have h:Sp w0 (WB gw _::L) w5:=H5.pick 2 [0]
    unfold BP.lay
    rw [e,if_neg (by decide),if_neg (by decide)]
    exact h
namespace PD
theorem tells_each {m:List Nat} : ∀(l:List (Nat × Nat)) (acc:List Nat),PI.TellsOk m acc l->∀t ∈ l,PI.Has m t.1/\t.2<2 ^ PI.tellB t.1:=by
 intro l
 induction l with
 | nil=>intro acc _ t ht; cases ht
 | cons u l ih =>
  intro acc h t ht
  rcases List.mem_cons.1 ht with rfl | ht
  ·exact⟨h.1.1,h.1.2.1⟩
  ·exact ih _ h.2 t ht
theorem tellB_13 (s:Nat):PI.tellB s<=13:=by unfold PI.tellB; split <;> (try split) <;> (try split) <;> omega
theorem rowY_len (Y:List PM.St):(rowY Y).length<=316:=by
 have h:=rl_len (lenA Y++lenB Y).length 0 (lenA Y++lenB Y)
 have h2:(lenA Y++lenB Y).length<=316:=by
  have h3:=(lenA_ok Y).2.2.1
  have h4:=(lenB_ok Y).2.2.1
  rw [List.length_append]; omega
 exact Nat.le_trans h h2
theorem firstsW_len (F l:List Nat):(PI.firstsW F l).length=3 * l.length:=by
 induction l with
 | nil=>rfl
 | cons s l ih =>
  show(PBits.bitsOf _ 3++PI.firstsW F l).length=_
  rw [List.length_append,PBits.bitsOf_length,ih,List.length_cons]; omega
end PD
theorem bp_ok (Y:List PM.St) (b:List UInt8) (last:Bool) (n:Nat) (hY:PM.mays Y n) (hl:Y.length<=100000) (hb:b.length<=100000000):(BP.of Y b last).Ok:=by
 obtain⟨a1,a2,a3,a4,a5⟩:=PD.lenA_ok Y
 obtain⟨b1,b2,b3,b4,b5⟩:=PD.lenB_ok Y
 obtain⟨c1,c2,c3,c4⟩:=PD.fst7_ok Y
 have hr:=PD.row_ok Y
 have hrl:=PD.rowY_len Y
 have hwl:=PD.words_len Y
 have hW:=PD.words_ok hY a5 b5
 have hX:=PD.words_ok (A:=PI.fixedL) (B:=PI.fixedD) hY (fun s _ hs=>PI.fixed_has s (by omega)) (fun s _ hs=>PI.fixed_hasD s (by omega))
 unfold BP.of
 generalize PD.lenA Y=A at *
 generalize PD.lenB Y=D at *
 generalize PD.fst7 Y=F at *
 generalize PD.rowY Y=R at *
 refine⟨a2,a3,b2,b3,a4,b4,PI.book_sum a1,PI.book_sum b1,c2,c3,PI.book_sum c1,?_,hW,hX,by simpa using Nat.le_trans hrl (by decide),by show(PD.words Y).length<=_; omega,hb⟩
 intro t ht
 obtain⟨q,hq,rfl⟩:=List.mem_map.1 ht
 obtain⟨h1,h2⟩:=PD.tells_each R [] hr.2 q hq
 exact⟨by show 0<2; decide,h1,h2,PD.tellB_13 _⟩
theorem bp_dyn (Y:List PM.St) (b:List UInt8) (last:Bool):(BP.of Y b last).dyn=PD.dynW Y:=by
 unfold BP.dyn BP.of PD.dynW PI.headW
 simp only
 rw [PD.lay_words,PD.lay_row]
theorem bp_lay (Y:List PM.St) (b:List UInt8) (last:Bool) (k a:Nat):(BP.of Y b last).lay k a=PD.layD k Y b last a:=by
 unfold BP.lay PD.layD PD.bodyD
 rw [bp_dyn]
 show [last]++PBits.bitsOf k 2++(if k=0 then _ else if k=1 then PD.layW PI.fixedL PI.fixedD (PD.words Y) else _)=_
 rw [PD.lay_words]
 rfl
theorem bp_kind (Y:List PM.St) (b:List UInt8) (last:Bool) (a:Nat):(BP.of Y b last).kind a=PD.kind Y b a:=by
 have h1:(BP.of Y b last).fixN=PD.fixN Y:=by
  show 3+PD.costW PI.fixedL PI.fixedD (PD.words Y)=3+(PD.fixW Y).length
  rw [<- PD.layW_len,PD.lay_words]; rfl
 have h2:(BP.of Y b last).dynN=PD.dynN Y:=by
  have ht:=(PD.told_ok (PD.fst7 Y)).2
  unfold BP.dynN BP.of PD.dynN PD.dynW PI.headW
  simp only
  rw [<- PD.layW_len,<- PD.layW_len,PD.lay_words,PD.lay_row]
  have ho:PI.orderT.length=19:=rfl
  generalize PD.told (PD.fst7 Y)=m at ht ⊢
  generalize PD.fst7 Y=F
  generalize PD.rowY Y=R
  generalize PD.lenA Y=A
  generalize PD.lenB Y=D
  simp only [List.length_append,PBits.bitsOf_length,PD.firstsW_len,List.length_take,ho]
  omega
 unfold BP.kind PD.kind
 rw [h1,h2]
 rfl
end Go.Proofs.YtloijdbkikccgaaDoor

