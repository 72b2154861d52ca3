/- A pack. -/
import Derived.Test.YteajimobgkempaaGreatDoorPk36
set_option linter.all false
set_option maxRecDepth 100000
set_option maxHeartbeats 8000000
namespace Go.Proofs.YteajimobgkempaaGreatDoor
variable {w0 w:World} {L:List Pr}
open Go.RowKit
theorem VX (g a:Nat) (dv:DV) (p:BP) {TL TF:Option Addr} {cl cf:Nat} (H:Sp w0 L w) (hb:Ent L (DBr g dv p)) (hT:Ent L (DTabs TL TF cl cf)) (hbl:p.b.length<=100000000)
  (hA:∀x ∈ p.A,x<=15) (hD:∀x ∈ p.D,x<=15) (hF:p.F.length=19) (hF7:∀x ∈ p.F,x<=7)
  (hokR:∀t ∈ p.R,PD.WdOk p.F [] t) (hokW:∀t ∈ p.W,PD.WdOk p.A p.D t) (hokX:∀t ∈ p.W,PD.WdOk PI.fixedL PI.fixedD t) (hRl:p.R.length<=1000) (hWl:p.W.length<=2000000) (ha:a<=900000000) :
  Calls Tryz.prog 28 #[.pointer (some ⟨g,0,none⟩),.int .i64 a] w fun e w'=>e=.returned (.agg #[.int .i64 (PD.sto p.b.length a),.int .i64 ((3+PD.costW PI.fixedL PI.fixedD p.W:Nat):Int),.int .i64 ((17+3 * PD.told p.F+PD.costW p.F [] p.R+PD.costW p.A p.D p.W:Nat):Int)])/\Sp w0 L w':=by
 obtain⟨S,f⟩:=exq (PD.sto p.b.length a);obtain⟨n,hn⟩:=exq p.b.length;obtain⟨td,E⟩:=exq (PD.told p.F);obtain⟨cR,F⟩:=exq (PD.costW p.F [] p.R);obtain⟨cW,G⟩:=exq (PD.costW p.A p.D p.W);obtain⟨cX,I⟩:=exq (PD.costW PI.fixedL PI.fixedD p.W);have c8:td<=19:=by rw [<- E]; exact(PD.told_ok p.F).2
 have l1:cR<=28 * 1000:=by
  have h:=ZP (A:=p.F) (D:=[]) (fun x hx=>by have:=hF7 x hx; omega) (fun x hx=>by cases hx) p.R hokR;rw [PD.layW_len,F] at h; omega
 have l2:cW<=28 * 2000000:=by
  have h:=ZP hA hD p.W hokW;rw [PD.layW_len,G] at h; omega
 have l3:cX<=28 * 2000000:=by
  have h:=ZP fl15 fd15 p.W hokX;rw [PD.layW_len,I] at h; omega
 rw [f,E,F,G,I];rw [hn] at hbl;have Y:=hid hb;have HT:=hid hT;have HN:=hid hn;have HA:=hid hA;have HD:=hid hD;have HF:=hid hF;have a5:=hid hF7;have P:=hid hokR;have Q:=hid hokW;have R:=hid hokX;have a6:=hid E;have a7:=hid F;have a8:=hid G;have a9:=hid I;have H1:=H.newBk [.int .i64 0,.int .i64 0,.int .i64 0] 34;have c1:=(Y.out _ _ H1.tail).c1;rw [hn] at c1;have HX:=hid H1;obtain⟨z,T⟩:=exq (3 * td);obtain⟨u,U⟩:=exq (17+z);obtain⟨y,V⟩:=exq (u+cR);obtain⟨es4,W⟩:=exq (y+cW);obtain⟨o,X⟩:=exq (3+cX);rw [T,U,V,W,X];have i1:3 * (td:Int)=(z:Int):=by omega
 have i2:17+(z:Int)=(u:Int):=by omega
 have i3:(u:Int)+(cR:Int)=(y:Int):=by omega
 have i4:(y:Int)+(cW:Int)=(es4:Int):=by omega
 have i5:3+(cX:Int)=(o:Int):=by omega
 have b1:es4<=1000000000/\y<=1000000000/\u<=1000000000/\o<=1000000000:=by omega
 obtain⟨b1,b2,b3,b4⟩:=b1;clear hb hT hA hD hF hF7 hokR hokW hokX E F G I H H1 hn T U V W X l1 l2 l3;by_cases h6:n<=65535
 ·obtain⟨a3,b0⟩:=exq (a+3);obtain⟨pd,J⟩:=exq (PD.pad a3);have e1:pd<=7:=by rw [<- J]; unfold PD.pad; omega
  obtain⟨f1,c2⟩:=exq (3+pd);obtain⟨f2,c3⟩:=exq (f1+32);obtain⟨f3,c6⟩:=exq (8 * n);obtain⟨M,c7⟩:=exq (f2+f3);have Z:S=(M:Int):=by
   rw [<- f,<- c7,<- c3,<- c2,<- c6,<- J,<- b0];unfold PD.sto;rw [HN.out,if_pos h6]
  subst Z;have j0:(a:Int)+3=(a3:Int):=by omega
  have j1:bits .and .i64 (-(a3:Int)) 7=(pd:Int):=by
   rw [Wm,<- J]; unfold PD.pad; omega
  have j2:3+(pd:Int)=(f1:Int):=by omega
  have j3:(f1:Int)+32=(f2:Int):=by omega
  have j4:8 * (n:Int)=(f3:Int):=by omega
  have j5:(f2:Int)+(f3:Int)=(M:Int):=by omega
  have b5:a3<=1000000000:=by omega
  have b6:f1<=100/\f2<=100/\f3<=1000000/\M<=2000000:=by omega
  obtain⟨b6,b7,b8,b9⟩:=b6;have k1:(n:Int)<=65535:=by omega
  clear f b0 J c2 c3 c6 c7;go_enter Tryz.func28,Tryz.ntmps28
  go_wp2_with fail
  generalize w.heap.size=g4 at HX ⊢;have m:Hid (Ent (Bk g4 34 [.int .i64 0,.int .i64 0,.int .i64 0]::L) (DBr g dv p)):=hid fun w0 w h=>Y.out w0 w h.tail;have a0:Hid (Ent (Bk g4 34 [.int .i64 0,.int .i64 0,.int .i64 0]::L) (DTabs TL TF cl cf)):=hid fun w0 w h=>HT.out w0 w h.tail;refine Zb (L:=Bk g4 34 [.int .i64 0,.int .i64 0,.int .i64 0]::L) [some (.pointer (some ⟨g,0,none⟩)),some (.int .i64 td),some (.int .i64 z),some (.int .i64 u),some (.pointer (some ⟨g,0,none⟩)),some (.pointer (some ⟨g,0,none⟩)),some (.pointer (some ⟨g,6,none⟩)),some (.slice dv.r p.R.length dv.rc),some (.pointer (some ⟨g,0,none⟩)),some (.pointer (some ⟨g,0,none⟩)),some (.pointer (some ⟨g,7,none⟩)),some (.slice dv.f p.F.length dv.fc),some (.agg #[.slice dv.f p.F.length dv.fc,.slice none 0 0]),some (.int .i64 cR),some (.int .i64 y),some (.pointer (some ⟨g,0,none⟩)),some (.pointer (some ⟨g,0,none⟩)),some (.pointer (some ⟨g,2,none⟩)),some (.slice dv.w p.W.length dv.wc),some (.pointer (some ⟨g,0,none⟩)),some (.pointer (some ⟨g,0,none⟩)),some (.pointer (some ⟨g,4,none⟩)),some (.agg #[.slice dv.a p.A.length dv.ac,.slice dv.d p.D.length dv.dc]),some (.int .i64 cW),some (.int .i64 es4),some (.int .i64 es4)] (fun _ _=>True) (fun _ _=>[]) (fun _=>[]) 26 61
   [some 26,some 27,some 28,some 29,some 30,some 31,some 32,some 33,some 34,some 35,some 36,some 37,some 38,some 39,some 40,some 41,some 42,some 43,some 44,some 45,some 46,some 47,some 48,some 49,some 50,some 6]
   [[],[0],[1],[2],[],[4],[5],[6],[],[8],[9],[10],[11],[7,12,1],[3,13],[],[15],[16],[17],[],[19],[20],[21],[18,22,13],[14,23],[24,23,0,1,2,3,4,5,6,7,8,9,10,11,12,13,14,15,16,17,18,19,20,21,22,23,24]]
   [[],[0],[0,1],[0,1,2],[],[4],[4,5],[4,5,6],[],[8],[8,9],[8,9,10],[8,9,10,11],[0,1,4,5,6,7,8,9,10,11,12],[0,1,2,3,4,5,6,7,8,9,10,11,12,13],[],[15],[15,16],[15,16,17],[],[19],[19,20],[19,20,21],[0,1,4,5,6,7,8,9,10,11,12,13,15,16,17,18,19,20,21,22],[0,1,2,3,4,5,6,7,8,9,10,11,12,13,14,15,16,17,18,19,20,21,22,23],[0,1,2,3,4,5,6,7,8,9,10,11,12,13,14,15,16,17,18,19,20,21,22,23,24]]
   [[],[],[],[],[],[],[],[],[],[],[],[],[],[],[],[],[],[],[],[],[],[],[],[],[],[]] [[],[],[],[],[],[],[],[],[],[],[],[],[],[],[],[],[],[],[],[],[],[],[],[],[],[]] [(0,.pointer (some ⟨g,0,none⟩))]
   (by kernel_rfl) rfl (by decide) (by rfl) (by decide +kernel) rfl rfl (by simp) (HX.out) ?hstep ?hend
  case hstep =>
   refine⟨?p0,⟨?p1,⟨?p2,⟨?p3,⟨?p4,⟨?p5,⟨?p6,⟨?p7,⟨?p8,⟨?p9,⟨?p10,⟨?p11,⟨?p12,⟨?p13,⟨?p14,⟨?p15,⟨?p16,⟨?p17,⟨?p18,⟨?p19,⟨?p20,⟨?p21,⟨?p22,⟨?p23,⟨?p24,⟨?p25,trivial⟩⟩⟩⟩⟩⟩⟩⟩⟩⟩⟩⟩⟩⟩⟩⟩⟩⟩⟩⟩⟩⟩⟩⟩⟩⟩
   case p0 | p2 | p3 | p4 | p5 | p6 | p8 | p9 | p10 | p12 | p14 | p15 | p16 | p17 | p19 | p20 | p21 | p24 | p25 =>
    intro x wx A i d hF f j H K k;replace k:=hid k;clear f j d;repeat (obtain⟨_,hF⟩:=hF)
    refine so ?_;go_step;exact k.out _ _ rfl H
   case p1 =>
    intro x wx A i d hF f j H K b;have c9:=tq f 0;have k:=hid b;clear b hF f d;have a1:=hid (j _ a0.out);have l:=hid (j _ m.out);have r:=hid H;clear j H;refine so ?_;go_wp2_with fail
    refine(Xw g dv p r.out l.out a1.out HF.out).mono ?_;rw [a6.out];rintro _ N ⟨rfl,q⟩;exact k.out _ _ rfl q
   case p7 =>
    intro x wx A i d hF f j H K b;have d0:=tq f 6;have k:=hid b;clear b hF f d;have c:=(j _ m.out _ _ H).c6;clear j;refine so ?_;go_step;exact k.out _ _ rfl H
   case p11 =>
    intro x wx A i d hF f j H K b;have d1:=tq f 10;have k:=hid b;clear b hF f d;have c:=(j _ m.out _ _ H).c7;clear j;refine so ?_;go_step;exact k.out _ _ rfl H
   case p13 =>
    intro x wx A i d hF f j H K b;have d2:=tq f 7;have d3:=tq f 12;have k:=hid b;clear b hF f d;have l:=hid (j _ m.out);have r:=hid H;clear j H;refine so ?_;go_wp2_with fail
    refine(Ya dv.r dv.f none p.R.length dv.rc p.F.length dv.fc 0 0 p.R p.F [] r.out (fun w0 w h=>(l.out w0 w h).r) (fun w0 w h=>(l.out w0 w h).f) (fun w0 w h=>Rd.nil) rfl rfl rfl (by omega) (fun x hx=>by have:=a5.out x hx; omega) (fun x hx=>by cases hx) P.out).mono ?_;rw [a7.out];rintro _ N ⟨rfl,q⟩;exact k.out _ _ rfl q
   case p18 =>
    intro x wx A i d hF f j H K b;have d4:=tq f 17;have k:=hid b;clear b hF f d;have c:=(j _ m.out _ _ H).c2;clear j;refine so ?_;go_step;exact k.out _ _ rfl H
   case p22 =>
    intro x wx A i d hF f j H K b;have d5:=tq f 21;have k:=hid b;clear b hF f d;have c4:=(j _ m.out _ _ H).c4;have c5:=(j _ m.out _ _ H).c5;clear j;refine so ?_;go_step;exact k.out _ _ rfl H
   case p23 =>
    intro x wx A i d hF f j H K b;have d6:=tq f 18;have d7:=tq f 22;have k:=hid b;clear b hF f d;have l:=hid (j _ m.out);have r:=hid H;clear j H;refine so ?_;go_wp2_with fail
    refine(Ya dv.w dv.a dv.d p.W.length dv.wc p.A.length dv.ac p.D.length dv.dc p.W p.A p.D r.out (fun w0 w h=>(l.out w0 w h).w) (fun w0 w h=>(l.out w0 w h).a) (fun w0 w h=>(l.out w0 w h).d) rfl rfl rfl hWl HA.out HD.out Q.out).mono ?_;rw [a8.out];rintro _ N ⟨rfl,q⟩;exact k.out _ _ rfl q
  case hend =>
   intro x wx A hA f H;replace H:Sp w0 (_::L) wx:=H;have a2:x 25=.int .i64 es4:=f 25 (by decide);clear f;simp only [putAll,Act.put,List.setIfInBounds_toArray,List.set_cons_succ,List.set_cons_zero,Nat.reduceAdd] at hA;subst hA;rw [a2];have HY:=hid H;clear H HX;go_wp2_with fail
   refine Zb (L:=L) [some (.int .i64 M),some (.pointer (some ⟨g,0,none⟩)),some (.pointer (some ⟨g,0,none⟩)),some (.pointer (some ⟨g,2,none⟩)),some (.slice dv.w p.W.length dv.wc),none,some (.int .i64 cX),some (.int .i64 o),some (.int .i64 es4),some (.agg #[.int .i64 M,.int .i64 o,.int .i64 es4]),some (undef)] (fun ix vx=>match ix with | 5=>(fun vv=>vv=.agg #[agF vv 0,agF vv 1]) vx | _=>True) (fun ix vx=>match ix with | 5=>(fun vv=>[Row 3 1 (agF vv 0) 288 (cellsN PI.fixedL),Row 3 1 (agF vv 1) 32 (cellsN PI.fixedD)]) vx | 10=>(fun _=>[Bk g4 34 [.int .i64 M,.int .i64 o,.int .i64 es4]]) vx | _=>[]) (fun ix=>match ix with | 10=>[Bk g4 34 [.int .i64 0,.int .i64 0,.int .i64 0]] | _=>[]) 11 61
    [some 51,some 52,some 53,some 54,some 55,some 56,some 57,some 58,some 59,some 60,none]
    [[],[],[1],[2],[3],[],[4,5,5],[6],[],[0,7,8],[9,6,0,1,2,3,4,5,6,7,8,9]]
    [[],[],[1],[1,2],[1,2,3],[],[1,2,3,4,5],[1,2,3,4,5,6],[],[0,1,2,3,4,5,6,7,8],[0,1,2,3,4,5,6,7,8,9]]
    [[],[],[],[],[],[],[5],[],[],[],[]] [[],[],[],[],[],[],[],[],[],[],[]] [(0,.pointer (some ⟨g,0,none⟩)),(4,.pointer (some ⟨g4,0,none⟩)),(5,.int .i64 M),(6,.int .i64 es4)]
    (by kernel_rfl) rfl (by decide) (by rfl) (by decide +kernel) rfl rfl (by simp) (HY.out) ?hstep ?hend
   case hstep =>
    refine⟨?p0,⟨?p1,⟨?p2,⟨?p3,⟨?p4,⟨?p5,⟨?p6,⟨?p7,⟨?p8,⟨?p9,⟨?p10,trivial⟩⟩⟩⟩⟩⟩⟩⟩⟩⟩⟩
    case p0 | p1 | p2 | p3 | p7 | p8 | p9 =>
     intro x wx A i d hF f j H K k;replace k:=hid k;clear f j d;repeat (obtain⟨_,hF⟩:=hF)
     refine so ?_;go_step;exact k.out _ _ rfl H
    case p4 =>
     intro x wx A i d hF f j H K b;have d8:=tq f 3;have k:=hid b;clear b hF f d;have c:=(j _ Y.out _ _ H).c2;clear j;refine so ?_;go_step;exact k.out _ _ rfl H
    case p5 =>
     intro x wx A i d hF f j H K b;have k:=hid b;clear b hF f j d;refine so ?_;go_wp2_with fail
     refine(YQ H).mono ?_;rintro _ N ⟨v0,v1,rfl,q⟩;exact k.out _ _ rfl q
    case p6 =>
     intro x wx A i d hF f j H K b;have d9:=tq f 4;have s:(x 5)=.agg #[agF (x 5) 0,agF (x 5) 1]:=(f 5 (by decide)).1;have a4:=(f 5 (by decide)).2 56 rfl;replace H:Sp w0 ((Row 3 1 (agF (x 5) 0) 288 (cellsN PI.fixedL))::(Row 3 1 (agF (x 5) 1) 32 (cellsN PI.fixedD))::i) wx:=H;have k:=hid b;clear b hF f d;obtain⟨r0,B⟩:=exq (agF (x 5) 0);obtain⟨r1,C⟩:=exq (agF (x 5) 1);rw [B,C] at s H;rw [s] at a4;clear B C s;obtain⟨A0,c0,rfl,_,_⟩:=Row.form H 0 rfl;obtain⟨A1,c1,rfl,_,_⟩:=Row.form H 1 rfl;have l:=hid (j _ Y.out);have r:=hid H;clear j H;refine so ?_;go_wp2_with fail
     refine(Ya dv.w A0 A1 p.W.length dv.wc 288 c0 32 c1 p.W PI.fixedL PI.fixedD r.out (fun w0 w h=>(l.out w0 w (h.pick 2 [])).w) (fun w0 w h=>rowRd h 0 rfl) (fun w0 w h=>rowRd h 1 rfl) rfl ZB.symm rfl hWl fl15 fd15 R.out).mono ?_;rw [a9.out];rintro _ N ⟨rfl,q⟩;exact k.out _ _ rfl q.tail2
    case p10 =>
     intro x wx A i d hF f j H K b;have e4:A.tmps[4]?.getD undef=.pointer (some ⟨g4,0,none⟩):=Za hF (4,_) (by simp) (by rfl);have e0:=tq f 9;replace H:Sp w0 (_::i) wx:=H;have k:=hid b;clear b hF f j d;have t0:=H.cell 0 rfl 0;have t1:=H.cell 0 rfl 1;have t2:=H.cell 0 rfl 2;have z0:=H.frozen 0 rfl 0;have z1:=H.frozen 0 rfl 1;have z2:=H.frozen 0 rfl 2;refine so ?_;go_step;exact k.out _ _ rfl (((H.set 0 (.int .i64 M)).set 1 (.int .i64 o)).set 2 (.int .i64 es4))
   case hend =>
    intro x wx A hA f H;replace H:Sp w0 (_::L) wx:=H;clear f;simp only [putAll,Act.put,List.setIfInBounds_toArray,List.set_cons_succ,List.set_cons_zero,Nat.reduceAdd] at hA;subst hA;have O:=hid H;clear H HY;go_wp2;have t0:=O.out.cell 0 rfl 0;have t1:=O.out.cell 0 rfl 1;have t2:=O.out.cell 0 rfl 2;simp only [List.getElem?_cons_zero,List.getElem?_cons_succ] at t0 t1 t2;exact bodyPost_ret (v:=.agg #[.int .i64 M,.int .i64 o,.int .i64 es4]) (by simp [results,go_sem,t0,t1,t2]) rfl ⟨rfl,O.out.tail⟩
 ·have Z:S = -1:=by
   rw [<- f];unfold PD.sto;rw [HN.out,if_neg h6]
  subst Z;have k1:¬ (n:Int)<=65535:=by omega
  clear f;go_enter Tryz.func28,Tryz.ntmps28
  go_wp2_with fail
  generalize w.heap.size=g4 at HX ⊢;have m:Hid (Ent (Bk g4 34 [.int .i64 0,.int .i64 0,.int .i64 0]::L) (DBr g dv p)):=hid fun w0 w h=>Y.out w0 w h.tail;have a0:Hid (Ent (Bk g4 34 [.int .i64 0,.int .i64 0,.int .i64 0]::L) (DTabs TL TF cl cf)):=hid fun w0 w h=>HT.out w0 w h.tail;refine Zb (L:=Bk g4 34 [.int .i64 0,.int .i64 0,.int .i64 0]::L) [some (.pointer (some ⟨g,0,none⟩)),some (.int .i64 td),some (.int .i64 z),some (.int .i64 u),some (.pointer (some ⟨g,0,none⟩)),some (.pointer (some ⟨g,0,none⟩)),some (.pointer (some ⟨g,6,none⟩)),some (.slice dv.r p.R.length dv.rc),some (.pointer (some ⟨g,0,none⟩)),some (.pointer (some ⟨g,0,none⟩)),some (.pointer (some ⟨g,7,none⟩)),some (.slice dv.f p.F.length dv.fc),some (.agg #[.slice dv.f p.F.length dv.fc,.slice none 0 0]),some (.int .i64 cR),some (.int .i64 y),some (.pointer (some ⟨g,0,none⟩)),some (.pointer (some ⟨g,0,none⟩)),some (.pointer (some ⟨g,2,none⟩)),some (.slice dv.w p.W.length dv.wc),some (.pointer (some ⟨g,0,none⟩)),some (.pointer (some ⟨g,0,none⟩)),some (.pointer (some ⟨g,4,none⟩)),some (.agg #[.slice dv.a p.A.length dv.ac,.slice dv.d p.D.length dv.dc]),some (.int .i64 cW),some (.int .i64 es4),some (.int .i64 es4)] (fun _ _=>True) (fun _ _=>[]) (fun _=>[]) 26 61
   [some 26,some 27,some 28,some 29,some 30,some 31,some 32,some 33,some 34,some 35,some 36,some 37,some 38,some 39,some 40,some 41,some 42,some 43,some 44,some 45,some 46,some 47,some 48,some 49,some 50,some 6]
   [[],[0],[1],[2],[],[4],[5],[6],[],[8],[9],[10],[11],[7,12,1],[3,13],[],[15],[16],[17],[],[19],[20],[21],[18,22,13],[14,23],[24,23,0,1,2,3,4,5,6,7,8,9,10,11,12,13,14,15,16,17,18,19,20,21,22,23,24]]
   [[],[0],[0,1],[0,1,2],[],[4],[4,5],[4,5,6],[],[8],[8,9],[8,9,10],[8,9,10,11],[0,1,4,5,6,7,8,9,10,11,12],[0,1,2,3,4,5,6,7,8,9,10,11,12,13],[],[15],[15,16],[15,16,17],[],[19],[19,20],[19,20,21],[0,1,4,5,6,7,8,9,10,11,12,13,15,16,17,18,19,20,21,22],[0,1,2,3,4,5,6,7,8,9,10,11,12,13,14,15,16,17,18,19,20,21,22,23],[0,1,2,3,4,5,6,7,8,9,10,11,12,13,14,15,16,17,18,19,20,21,22,23,24]]
   [[],[],[],[],[],[],[],[],[],[],[],[],[],[],[],[],[],[],[],[],[],[],[],[],[],[]] [[],[],[],[],[],[],[],[],[],[],[],[],[],[],[],[],[],[],[],[],[],[],[],[],[],[]] [(0,.pointer (some ⟨g,0,none⟩))]
   (by kernel_rfl) rfl (by decide) (by rfl) (by decide +kernel) rfl rfl (by simp) (HX.out) ?hstep ?hend
  case hstep =>
   refine⟨?p0,⟨?p1,⟨?p2,⟨?p3,⟨?p4,⟨?p5,⟨?p6,⟨?p7,⟨?p8,⟨?p9,⟨?p10,⟨?p11,⟨?p12,⟨?p13,⟨?p14,⟨?p15,⟨?p16,⟨?p17,⟨?p18,⟨?p19,⟨?p20,⟨?p21,⟨?p22,⟨?p23,⟨?p24,⟨?p25,trivial⟩⟩⟩⟩⟩⟩⟩⟩⟩⟩⟩⟩⟩⟩⟩⟩⟩⟩⟩⟩⟩⟩⟩⟩⟩⟩
   case p0 | p2 | p3 | p4 | p5 | p6 | p8 | p9 | p10 | p12 | p14 | p15 | p16 | p17 | p19 | p20 | p21 | p24 | p25 =>
    intro x wx A i d hF f j H K k;replace k:=hid k;clear f j d;repeat (obtain⟨_,hF⟩:=hF)
    refine so ?_;go_step;exact k.out _ _ rfl H
   case p1 =>
    intro x wx A i d hF f j H K b;have c9:=tq f 0;have k:=hid b;clear b hF f d;have a1:=hid (j _ a0.out);have l:=hid (j _ m.out);have r:=hid H;clear j H;refine so ?_;go_wp2_with fail
    refine(Xw g dv p r.out l.out a1.out HF.out).mono ?_;rw [a6.out];rintro _ N ⟨rfl,q⟩;exact k.out _ _ rfl q
   case p7 =>
    intro x wx A i d hF f j H K b;have d0:=tq f 6;have k:=hid b;clear b hF f d;have c:=(j _ m.out _ _ H).c6;clear j;refine so ?_;go_step;exact k.out _ _ rfl H
   case p11 =>
    intro x wx A i d hF f j H K b;have d1:=tq f 10;have k:=hid b;clear b hF f d;have c:=(j _ m.out _ _ H).c7;clear j;refine so ?_;go_step;exact k.out _ _ rfl H
   case p13 =>
    intro x wx A i d hF f j H K b;have d2:=tq f 7;have d3:=tq f 12;have k:=hid b;clear b hF f d;have l:=hid (j _ m.out);have r:=hid H;clear j H;refine so ?_;go_wp2_with fail
    refine(Ya dv.r dv.f none p.R.length dv.rc p.F.length dv.fc 0 0 p.R p.F [] r.out (fun w0 w h=>(l.out w0 w h).r) (fun w0 w h=>(l.out w0 w h).f) (fun w0 w h=>Rd.nil) rfl rfl rfl (by omega) (fun x hx=>by have:=a5.out x hx; omega) (fun x hx=>by cases hx) P.out).mono ?_;rw [a7.out];rintro _ N ⟨rfl,q⟩;exact k.out _ _ rfl q
   case p18 =>
    intro x wx A i d hF f j H K b;have d4:=tq f 17;have k:=hid b;clear b hF f d;have c:=(j _ m.out _ _ H).c2;clear j;refine so ?_;go_step;exact k.out _ _ rfl H
   case p22 =>
    intro x wx A i d hF f j H K b;have d5:=tq f 21;have k:=hid b;clear b hF f d;have c4:=(j _ m.out _ _ H).c4;have c5:=(j _ m.out _ _ H).c5;clear j;refine so ?_;go_step;exact k.out _ _ rfl H
   case p23 =>
    intro x wx A i d hF f j H K b;have d6:=tq f 18;have d7:=tq f 22;have k:=hid b;clear b hF f d;have l:=hid (j _ m.out);have r:=hid H;clear j H;refine so ?_;go_wp2_with fail
    refine(Ya dv.w dv.a dv.d p.W.length dv.wc p.A.length dv.ac p.D.length dv.dc p.W p.A p.D r.out (fun w0 w h=>(l.out w0 w h).w) (fun w0 w h=>(l.out w0 w h).a) (fun w0 w h=>(l.out w0 w h).d) rfl rfl rfl hWl HA.out HD.out Q.out).mono ?_;rw [a8.out];rintro _ N ⟨rfl,q⟩;exact k.out _ _ rfl q
  case hend =>
   intro x wx A hA f H;replace H:Sp w0 (_::L) wx:=H;have a2:x 25=.int .i64 es4:=f 25 (by decide);clear f;simp only [putAll,Act.put,List.setIfInBounds_toArray,List.set_cons_succ,List.set_cons_zero,Nat.reduceAdd] at hA;subst hA;rw [a2];have HY:=hid H;clear H HX;go_wp2_with fail
   refine Zb (L:=L) [some (.int .i64 (-1)),some (.pointer (some ⟨g,0,none⟩)),some (.pointer (some ⟨g,0,none⟩)),some (.pointer (some ⟨g,2,none⟩)),some (.slice dv.w p.W.length dv.wc),none,some (.int .i64 cX),some (.int .i64 o),some (.int .i64 es4),some (.agg #[.int .i64 (-1),.int .i64 o,.int .i64 es4]),some (undef)] (fun ix vx=>match ix with | 5=>(fun vv=>vv=.agg #[agF vv 0,agF vv 1]) vx | _=>True) (fun ix vx=>match ix with | 5=>(fun vv=>[Row 3 1 (agF vv 0) 288 (cellsN PI.fixedL),Row 3 1 (agF vv 1) 32 (cellsN PI.fixedD)]) vx | 10=>(fun _=>[Bk g4 34 [.int .i64 (-1),.int .i64 o,.int .i64 es4]]) vx | _=>[]) (fun ix=>match ix with | 10=>[Bk g4 34 [.int .i64 0,.int .i64 0,.int .i64 0]] | _=>[]) 11 61
    [some 51,some 52,some 53,some 54,some 55,some 56,some 57,some 58,some 59,some 60,none]
    [[],[],[1],[2],[3],[],[4,5,5],[6],[],[0,7,8],[9,6,0,1,2,3,4,5,6,7,8,9]]
    [[],[],[1],[1,2],[1,2,3],[],[1,2,3,4,5],[1,2,3,4,5,6],[],[0,1,2,3,4,5,6,7,8],[0,1,2,3,4,5,6,7,8,9]]
    [[],[],[],[],[],[],[5],[],[],[],[]] [[],[],[],[],[],[],[],[],[],[],[]] [(0,.pointer (some ⟨g,0,none⟩)),(4,.pointer (some ⟨g4,0,none⟩)),(5,.int .i64 (-1)),(6,.int .i64 es4)]
    (by kernel_rfl) rfl (by decide) (by rfl) (by decide +kernel) rfl rfl (by simp) (HY.out) ?hstep ?hend
   case hstep =>
    refine⟨?p0,⟨?p1,⟨?p2,⟨?p3,⟨?p4,⟨?p5,⟨?p6,⟨?p7,⟨?p8,⟨?p9,⟨?p10,trivial⟩⟩⟩⟩⟩⟩⟩⟩⟩⟩⟩
    case p0 | p1 | p2 | p3 | p7 | p8 | p9 =>
     intro x wx A i d hF f j H K k;replace k:=hid k;clear f j d;repeat (obtain⟨_,hF⟩:=hF)
     refine so ?_;go_step;exact k.out _ _ rfl H
    case p4 =>
     intro x wx A i d hF f j H K b;have d8:=tq f 3;have k:=hid b;clear b hF f d;have c:=(j _ Y.out _ _ H).c2;clear j;refine so ?_;go_step;exact k.out _ _ rfl H
    case p5 =>
     intro x wx A i d hF f j H K b;have k:=hid b;clear b hF f j d;refine so ?_;go_wp2_with fail
     refine(YQ H).mono ?_;rintro _ N ⟨v0,v1,rfl,q⟩;exact k.out _ _ rfl q
    case p6 =>
     intro x wx A i d hF f j H K b;have d9:=tq f 4;have s:(x 5)=.agg #[agF (x 5) 0,agF (x 5) 1]:=(f 5 (by decide)).1;have a4:=(f 5 (by decide)).2 56 rfl;replace H:Sp w0 ((Row 3 1 (agF (x 5) 0) 288 (cellsN PI.fixedL))::(Row 3 1 (agF (x 5) 1) 32 (cellsN PI.fixedD))::i) wx:=H;have k:=hid b;clear b hF f d;obtain⟨r0,B⟩:=exq (agF (x 5) 0);obtain⟨r1,C⟩:=exq (agF (x 5) 1);rw [B,C] at s H;rw [s] at a4;clear B C s;obtain⟨A0,c0,rfl,_,_⟩:=Row.form H 0 rfl;obtain⟨A1,c1,rfl,_,_⟩:=Row.form H 1 rfl;have l:=hid (j _ Y.out);have r:=hid H;clear j H;refine so ?_;go_wp2_with fail
     refine(Ya dv.w A0 A1 p.W.length dv.wc 288 c0 32 c1 p.W PI.fixedL PI.fixedD r.out (fun w0 w h=>(l.out w0 w (h.pick 2 [])).w) (fun w0 w h=>rowRd h 0 rfl) (fun w0 w h=>rowRd h 1 rfl) rfl ZB.symm rfl hWl fl15 fd15 R.out).mono ?_;rw [a9.out];rintro _ N ⟨rfl,q⟩;exact k.out _ _ rfl q.tail2
    case p10 =>
     intro x wx A i d hF f j H K b;have e4:A.tmps[4]?.getD undef=.pointer (some ⟨g4,0,none⟩):=Za hF (4,_) (by simp) (by rfl);have e0:=tq f 9;replace H:Sp w0 (_::i) wx:=H;have k:=hid b;clear b hF f j d;have t0:=H.cell 0 rfl 0;have t1:=H.cell 0 rfl 1;have t2:=H.cell 0 rfl 2;have z0:=H.frozen 0 rfl 0;have z1:=H.frozen 0 rfl 1;have z2:=H.frozen 0 rfl 2;refine so ?_;go_step;exact k.out _ _ rfl (((H.set 0 (.int .i64 (-1))).set 1 (.int .i64 o)).set 2 (.int .i64 es4))
   case hend =>
    intro x wx A hA f H;replace H:Sp w0 (_::L) wx:=H;clear f;simp only [putAll,Act.put,List.setIfInBounds_toArray,List.set_cons_succ,List.set_cons_zero,Nat.reduceAdd] at hA;subst hA;have O:=hid H;clear H HY;go_wp2;have t0:=O.out.cell 0 rfl 0;have t1:=O.out.cell 0 rfl 1;have t2:=O.out.cell 0 rfl 2;simp only [List.getElem?_cons_zero,List.getElem?_cons_succ] at t0 t1 t2;exact bodyPost_ret (v:=.agg #[.int .i64 (-1),.int .i64 o,.int .i64 es4]) (by simp [results,go_sem,t0,t1,t2]) rfl ⟨rfl,O.out.tail⟩
end Go.Proofs.YteajimobgkempaaGreatDoor

