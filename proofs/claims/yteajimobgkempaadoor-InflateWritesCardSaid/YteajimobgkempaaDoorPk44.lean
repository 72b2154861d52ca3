/- A pack. -/
import Derived.LaidMore
import Derived.Lib.LaidU8
import Derived.ShutString
import Derived.Stop.LaidErr
import Derived.Test.YteajimobgkempaaDoorCards
import Derived.Test.YteajimobgkempaaDoorTie
import Derived.Test.YteajimobgkempaaDoorPk43
set_option linter.all false
set_option maxRecDepth 100000
set_option maxHeartbeats 8000000
namespace Go.Proofs.YteajimobgkempaaDoor
variable {w0 w:World} {L:List Pr}
open Go.RowKit
theorem VG (AA A2 A3:Option Addr) (n c n2 c2 n3 c3:Nat) (ps:List PartV) (cs:List (Nat × Nat)) (bh:List UInt8) (ck mo:Nat) (TL TA:Option Addr) (cl ca:Nat) (H:Sp w0 L w) (hT:Ent L (Tabs TL TA cl ca))
  (hn:n=ps.length) (hc:n<=c) (hcm:c<=maxLen) (hrd:Ent L fun w=>Rd w AA (ps.flatMap PartV.cells)/\∀x ∈ ps,x.Ok w) (hn2:n2=cs.length) (hcs:Ent L fun w=>Rd w A2 (cellsPr cs)) (hc16:∀p ∈ cs,p.1<65536/\p.2<65536) (hck:ck<65536) (hmo:mo<65536)
  (hn3:n3=bh.length) (hc3:n3<=c3) (hcm3:c3<=maxLen) (hbh:Ent L fun w=>Byt w (.slice A3 n3 c3) bh) :
  Calls Tryd.prog 3 #[.slice AA n c,.slice A2 n2 c2,.int .u16 ck,.slice A3 n3 c3,.int .u16 mo] w fun e w'=>e=.returned (.bool true)/\Sp w0 L w':=by
 obtain⟨i8,hj,c1,c4,c5⟩:=info_parts info8;have HT:=hid hT;have c6:=hid hn2;have a0:=hid hcs;have a1:=hid hc16;have c7:=hid hbh;have c8:=hid hn3;have f4:c3<=9223372036854775807:=hcm3;have HW:=hid (Xh AA n c ps H hn hc hcm hrd);obtain⟨J,a2⟩:=exq (ps.map PartV.p);rw [a2] at HW;obtain⟨M,N⟩:=exq (PI.packB (PI.bitsW J));have d0:=PI.partsW_len J;have a3:=PI.stW_most (PI.partsW J) (PI.partsW J).length;have a4:M.length<=100000:=by
  have X:M.length=((PI.bitsW J).length+7) / 8:=by rw [<- N]; exact PI.packB_len _
  have h2:(PI.bitsW J).length<=9403 * (PI.partsW J).length:=a3.1;omega
 rw [N] at HW;obtain⟨bl,O⟩:=exq M.length;rw [O] at HW a4;have d1:=hid O;obtain⟨t,d2⟩:=exq (min n3 5);have y1:min (n3:Int) 5=(t:Int):=by omega
 have a5:t<=5/\t<=n3:=by omega
 obtain⟨f5,a6⟩:=a5;have y2:(t:Int)<=(c3:Int):=by omega
 have a7:Hid ((bh.take t).length=t):=hid (by rw [List.length_take,<- hn3]; omega);clear hT hn hc hcm hrd hn2 hcs hc16 hn3 hcm3 hbh H a2 N d0 a3 O d2;go_enter Tryd.func3,Tryd.ntmps3
 go_wp2_with fail
 refine HW.out.mono ?_;rintro _ w1 ⟨v1,v2,rfl,H1⟩;have H2:=H1.pick 2 [0];obtain⟨VB,d3,rfl,f6,f7⟩:=Row.form H2 0 rfl;have a8:Rd w1 A3 (cells8 (bh.take t)):=Xu ((c7.out _ _ H2.tail).take t (by rw [<- c8.out]; exact a6));have a9:=hid a8;have z:=hid H2;have d4:Hid ((cells8 (bh.take t)).length=t):=hid (by unfold cells8; rw [List.length_map,a7.out]);have b0:=H1;obtain⟨V2,g4,rfl,_,_⟩:=Row.form H1 1 rfl;clear HW H1 H2 a8 b0;go_wp2_with (at_builtin; refine wpList_append_sp rfl _ _ 25 rfl 5 i8 (.int .u8 0) 1 1 Tryd.underlying25 hj c1 c4 c5 rfl (by decide) (.slice VB bl d3) bl (cells8 M) rfl z.out A3 t c3 (cells8 (bh.take t)) rfl (by rw [d4.out,Nat.mul_one]) a9.out (Zr _) (by unfold maxLen; omega) (by omega) ?_)
 intro v4 w4 H4 _;obtain⟨t4,P⟩:=exq (bl+t);obtain⟨B0,Q⟩:=exq (M++bh.take t);have E:B0.length=t4:=by rw [<- Q,List.length_append,d1.out,a7.out,P]
 have H5:Sp w0 (Row 5 1 v4 t4 (cells8 B0)::L) w4:=by
  have h:=H4;rw [P] at h;rw [<- Q,show cells8 (M++bh.take t)=cells8 M++cells8 (bh.take t) by simp [cells8]];exact h
 have g5:t4<=100005:=by omega
 obtain⟨V4,f,rfl,f8,b1⟩:=Row.form H5 0 rfl;have f9:f<=9223372036854775807:=b1;have d5:=hid E;replace z:=hid H5;clear a9 H4 H5 Q E P;go_wp2_with fail
 go_loopw [13] (fun iv wr=>∃(i:Nat) (bi:List UInt8),iv=.int .i64 i/\i<=n2/\Hid (bi.length=t4)/\Sp w0 (Row 5 1 (.slice V4 t4 f) t4 (cells8 bi)::L) wr) (fun iv _=>n2 - (intOf iv).toNat)
 case atStart=>exact⟨0,B0,rfl,Nat.zero_le _,d5,z.out⟩
 case round =>
  clear z;obtain⟨i,bi,rfl,g6,s,H6⟩:=hrel;have z:=hid H6;clear H6;by_cases b2:i<n2/\i<5/\0<t4
  ·obtain⟨d6,g7,b3⟩:=b2;have k1:(i:Int)<(n2:Int):=by omega
   have k2:(i:Int)<5:=by omega
   have k3:(t4:Int) > 0:=by omega
   have R:i<cs.length:=by rw [<- c6.out]; exact d6
   obtain⟨⟨p0,p1⟩,S⟩:∃q,cs[i]=q:=⟨_,rfl⟩;have F:=a1.out cs[i] (List.getElem_mem R);rw [S] at F;obtain⟨d7,d8⟩:=F;simp only at d7 d8;obtain⟨m,d9,_⟩:=(a0.out _ _ z.out.tail) (fun h0=>by
    have:=congrArg List.length h0;rw [cellsPr,ZC _ 2 (fun _=>rfl)] at this;simp at this;omega)
   subst d9;have HP:Hid (Ent L fun w=>w.cell? (m.add (i * 2))=some (.int .u16 p0)/\w.cell? ⟨(m.add (i * 2)).block,(m.add (i * 2)).off+1,none⟩=some (.int .u16 p1)):=hid fun _ _ q=>by
    have hq:=a0.out _ _ q;obtain⟨ad,ea,b4⟩:=hq (fun h0=>by
     have:=congrArg List.length h0;rw [cellsPr,ZC _ 2 (fun _=>rfl)] at this;simp at this;omega)
    injection ea with ea
    subst ea;have G:∀j,j<2->(cellsPr cs)[i * 2+j]?=([.int .u16 p0,.int .u16 p1]:List Value)[j]?:=fun j hj=>by
     obtain⟨p,X,h2⟩:=ZQ (fun c:Nat × Nat=>([.int .u16 c.1,.int .u16 c.2]:List Value)) 2 (fun _=>rfl) cs i j hj R;rw [List.getElem?_eq_getElem R,S] at X;injection X with X
     subst X;exact h2
    refine⟨?_,?_⟩
    ·have:=b4 (i * 2+0) _ (G 0 (by decide));simpa using this
    ·have:=b4 (i * 2+1) _ (G 1 (by decide));rw [<- Go.Addr.add_add] at this;exact this
   obtain⟨g,b6⟩:∃ad,V4=some ad:=slice_of z.out 0 rfl b3 (by rw [cells8,List.length_map]; exact s.out);subst b6;obtain⟨r,T⟩:=exq (p0 % t4);have U:r<t4:=by rw [<- T]; exact Nat.mod_lt _ b3
   have y3:(p0:Int) % (t4:Int)=(r:Int):=by rw [<- T]; omega
   have k4:(r:Int)<(t4:Int):=by omega
   obtain⟨Y,b7⟩:=exq (bi.getD r 0);have e0:Hid (∀w,Rd w (some g) (cells8 bi)->w.cell? (g.add r)=some (.int .u8 Y.toNat)):=hid fun w h=>by
    obtain⟨g8,V,e1⟩:=h.at8 (k:=r) (by rw [s.out]; exact U);injection V with V
    subst V;rw [e1,<- b7,List.getD_eq_getElem?_getD,List.getElem?_eq_getElem (by rw [s.out]; exact U)];rfl
   obtain⟨p2,e2⟩:=exq (p1 % 256);have b8:p2<256:=by omega
   have y4:(p1:Int) % 256=(p2:Int):=by omega
   obtain⟨D,b9⟩:∃D:UInt8,D=Y ^^^ UInt8.ofNat p2:=⟨_,rfl⟩;have y5:bits .xor .u8 (Y.toNat:Int) (p2:Int)=(D.toNat:Int):=by
    have h9:=u8_xor_nat Y.toNat p2 (UInt8.toNat_lt _) b8;rw [h9,b9,UInt8.toNat_xor,UInt8.toNat_ofNat',Nat.mod_eq_of_lt (by omega)]
   have k0:¬ t4=0:=by omega
   have g9:¬ (t4:Int)=0:=by omega
   clear S T b7 e2 b9;go_upto_region 6 with (fail)
   refine wp_region_sc (L:=L) [some (.slice (some g) t4 f),some (.slice (some m) n2 c2),some (.int .i64 i),some (.pointer (some (m.add (i * 2)))),some (.pointer (some (m.add (i * 2)))),some (.int .u16 p0),some (.int .i64 p0),some (.slice (some g) t4 f),some (.int .i64 t4),some (.int .i64 r),some (.pointer (some (g.add r))),some (.int .u8 Y.toNat),some (.slice (some m) n2 c2),some (.int .i64 i),some (.pointer (some (m.add (i * 2)))),some (.pointer (some ⟨(m.add (i * 2)).block,(m.add (i * 2)).off+1,none⟩)),some (.int .u16 p1),some (.int .u8 p2),some (.int .u8 D.toNat),some (.pointer (some (g.add r))),some (undef)] (fun _ _=>True) (fun ix vx=>match ix with | 20=>(fun _=>[Row 5 1 (.slice (some g) t4 f) t4 (cells8 (bi.set r D))]) vx | _=>[]) (fun ix=>match ix with | 20=>[Row 5 1 (.slice (some g) t4 f) t4 (cells8 bi)] | _=>[]) 21 84
    [some 41,some 42,some 43,some 44,some 45,some 46,some 47,some 48,some 49,some 50,some 51,some 52,some 53,some 54,some 55,some 56,some 57,some 58,some 59,some 60,none]
    [[],[],[],[1,2],[3],[4],[5],[],[7],[6,8],[0,9],[10],[],[],[12,13],[14],[15],[16],[11,17],[0,9,0,1,2,3,4,5,6,7,8,9,10,11,12,13,14,15,16,17,18],[19,18,0,1,2,3,4,5,6,7,8,9,10,11,12,13,14,15,16,17,18]]
    [[],[],[],[1,2],[1,2,3],[1,2,3,4],[1,2,3,4,5],[],[7],[1,2,3,4,5,6,7,8],[0,1,2,3,4,5,6,7,8,9],[0,1,2,3,4,5,6,7,8,9,10],[],[],[12,13],[12,13,14],[12,13,14,15],[12,13,14,15,16],[0,1,2,3,4,5,6,7,8,9,10,11,12,13,14,15,16,17],[0,1,2,3,4,5,6,7,8,9,10,11,12,13,14,15,16,17,18],[0,1,2,3,4,5,6,7,8,9,10,11,12,13,14,15,16,17,18,19]]
    [[],[],[],[],[],[],[],[],[],[],[],[],[],[],[],[],[],[],[],[],[]] [[],[],[],[],[],[],[],[],[],[],[],[20],[],[],[],[],[],[],[],[],[]] [(1,.slice (some m) n2 c2),(11,.slice (some g) t4 f),(13,.int .i64 i)]
    (by kernel_rfl) rfl (by decide) (by rfl) (by decide +kernel) rfl rfl (by simp) (z.out) ?hstep ?hend
   case hstep =>
    refine⟨?p0,⟨?p1,⟨?p2,⟨?p3,⟨?p4,⟨?p5,⟨?p6,⟨?p7,⟨?p8,⟨?p9,⟨?p10,⟨?p11,⟨?p12,⟨?p13,⟨?p14,⟨?p15,⟨?p16,⟨?p17,⟨?p18,⟨?p19,⟨?p20,trivial⟩⟩⟩⟩⟩⟩⟩⟩⟩⟩⟩⟩⟩⟩⟩⟩⟩⟩⟩⟩⟩
    case p0 | p1 | p2 | p3 | p4 | p7 | p8 | p12 | p13 | p14 | p15 =>
     intro x wx A rest b o d y H K l;replace l:=hid l;clear d y b;repeat (obtain⟨_,o⟩:=o)
     refine so ?_;go_step;exact l.out _ _ rfl H
    case p5 =>
     intro x wx A rest b o d y H K a;have h3:=tq d 4;have l:=hid a;clear a o d b;have c9:=(y _ HP.out _ _ H).1;refine so ?_;go_step;exact l.out _ _ rfl H
    case p6 =>
     intro x wx A rest b o d y H K a;have h5:=tq d 5;have l:=hid a;clear a o d b;refine so ?_;go_step;exact l.out _ _ rfl H
    case p9 =>
     intro x wx A rest b o d y H K a;have h6:=tq d 6;have h7:=tq d 8;have l:Hid (∀(v:Value) (w' : World),(v=.int .i64 r)->Sp w0 (rest) w'->K (A.put (some 50) v) w'):=hid a;clear a o d b;refine so ?_;go_step;exact l.out _ _ (by first | rfl | rw [y3]) H
    case p10 =>
     intro x wx A rest b o d y H K a;have e3:=tq d 0;have e4:=tq d 9;have l:=hid a;clear a o d b;refine so ?_;go_step;exact l.out _ _ rfl H
    case p11 =>
     intro x wx A rest b o d y H K a;have h8:=tq d 10;replace H:Sp w0 (_::rest) wx:=H;have l:=hid a;clear a o d b;have c9:wx.cell? (g.add r)=some (.int .u8 Y.toNat):=e0.out _ (rowRd9 H 0 rfl);refine so ?_;go_step;exact l.out _ _ rfl H
    case p16 =>
     intro x wx A rest b o d y H K a;have i0:=tq d 15;have l:=hid a;clear a o d b;have c9:=(y _ HP.out _ _ H).2;refine so ?_;go_step;exact l.out _ _ rfl H
    case p17 =>
     intro x wx A rest b o d y H K a;have i1:=tq d 16;have l:Hid (∀(v:Value) (w' : World),(v=.int .u8 p2)->Sp w0 (rest) w'->K (A.put (some 58) v) w'):=hid a;clear a o d b;refine so ?_;go_step;exact l.out _ _ (by first | rfl | rw [y4]) H
    case p18 =>
     intro x wx A rest b o d y H K a;have i2:=tq d 11;have i3:=tq d 17;have l:=hid a;clear a o d b;refine so ?_;go_step;exact l.out _ _ rfl H
    case p19 =>
     intro x wx A rest b o d y H K a;have e3:=tq d 0;have e4:=tq d 9;have l:=hid a;clear a o d b;refine so ?_;go_step;exact l.out _ _ rfl H
    case p20 =>
     intro x wx A rest b o d y H K a;have i4:=tq d 19;have i5:=tq d 18;replace H:Sp w0 (_::rest) wx:=H;have l:Hid (∀(v:Value) (w' : World),(v=undef)->Sp w0 ((Row 5 1 (.slice (some g) t4 f) t4 (cells8 (bi.set r D)))::rest) w'->K (A.put none v) w'):=hid a;clear a o d b;obtain⟨i6,c9,B,_,C,g0,I⟩:=Sp.rowSet H (i:=r) (by omega);injection B with B eb9 ec9
     injection B with B
     subst B;subst ec9;clear eb9;have W:∃u,wx.cell? (g.add r)=some u:=by
      rw [C];exact⟨_,List.getElem?_eq_getElem (by rw [cells8,List.length_map,s.out]; exact U)⟩
     obtain⟨u,hu⟩:=W;have HS:=hid (I (.int .u8 D.toNat));have ec:cells8 (bi.set r D)=(cells8 bi).set r (.int .u8 D.toNat):=by unfold cells8; rw [List.map_set]
     rw [ec] at l;clear C I H ec;refine so ?_;go_step;exact l.out undef _ rfl HS.out
   case hend =>
    intro x wx A hA d H;replace H:Sp w0 (_::L) wx:=H;clear d;simp only [putAll,Act.put,List.setIfInBounds_toArray,List.set_cons_succ,List.set_cons_zero,Nat.reduceAdd] at hA;subst hA;have e5:=hid H;clear H z;go_wp2_with fail
    go_roundw
    case rel=>exact⟨i+1,bi.set r D,by go_num,by omega,hid (by rw [List.length_set]; exact s.out),e5.out⟩
    case measure=>first | (simp [intOf]; omega) | simp [intOf]
  ·go_upto_region 4 with (fail)
   go_cut [38] from 26 to 60 (fun s38 wx=>s38=.bool false/\wx=wr)
   case first =>
    by_cases X:i<n2
    ·have k1:(i:Int)<(n2:Int):=by omega
     by_cases h2:i<5
     ·have k2:(i:Int)<5:=by omega
      have k3:¬ (t4:Int) > 0:=by omega
      go_wp2_with fail
      go_meet
      exact⟨by first | rfl | exact congrArg Value.bool (decide_eq_false (by omega)),rfl⟩
     ·have k2:¬ (i:Int)<5:=by omega
      go_wp2_with fail
      go_meet
      exact⟨rfl,rfl⟩
    ·have k1:¬ (i:Int)<(n2:Int):=by omega
     go_wp2_with fail
     go_meet
     exact⟨rfl,rfl⟩
   case rest =>
    obtain⟨rfl,rfl⟩:=hcut;clear b2;obtain⟨kr,e6⟩:=exq (ck % 4);have z1:(ck:Int) % 4=(kr:Int):=by omega
    obtain⟨kq,e7⟩:=exq (ck / 4);have z2:(ck:Int) / 4=(kq:Int):=by omega
    have g1:kq<65536:=by omega
    obtain⟨Z,e8⟩:=exq (t4+1);have z3:(t4:Int)+1=(Z:Int):=by omega
    obtain⟨kz,c0⟩:=exq (kq % Z);have g2:kz<=t4:=by have:=Nat.mod_lt kq (show 0<Z by omega); omega
    have z4:(kq:Int) % (Z:Int)=(kz:Int):=by rw [<- c0]; omega
    obtain⟨tn,e9⟩:=exq (t4 - kz);have z5:(t4:Int) - (kz:Int)=(tn:Int):=by omega
    have z6:¬ Z=0:=by omega
    have f0:¬ (Z:Int)=0:=by omega
    have z7:(tn:Int)<=(f:Int):=by omega
    clear e8 c0 e9 e7 e6;go_upto_if 63 with (fail)
    go_cut [11] from 26 to 83 (fun s11 wx=>∃tm,s11=.slice V4 tm f/\tm<=t4/\Sp w0 (Row 5 1 (.slice V4 t4 f) t4 (cells8 bi)::L) wx)
    case first =>
     by_cases h4:kr=0
     ·have q1:((kr:Int) == 0)=true:=by rw [beq_iff_eq]; omega
      go_wp2_with fail
      go_meet
      exact⟨tn,rfl,by omega,z.out⟩
     ·have q1:((kr:Int) == 0)=false:=by rw [beq_eq_false_iff_ne]; omega
      go_wp2_with fail
      go_meet
      exact⟨t4,rfl,Nat.le_refl _,z.out⟩
    case rest =>
     obtain⟨tm,rfl,f1,H6⟩:=hcut;clear z z1 z2 z3 z4 z5 z6 f0 z7;obtain⟨mz,f2⟩:=exq (mo % 8000);have z1:(mo:Int) % 8000=(mz:Int):=by omega
     have g3:mz<8000:=by omega
     have HD:=hid (WU V4 tm f (bi.take tm) mz TL TA cl ca H6 (fun w0 w h=>HT.out w0 w h.tail) (by rw [List.length_take,s.out]; omega) (by omega) (by omega) (fun w0 w h=>(ZJ h 0 rfl s.out.symm).take tm (by rw [s.out]; exact f1)));clear H6 f2;go_wp2_with fail
     refine HD.out.mono ?_;rintro _ w9 ⟨rfl,H7⟩;have f3:=hid (Wy TL TA cl ca H7.tail HT.out);clear HD H7;go_wp2_with fail
     refine f3.out.mono ?_;rintro _ i7 ⟨rfl,H8⟩;go_wp2_with fail
     go_ret;exact⟨rfl,H8⟩
theorem Vt (AA A2 A3:Option Addr) (n c n2 c2 c3:Nat) (ps:List PartV) (cs:List (Nat × Nat)) (bh:List UInt8) (ck mo:Nat) {W:World} (hT:∃TL TA cl ca,Tabs TL TA cl ca W) (hn:n=ps.length) (hc:n<=c) (hcm:c<=maxLen) (hrd:Rd W AA (ps.flatMap PartV.cells)) (hok:∀p ∈ ps,p.Ok W)
  (hn2:n2=cs.length) (hcs:Rd W A2 (cellsPr cs)) (hc16:∀p ∈ cs,p.1<65536/\p.2<65536) (hck:ck<65536) (hmo:mo<65536) (hbh:Byt W (.slice A3 bh.length c3) bh) :
  Calls Tryd.prog 3 #[.slice AA n c,.slice A2 n2 c2,.int .u16 ck,.slice A3 bh.length c3,.int .u16 mo] W fun e w'=>e=.returned (.bool true)/\Sp W [Same W] w':=by
 obtain⟨TL,TA,cl,ca,hT⟩:=hT;obtain⟨_,_,a,_,b,d⟩:=id hbh;injection a with _ _ a
 subst a;exact VG AA A2 A3 n c n2 c2 bh.length _ ps cs bh ck mo TL TA cl ca (Sp.start W) (Wz hT) hn hc hcm (XT hrd hok) hn2 (hcs.same 0 rfl) hc16 hck hmo rfl b d (Ent.byt 0 rfl hbh)
open Go.ChangeShapes Go.WideShapes Go.ChangeAt Go.RowKit Go.Lib
def pairData (l:List (Nat × Nat)):DataW Unit:=.slice (l.map fun x=>.agg [.lit (.int .i64 x.1),.lit (.int .i64 x.2)]) []
theorem ZT {P:Program} {w:World} {name:String} {g:Nat} {t e:TypeId} {f0 f1:Field} {l:List (Nat × Nat)} (hn:P.globalNamed name=some g) (hy:(P.globals[g]?).map (·.type)=some t)
  (ht:P.underlying t=some (.slice e)) (he:P.underlying e=some (.struct #[f0,f1])) (hc:P.cellsOf e=2) (h0:P.underlying f0.type=some (.int .i64)) (h1:P.underlying f1.type=some (.int .i64))
  (hf0:f0.offset=0/\P.cellsOf f0.type=1) (hf1:f1.offset=1/\P.cellsOf f1.type=1) (hl:0<l.length) (h:VarReads P w name (pairData l)) :
  ∃A c,w.cell? ⟨g,0,none⟩=some (.slice A l.length c)/\Rd w A (cellsP l):=by
 obtain⟨g',t',cs,L,p,M,C,s,X⟩:=h;obtain rfl:=Option.some.inj (hn.symm.trans M);obtain rfl:=Option.some.inj (hy.symm.trans C);rcases DataW.trod_slice ht X with ⟨_,hx⟩ | ⟨a,len,cap,el,rs,m,rfl,hcs,hx,_,hlc,_,hel,helem,hsp,_⟩
 ·cases hx
 have N:=congrArg Prod.fst hx;simp only [pairData,DataW.slice.injEq] at N;obtain⟨O,eR⟩:=N;have v:len=l.length:=by
  have:=congrArg List.length O;simp at this;omega
 have k:∀i,i<l.length->w.cell? (a.add (i * 2))=some (.int .i64 ((l.getD i (0,0)).1:Nat))/\w.cell? (a.add (i * 2+1))=some (.int .i64 ((l.getD i (0,0)).2:Nat)):=by
  intro i Q;have D:=helem i (by omega);rw [hc] at D;obtain⟨b,S⟩:∃b,el[i]?=some b:=⟨el[i]'(by omega),List.getElem?_eq_getElem (by omega)⟩;rw [S] at D;obtain⟨Y,E,F⟩:=Option.bind_eq_some_iff.1 D;obtain⟨Z,n,_,G,x,q,T⟩:=DataW.trod_struct he F;have r:b.1=.agg [.lit (.int .i64 ((l.getD i (0,0)).1:Nat)),.lit (.int .i64 ((l.getD i (0,0)).2:Nat))]:=by
   have:=congrArg (·[i]?) O;simp [S,Q,List.getD] at this;have e2:l.getD i (0,0)=l[i]:=by simp [List.getD,List.getElem?_eq_getElem Q]
   rw [e2];exact this.symm
  rw [hc] at x;obtain⟨_,_,y⟩:=World.cells?_some E
  match Y,x,Z,q with
  | [c0,c1],_,[y0,y1],_ =>
   have z:=T 0 f0 rfl;have B:=T 1 f1 rfl;rw [hf0.1,hf0.2] at z;rw [hf1.1,hf1.2] at B;replace z:DataW.trod _ P w 0 (fun _=>true) false n f0.type [c0]=some y0:=z;replace B:DataW.trod _ P w 0 (fun _=>true) false n f1.type [c1]=some y1:=B;obtain⟨z0,H,d0,_⟩:=DataW.trod_int h0 z;obtain⟨z1,I,d1,_⟩:=DataW.trod_int h1 B;rw [G] at r;simp only [List.map_cons,List.map_nil,DataW.agg.injEq,List.cons.injEq,and_true] at r;obtain⟨J,K⟩:=r;rw [d0] at J;rw [d1] at K;simp only [DataW.lit.injEq,Lit.int.injEq,true_and] at J K;replace H:c0=.int .i64 z0:=by simpa using H
   replace I:c1=.int .i64 z1:=by simpa using I
   have U:=y 0 (by simp);have V:=y 1 (by simp);rw [Go.Addr.add_add] at U V;refine⟨?_,?_⟩
   ·rw [<- J,<- H]; simpa using U
   ·rw [<- K,<- I]; simpa using V
 obtain⟨R,o,sR⟩:=a;refine⟨some ⟨R,o,sR⟩,cap,?_,fun _=>⟨_,rfl,fun j u hj=>?_⟩⟩
 ·rw [World.var?_cell M s 0,<- Array.getElem?_toList,hcs,v];rfl
 ·have a2:j<l.length * 2:=by
   have:=(List.getElem?_eq_some_iff.1 hj).1
   rwa [Yz] at this
  have d:=Z5 l (j / 2) (by omega);have f:=k (j / 2) (by omega);by_cases W:j % 2=0
  ·have e:j / 2 * 2=j:=by omega
   rw [e] at d f;rw [f.1,<- d.1,hj]
  ·have e:j / 2 * 2+1=j:=by omega
   rw [e] at d f;rw [f.2,<- d.2,hj]
theorem gOrd : Tryd.prog.globalNamed "portolan/inflate.order" = some 3 := by kernel_rfl
theorem tOrd:(Tryd.prog.globals[3]?).map (·.type)=some 87:=by kernel_rfl
theorem gLen : Tryd.prog.globalNamed "portolan/inflate.lengths" = some 5 := by kernel_rfl
theorem tLen:(Tryd.prog.globals[5]?).map (·.type)=some 223:=by kernel_rfl
theorem gAwy : Tryd.prog.globalNamed "portolan/inflate.away" = some 2 := by kernel_rfl
theorem tAwy:(Tryd.prog.globals[2]?).map (·.type)=some 223:=by kernel_rfl
def ordZ:List Int:=PI.orderT.map fun n:Nat=>(n:Int)
theorem Y5 {W : World} (h : laidMetH Tryd.prog [("portolan/inflate.order", Rows.laid_portolan_inflate_order), ("portolan/inflate.lengths", Rows.laid_portolan_inflate_lengths), ("portolan/inflate.away", Rows.laid_portolan_inflate_away)] W) : ∃ TL TA cl ca, Tabs TL TA cl ca W := by
 rw [MakeChecks.laidMetH_plain _ _ _ (by kernel_rfl)] at h;have hT:=Lib.tabIs_of_head (k:=.i64) (zs:=ordZ) gOrd tOrd Tryd.underlying87 Tryd.underlying3 (by kernel_rfl) (by kernel_rfl) h;have hl : VarReads Tryd.prog W "portolan/inflate.lengths" (pairData PI.lengthsT) := laidMet.reads h (by simp only [List.mem_cons]; exact .inr (.inl rfl))
 have ha : VarReads Tryd.prog W "portolan/inflate.away" (pairData PI.awayT) := laidMet.reads h (by simp only [List.mem_cons]; exact .inr (.inr (.inl rfl)))
 obtain⟨TL,cl,e1,e2⟩:=ZT gLen tLen Tryd.underlying223 Tryd.underlying245 (by kernel_rfl) Tryd.underlying3 Tryd.underlying3 ⟨rfl,by kernel_rfl⟩ ⟨rfl,by kernel_rfl⟩ (by decide) hl;obtain⟨TA,ca,e3,e4⟩:=ZT gAwy tAwy Tryd.underlying223 Tryd.underlying245 (by kernel_rfl) Tryd.underlying3 Tryd.underlying3 ⟨rfl,by kernel_rfl⟩ ⟨rfl,by kernel_rfl⟩ (by decide) ha;refine⟨TL,TA,cl,ca,e1,e2,e3,e4,fun i hi=>?_⟩;have:=hT.cell gOrd i (by simpa [ordZ,PI.orderT] using hi);rw [this];have:∀i,i<19->ordZ.getD i 0=((PI.orderT.getD i 0:Nat):Int):=by decide
 rw [this i hi]
end Go.Proofs.YteajimobgkempaaDoor

namespace Go.Proofs.YteajimobgkempaaDoor.inflateWrites
open Go.ChangeShapes Go.WideShapes Go.ChangeAt Go.RowKit Go.WideMaps Go.WideElems
open Go.ChangeMaps (open_string shut_string)

theorem own:ownKnob Tryd.prog.godebug=none:=by kernel_rfl
theorem laidOut:laidOutB Tryd.prog=true:=by kernel_rfl
def laidL : List (String × DataW Unit) := [("portolan/inflate.order", Rows.laid_portolan_inflate_order), ("portolan/inflate.lengths", Rows.laid_portolan_inflate_lengths), ("portolan/inflate.away", Rows.laid_portolan_inflate_away)]
theorem door_met (os:Os) (args:Array Value):laidMetH Tryd.prog laidL ((World.doorLaid Tryd.prog 4000 os).forCall (fun _ _=>0) ⟨#[],args,[]⟩).memory :=
 laidMetH_of_parts3 (fuel:=10) (laidMet_of_run' 10 (by kernel_rfl) (by kernel_rfl)) (by kernel_rfl) (by kernel_rfl)
theorem lifted (os:Os) (started:os.Started) (H:Type) (enc:TypeId × Value->H) :
  ReturnsInHanded {} Tryd.checked os 3 .any (fun w args=>(Rows.inflateWritesSpec.pre enc Tryd.prog Tryd.f3 [] false w args/\laidMetH Tryd.prog laidL w)/\sizedMet enc Tryd.prog Tryd.f3 (OpenSpec.ofChange Rows.inflateWritesSpec) false w args)
   (Rows.inflateWritesSpec.post enc Tryd.prog Tryd.f3 false true false false):=by
 refine returnsInHanded_of_change_and (C:=Tryd.checked) (X:=fun w _=>laidMetH Tryd.prog laidL w) (fun _ _ _ hh h=>h.of_heap hh) own started (by kernel_rfl) Tryd.func3
  (ChangeSpec.witness_shaped (enc:=enc) (C:=Tryd.checked) (os:=os) (X:=fun w _=>laidMetH Tryd.prog laidL w) false (World.doorLaid Tryd.prog 4000 os) #[.slice none 0 0,.slice none 0 0,.int .u16 0,.slice none 0 0,.int .u16 0] 8 rfl (World.shaped_of_RefB (by kernel_rfl) (by kernel_rfl)) (by kernel_rfl) (by kernel_rfl) (by kernel_rfl) (door_met os _)) ?_
 intro W base args ds gs A b K _ _ hL _;have a:∀(j:Nat) t v,Tryd.f3.params[j]?=some t->args[j]?=some v->Value.okWide Tryd.prog W .any base t v:=b;have B:=K;obtain⟨p,q,u,hV,rfl,a2,a4⟩:=K;have L:DataW.TrodAll enc Tryd.prog W 0 (fun _=>true) true Tryd.f3.params.toList args.toList ds p:=u;rw [Tryd.params3] at L a;obtain⟨M,a5,d0,a6,p0,q0,D,rfl,rfl,N,r0⟩:=trodAll_cons L;obtain⟨O,a7,d1,a8,p1,q1,rfl,rfl,rfl,P,r1⟩:=trodAll_cons r0;obtain⟨Q,a9,d2,b0,p2,q2,rfl,rfl,rfl,h2,r2⟩:=trodAll_cons r1;obtain⟨R,b1,d3,b2,p3,q3,rfl,rfl,rfl,S,r3⟩:=trodAll_cons r2;obtain⟨T,b4,d4,b5,p4,q4,rfl,rfl,rfl,h4,r4⟩:=trodAll_cons r3;obtain⟨rfl,rfl,rfl⟩:=trodAll_nil r4;obtain rfl:args=#[M,O,Q,R,T]:=by cases args; simp_all
 obtain⟨rfl,rfl⟩:=trodVars_none hV;obtain⟨U,d,f,rfl⟩:=okWide_slice Tryd.underlying22 (a 0 22 M rfl rfl);have V:=N;have E:∀x ∈ p0,x.block<W.heap.size:=by obtain⟨m,o⟩:=V; exact DataW.trod_lt m _ _ _ o
 obtain⟨F,w0,l0,c0,m0,g0⟩:∃ps:List PartV,Rd W U (ps.flatMap PartV.cells)/\d=ps.length/\d<=f/\f<=maxLen/\∀p ∈ ps,p.Ok W:=by
  obtain⟨k,y⟩:=N;exact Yo 3 (by decide) PartV.cells (fun _=>rfl) (fun p=>p.Ok W) Tryd.underlying22 (by kernel_rfl) (Vp (eb:=0) (ec:=0) Tryd.underlying41 (by kernel_rfl) Tryd.underlying5 Tryd.underlying25 Tryd.underlying5 (by kernel_rfl) Tryd.underlying23 Tryd.underlying28 (by kernel_rfl) (by kernel_rfl) Tryd.underlying24) y
 obtain⟨Y,g,i,rfl⟩:=okWide_slice Tryd.underlying23 (a 1 23 O rfl rfl);have Z:=P;have G:∀x ∈ p1,x.block<W.heap.size:=by obtain⟨m,o⟩:=Z; exact DataW.trod_lt m _ _ _ o
 obtain⟨I,w1,l1,c1,m1,g1⟩:∃ps:List (Nat × Nat),Rd W Y (ps.flatMap fun c=>[.int .u16 c.1,.int .u16 c.2])/\g=ps.length/\g<=i/\i<=maxLen/\∀p ∈ ps,p.1<65536/\p.2<65536:=by
  obtain⟨k,y⟩:=P;exact Yo 2 (by decide) (fun c:Nat × Nat=>[.int .u16 c.1,.int .u16 c.2]) (fun _=>rfl) (fun p=>p.1<65536/\p.2<65536) Tryd.underlying23 (by kernel_rfl) (Wr Tryd.underlying28 (by kernel_rfl) Tryd.underlying24) y
 obtain⟨x2,rfl,rfl,rfl,r⟩:=open_int Tryd.underlying24 (a 2 24 Q rfl rfl) h2;obtain⟨n2,rfl⟩:=Int.eq_ofNat_of_zero_le (bounds_u16 r).1;have b6:=(bounds_u16 r).2;obtain⟨a3,z,n,rfl⟩:=okWide_slice Tryd.underlying25 (a 3 25 R rfl rfl);have k3:=S;have J:∀x ∈ p3,x.block<W.heap.size:=by obtain⟨m,o⟩:=k3; exact DataW.trod_lt m _ _ _ o
 obtain⟨z3,w3⟩:∃zs,IsRow .u8 W a3 z n zs:=by
  obtain⟨k,y⟩:=S;rcases open_ints Tryd.underlying25 Tryd.underlying5 (by kernel_rfl) y with ⟨hcs,_⟩ | ⟨x,l,c,zs,hcs,_,hl,o,hz,_,hcell,hwz⟩
  ·simp [Value.cells] at hcs;obtain⟨rfl,rfl,rfl⟩:=hcs;exact⟨[],.inl ⟨rfl,rfl,rfl,rfl⟩⟩
  ·simp [Value.cells] at hcs;obtain⟨rfl,rfl,rfl⟩:=hcs;exact⟨zs,.inr ⟨_,rfl,hl,o,by simpa using hz,hcell,hwz⟩⟩
 obtain⟨l3,rfl,b3⟩:=w3.byt;obtain⟨x4,rfl,rfl,rfl,s⟩:=open_int Tryd.underlying24 (a 4 24 T rfl rfl) h4;obtain⟨n4,rfl⟩:=Int.eq_ofNat_of_zero_le (bounds_u16 s).1;have b7:=(bounds_u16 s).2;clear u b;refine(W7 (Vt U Y a3 d f g i n F I l3 n2 n4 (Y5 hL) l0 c0 m0 w0 g0 l1 w1 g1 (by omega) (by omega) b3)).mono fun e W' ⟨he,bel⟩=>?_;subst he;exact⟨_,rfl,_,_,_,[],_,[],B,trodAll_mk1 (shut_bool Tryd.underlying4 _),(trodAll_cons_mk (Below.trod laidOut (by kernel_rfl) (of_decide_eq_true (by kernel_rfl)) V bel E) (trodAll_cons_mk (Below.trod laidOut (by kernel_rfl) (of_decide_eq_true (by kernel_rfl)) Z bel G) (trodAll_cons_mk (shut_int Tryd.underlying24 r) (trodAll_cons_mk (Below.trod laidOut (by kernel_rfl) (of_decide_eq_true (by kernel_rfl)) k3 bel J) (trodAll_cons_mk (shut_int Tryd.underlying24 s) trodAll_mk0))))),rfl,bel.frame _,fun h=>by cases h⟩

theorem over:Rows.inflateWritesRow.holds Tryd.pinned (OpenSpec.ofChange Rows.inflateWritesSpec) :=
 OpenClaim.holds_of_wide 3 Tryd.f3 rfl rfl rfl rfl rfl rfl rfl ⟨rfl,rfl,rfl,rfl,rfl⟩ rfl rfl rfl rfl rfl (by kernel_rfl) Tryd.func3 (by kernel_rfl)
  (of_decide_eq_true (by kernel_rfl)) (by unfold Func.isWrapper; first | (rw [if_pos (by decide +kernel)]; kernel_rfl) | (rw [if_neg (by decide +kernel)]; exact⟨rfl,rfl⟩))
  (fun os started H enc _=>lifted os started H enc)
theorem row_proved:Rows.InflateWritesSaid:=over
theorem proved:Rows.InflateWritesCardSaid :=
  Claim7.holds_tied_plain_at .later [] [.widerDeep, .widerDeep, .widerDeep] true (true, "b2b02eefa364347a91537108810746a155c4e13814576028c036a55b4b5db5ea") true
    row_proved (fun _ h=>by cases h) (by kernel_rfl) (fun _ h=>by cases h) inflateWrites_row_tie rfl ⟨rfl,rfl⟩ (by kernel_rfl) rfl
    (fun f fn hf hfn=>by
      obtain rfl : f = 3 := Option.some.inj ((show Tryd.prog.funcNamed "portolan/portolanlaw06.InflateWrites" = some 3 by kernel_rfl).symm.trans hf) |>.symm
      obtain rfl:fn=Tryd.f3:=(Option.some.inj (Tryd.func3.symm.trans hfn)).symm
      exact⟨by kernel_rfl,fun j t ht=>by
        rw [Tryd.params3] at ht
        have hm:t ∈ [22,23,24,25,24]:=by simpa using Array.mem_of_getElem? ht
        have hall:([22,23,24,25,24].all fun u=>!Tryd.prog.wantsStandIn u)=true:=by kernel_rfl
        exact(show Tryd.prog.wantsStandIn t=false by simpa using List.all_eq_true.1 hall t hm)⟩)
    (by kernel_rfl)
#print axioms proved
end Go.Proofs.YteajimobgkempaaDoor.inflateWrites

