/- A pack. -/
import Derived.Test.YteajimobgkempaaGreatDoorPk28
import Derived.Test.YteajimobgkempaaGreatDoorPk30
import Derived.Test.YteajimobgkempaaGreatDoorPk33
import Derived.Test.YteajimobgkempaaGreatDoorPk34
import Derived.Test.YteajimobgkempaaGreatDoorPk35
set_option linter.all false
set_option maxRecDepth 100000
set_option maxHeartbeats 8000000
namespace Go.Proofs.YteajimobgkempaaGreatDoor
variable {w0 w:World} {L:List Pr}
open Go.RowKit Go.Deep
namespace PD
theorem signs_len (b:Nat) (l:List Wd):(signsOf b l).length<=l.length:=by
 unfold signsOf;rw [List.length_map];exact List.length_filter_le _ _
theorem cnts_perm (m:Nat) (a b:List Nat) (h:∀i,a.count i=b.count i):PI.cnts m a=PI.cnts m b:=by unfold PI.cnts; simp only [h]
def ioL (F:List Nat):List Nat:=PI.orderT.map fun k=>F.getD k 0
theorem used_told (F:List Nat):∀n,n<=19->used (ioL F) 4 n=toldN F n:=by
 unfold ioL;intro n;induction n with
 | zero=>intro _; rfl
 | succ n ih =>
  intro h;unfold used toldN;have e:(PI.orderT.map fun k=>F.getD k 0).getD n 0=F.getD (PI.orderT.getD n 0) 0:=by
   have a:n<PI.orderT.length:=by show n<19; omega
   rw [List.getD_eq_getElem?_getD,List.getElem?_map,List.getElem?_eq_getElem a,List.getD_eq_getElem?_getD (l:=PI.orderT),List.getElem?_eq_getElem a];rfl
  rw [e,ih (by omega)]
theorem ioL_len (F:List Nat):(ioL F).length=19:=by unfold ioL; rw [List.length_map]; rfl
theorem ioL_get (F:List Nat) (i:Nat) (h:i<19):(ioL F).getD i 0=F.getD (PI.orderT.getD i 0) 0:=by
 have a:i<PI.orderT.length:=h;unfold ioL;rw [List.getD_eq_getElem?_getD,List.getElem?_map,List.getElem?_eq_getElem a,List.getD_eq_getElem?_getD (l:=PI.orderT),List.getElem?_eq_getElem a];rfl
theorem ioL_take (F:List Nat) (i:Nat) (h:i<19):(ioL F).take (i+1)=(ioL F).take i++[F.getD (PI.orderT.getD i 0) 0]:=by
 have a:i<(ioL F).length:=by rw [ioL_len]; exact h
 rw [List.take_succ_eq_append_getElem a,<- ioL_get F i h,List.getD_eq_getElem?_getD,List.getElem?_eq_getElem a];rfl
end PD
theorem bpA (Y:List PM.St) (b:List UInt8) (last:Bool):(BP.of Y b last).A=(PI.lensA (PD.toks Y)).take (PD.used (PI.lensA (PD.toks Y)) 257 (PI.lensA (PD.toks Y)).length):=by simp only [BP.of,PD.lenA,PD.cut]
theorem bpD (Y:List PM.St) (b:List UInt8) (last:Bool):(BP.of Y b last).D=(PI.lensB (PD.toks Y)).take (PD.used (PI.lensB (PD.toks Y)) 1 (PI.lensB (PD.toks Y)).length):=by simp only [BP.of,PD.lenB,PD.cut]
theorem bpR (Y:List PM.St) (b:List UInt8) (last:Bool):(BP.of Y b last).R=(PD.row ((BP.of Y b last).A++(BP.of Y b last).D)).map PD.rwd:=by simp only [BP.of,PD.rowY]
theorem bpF (Y:List PM.St) (b:List UInt8) (last:Bool):(BP.of Y b last).F=PL.lens (PI.cnts 19 ((BP.of Y b last).R.map fun t=>t.2.1)) 7:=by
 have e:((PD.rowY Y).map PD.rwd).map (fun t=>t.2.1)=(PD.rowY Y).map Prod.fst:=by rw [List.map_map]; exact List.map_congr_left fun t _=>rfl
 simp only [BP.of,PD.fst7,PI.firstOf];rw [e]
theorem bpW (Y:List PM.St) (b:List UInt8) (last:Bool):(BP.of Y b last).W=PD.words Y:=rfl
theorem U6 (p:BP) (a:Nat):p.lay 2 a=([p.last]++PBits.bitsOf 2 2)++(PBits.bitsOf (p.A.length - 257) 5++(PBits.bitsOf (p.D.length - 1) 5++(PBits.bitsOf (PD.told p.F - 4) 4++(PI.firstsW p.F (PI.orderT.take (PD.told p.F))++PD.layW p.F [] p.R)))++PD.layW p.A p.D p.W):=by
 unfold BP.lay BP.dyn;rw [if_neg (by decide),if_neg (by decide)]
theorem U7:∀i,i<19->PI.orderT.getD i 0<19:=by decide
theorem ordC:([.int .i64 16,.int .i64 17,.int .i64 18,.int .i64 0,.int .i64 8,.int .i64 7,.int .i64 9,.int .i64 6,.int .i64 10,.int .i64 5,.int .i64 11,.int .i64 4,.int .i64 12,.int .i64 3,.int .i64 13,.int .i64 2,.int .i64 14,.int .i64 1,.int .i64 15]:List Value)=cellsN PI.orderT:=rfl
theorem Us {l:List Nat} (h:∀x ∈ l,x<=7) (i:Nat):l.getD i 0<=7:=by
 rw [List.getD_eq_getElem?_getD];by_cases a:i<l.length
 ·rw [List.getElem?_eq_getElem a]; exact h _ (List.getElem_mem a)
 ·rw [List.getElem?_eq_none (by omega)]; exact Nat.zero_le _
theorem YF (l:List Nat):∀u ∈ cellsN l,u.oneCell'=true:=by
 intro u a;unfold cellsN at a;obtain⟨k,_,rfl⟩:=List.mem_map.1 a;rfl
theorem rdT {w:World} {A:Option Addr} {l:List PD.Wd} (h:Rd w A (cellsT l)) {i:Nat} (hi:i<l.length):∃ad,A=some ad/\w.cell? (ad.add (i * 3))=some (.int .i64 ((l.getD i (0,0,0,0)).2.1:Int))/\w.cell? ⟨(ad.add (i * 3)).block,(ad.add (i * 3)).off+1,none⟩=some (.int .i64 ((l.getD i (0,0,0,0)).2.2.1:Int))/\w.cell? ⟨(ad.add (i * 3)).block,(ad.add (i * 3)).off+2,none⟩=some (.int .i64 ((l.getD i (0,0,0,0)).2.2.2:Int)):=by
 have a:cellsT l≠[]:=by
  intro e;have:=congrArg List.length e;unfold cellsT at this;rw [Xm tlC 3 (fun _=>rfl)] at this;simp at this;omega
 obtain⟨ad,e,b⟩:=h a;have c:∀q,q<3->(cellsT l)[i * 3+q]?=(tlC (l.getD i (0,0,0,0)))[q]?:=fun q hq=>by
  obtain⟨p,d,f⟩:=Xl tlC 3 (fun _=>rfl) l i q hq hi;rw [List.getD_eq_getElem?_getD,d];exact f
 refine⟨ad,e,?_,?_,?_⟩
 ·have:=b (i * 3+0) _ (c 0 (by decide)); simpa using this
 ·have:=b (i * 3+1) _ (c 1 (by decide)); rw [<- Go.Addr.add_add] at this; exact this
 ·have:=b (i * 3+2) _ (c 2 (by decide)); rw [<- Go.Addr.add_add] at this; exact this
theorem XX (g:Nat) (B:List Bool) (at_:Nat) (V:Option Addr) (n c:Nat) (Y:List PM.St) (b:List UInt8) (last:Bool) (H:Sp w0 (Rw g B at_::L) w)
  (hn:n=Y.length) (hY:Ent L fun w=>StAt w V Y) (hc:n<=1000) (hst:∀s ∈ Y,PD.StOk s) (hok:(BP.of Y b last).Ok) (hB:B.length<=700000) :
  Calls Tryz.prog 64 #[.pointer (some ⟨g,0,none⟩),.slice V n c,.bool last] w fun e w'=>e=.returned (.tuple #[])/\Sp w0 (Rw g (B++PD.layD 2 Y b last B.length) at_::L) w':=by
 obtain⟨i0,hi,b5,b6,b7⟩:=info_parts infoInt;have HN:=hid hn;have HY:Hid (Ent L fun w=>StAt w V Y):=hid hY;have k8:=hid hst;have k9:=hid hok;have l0:=hid H;clear hn hY hst hok H;go_enter Tryz.func64,Tryz.ntmps64
 obtain⟨m2,g6⟩:∃n:Nat,n=286:=⟨_,rfl⟩;have a8:=hid g6;have c7:Hid ((286:Int)=(m2:Int)):=hid (by omega);clear g6;obtain⟨m3,g7⟩:∃n:Nat,n=30:=⟨_,rfl⟩;have a9:=hid g7;have c9:Hid ((30:Int)=(m3:Int)):=hid (by omega);clear g7;go_wp2_with (at_make; refine Zg rfl _ _ _ rfl 3 i0 (.int .i64 0) Tryz.underlying97 hi b5 b6 rfl m2 (by rw [<- c7.out]; rfl) (by rw [<- c7.out]; rfl) (by rw [b7,a8.out]; omega) (by rw [a8.out]; unfold maxLen; omega) l0.out ?_)
 intro ma w1 K1;clear l0;replace K1:=hid K1;go_wp2_with (at_make; refine Zg rfl _ _ _ rfl 3 i0 (.int .i64 0) Tryz.underlying97 hi b5 b6 rfl m3 (by rw [<- c9.out]; rfl) (by rw [<- c9.out]; rfl) (by rw [b7,a9.out]; omega) (by rw [a9.out]; unfold maxLen; omega) K1.out ?_)
 intro md w2 K2;clear K1;rw [Z9,Z9] at K2;obtain rfl:=a8.out;obtain rfl:=a9.out;clear a8 a9 c7 c9;replace K2:=K2.swap;have F:256<286:=by decide
 obtain⟨e6,c8,P,_,C,U,j⟩:=K2.rowSet (i:=256) F;injection P with e1 e2 e3
 injection e1 with e1
 subst e1;have o:=j (.int .i64 1);rw [Zz 286 256 [] 1 rfl] at o;replace C:w2.cell? ⟨ma.block,ma.off+256,none⟩=some (.int .i64 0):=by rw [Zm _ _ _ F] at C; exact C
 replace U:w2.frozen? ⟨ma.block,ma.off+256,none⟩=false:=U;have K:Hid (Sp w0 (Row 3 1 (.slice (some ma) 286 286) 286 (cntR 286 [256])::Row 3 1 (.slice (some md) 30 30) 30 (cntR 30 [])::Rw g B at_::L) (w2.setCell ⟨ma.block,ma.off+256,none⟩ (.int .i64 1))):=hid o;clear j o K2 e2 e3 F;go_wp2_with fail
 clear C U;replace K:=K.out;generalize World.setCell _ _ _=w3 at K ⊢;replace K:=hid K;go_loopw [8] (fun iv wr=>∃(i:Nat) (SA SD:List Nat),iv=.int .i64 i/\i<=n/\SA=256::PD.signsOf 0 (PD.wds (Y.take i))/\SD=PD.signsOf 1 (PD.wds (Y.take i))/\SA.length<=2000000/\SD.length<=2000000/\Sp w0 (Row 3 1 (.slice (some ma) 286 286) 286 (cntR 286 SA)::Row 3 1 (.slice (some md) 30 30) 30 (cntR 30 SD)::Rw g B at_::L) wr) (fun iv _=>n - (intOf iv).toNat)
 case atStart=>exact⟨0,[256],[],rfl,Nat.zero_le _,rfl,rfl,by decide,by decide,K.out⟩
 case round =>
  clear K;obtain⟨i,SA,SD,rfl,e7,b8,c0,u0,p6,d⟩:=hrel;by_cases I:i<n
  ·have k1:(i:Int)<(n:Int):=by omega
   have p:i<Y.length:=by rw [<- HN.out]; exact I
   have a0:256::PD.signsOf 0 (PD.wds (Y.take (i+1)))=SA++PD.signsOf 0 (PD.wd Y[i]):=by rw [PD.wds_takeR p,PD.signsOf_app,b8]; rfl
   have a1:PD.signsOf 1 (PD.wds (Y.take (i+1)))=SD++PD.signsOf 1 (PD.wd Y[i]):=by rw [PD.wds_takeR p,PD.signsOf_app,c0]
   have i6:=PD.wds_len (Y.take (i+1));rw [List.length_take] at i6;have g8:=PD.signs_len 0 (PD.wds (Y.take (i+1)));have g9:=PD.signs_len 1 (PD.wds (Y.take (i+1)));have e8:=k8.out _ (List.getElem_mem p);obtain⟨ad,rfl,W,X,T⟩:=HY.out _ _ (d.pick 3 []) i p;obtain⟨⟨x,y,z⟩,f0⟩:∃s,Y[i]=s:=⟨_,rfl⟩;rw [f0] at W X T a0 a1 e8;simp only at W X T;by_cases hx:x=0
   ·have y0:(x:Int)=0:=by omega
    obtain⟨s,f1⟩:=exq z.toNat;rw [f1] at T;have u1:s<256:=by rw [<- f1]; exact UInt8.toNat_lt z
    have hw:PD.wd (x,y,z)=[(0,s,0,0)]:=by unfold PD.wd; rw [if_pos hx,f1]
    rw [hw] at a0 a1;have a2:256::PD.signsOf 0 (PD.wds (Y.take (i+1)))=SA++[s]:=a0;have c3:PD.signsOf 1 (PD.wds (Y.take (i+1)))=SD:=by rw [a1]; exact List.append_nil _
    have F:s<286:=by omega
    have k2:(s:Int)<286:=by omega
    have i7:=hid a2;have i8:=hid c3;have Z:(SA++[s]).length<=2000000:=by rw [<- a2,List.length_cons]; omega
    have c4:=hid Z;obtain⟨e6,c8,P,_,C,U,j⟩:=d.rowSet (i:=s) F;injection P with e1 e2 e3
    injection e1 with e1
    subst e1;rw [Zm _ _ _ F] at C;obtain⟨q0,G⟩:=exq ((SA).count s);rw [G] at C;have b0:q0<=2000000:=by
     have:=List.count_le_length (a:=s) (l:=SA);omega
    have o:=j (.int .i64 ((q0:Int)+1));rw [Zz 286 s (SA) ((q0:Int)+1) (by rw [G])] at o;have E:=hid o;clear j o G e2 e3;clear a0 a1 hw f0 e8 b8 c0 a2 c3 Z d g8 g9 i6 f1;go_wp2_with fail
    go_roundw
    case rel=>exact⟨i+1,SA++[s],SD,by go_num,by omega,i7.out.symm,i8.out.symm,c4.out,p6,E.out⟩
    case measure=>first | (simp [intOf]; omega) | simp [intOf]
   ·have y0:¬ (x:Int)=0:=by omega
    obtain⟨c5,a3,i9,j0⟩:=e8.resolve_left hx;simp only at c5 a3 i9 j0;have hL:=PD.long_of c5 a3;have f2:=PD.far_of i9 j0;have a4:=PI.longS_lt x c5 a3;have p7:=PI.farS_lt y i9 j0;have hw:PD.wd (x,y,z)=[(0,257+(PI.longS x).1,(PI.longS x).2.1,(PI.longS x).2.2),(1,(PI.farS y).1,(PI.farS y).2.1,(PI.farS y).2.2)]:=by unfold PD.wd; rw [if_neg hx]
    rw [hw] at a0 a1;obtain⟨s,j1⟩:=exq (257+(PI.longS x).1);obtain⟨t,j2⟩:=exq ((PI.farS y).1);have a2:256::PD.signsOf 0 (PD.wds (Y.take (i+1)))=SA++[s]:=by rw [a0,<- j1]; rfl
    have c3:PD.signsOf 1 (PD.wds (Y.take (i+1)))=SD++[t]:=by rw [a1,<- j2]; rfl
    have F:s<286:=by omega
    have l1:t<30:=by omega
    rw [j1] at hL;rw [j2] at f2;obtain⟨q1,l2⟩:=exq ((PI.longS x).2.1);obtain⟨r1,l3⟩:=exq ((PI.longS x).2.2);obtain⟨q2,l4⟩:=exq ((PI.farS y).2.1);obtain⟨r2,l5⟩:=exq ((PI.farS y).2.2);rw [l2,l3] at hL;rw [l4,l5] at f2;have Q:=hid hL;have p8:=hid f2;have k2:(s:Int)<286:=by omega
    have k3:(t:Int)<30:=by omega
    have i7:=hid a2;have i8:=hid c3;have p9:=hid f0;have q3:=hid l1;have Z:(SA++[s]).length<=2000000:=by rw [<- a2,List.length_cons]; omega
    have h0:(SD++[t]).length<=2000000:=by rw [<- c3]; omega
    have c4:=hid (And.intro Z h0);clear a0 a1 hw f0 e8 b8 c0 a2 c3 Z h0 g8 g9 i6 j1 j2 hL f2 a4 p7 l2 l3 l4 l5 l1;have f:=hid (Y9 (x:Int) d);rw [Q.out] at f;clear d;go_wp2_with fail
    refine f.out.mono ?_;rintro _ w9 ⟨rfl,d⟩;clear f W X T;obtain⟨u2,e9,W,X,T⟩:=HY.out _ _ (d.pick 3 []) i p;injection e9 with e9
    subst e9;rw [p9.out] at W X T;simp only at W X T;have f:=hid (XQ (y:Int) d);rw [p8.out] at f;clear d;go_wp2_with fail
    refine f.out.mono ?_;rintro _ w9 ⟨rfl,d⟩;clear f W X T;obtain⟨e6,c8,P,_,C,U,j⟩:=d.rowSet (i:=s) F;injection P with e1 e2 e3
    injection e1 with e1
    subst e1;rw [Zm _ _ _ F] at C;obtain⟨q0,G⟩:=exq ((SA).count s);rw [G] at C;have b0:q0<=2000000:=by
     have:=List.count_le_length (a:=s) (l:=SA);omega
    have o:=j (.int .i64 ((q0:Int)+1));rw [Zz 286 s (SA) ((q0:Int)+1) (by rw [G])] at o;have E:=hid o;clear j o G e2 e3;clear d;go_upto_region 11 with (fail)
    clear C U k2 b0;replace E:=E.out.swap;generalize World.setCell _ _ _=w7 at E ⊢;have d:=E;have F:=q3.out;clear E
    rename_i q0'
    clear q0';obtain⟨e6,c8,P,_,C,U,j⟩:=d.rowSet (i:=t) F;injection P with e1 e2 e3
    injection e1 with e1
    subst e1;rw [Zm _ _ _ F] at C;obtain⟨q0,G⟩:=exq ((SD).count t);rw [G] at C;have b0:q0<=2000000:=by
     have:=List.count_le_length (a:=t) (l:=SD);omega
    have o:=j (.int .i64 ((q0:Int)+1));rw [Zz 30 t (SD) ((q0:Int)+1) (by rw [G])] at o;have E:=hid o;clear j o G e2 e3;clear d;go_wp2_with fail
    go_roundw
    case rel=>exact⟨i+1,SA++[s],SD++[t],by go_num,by omega,i7.out.symm,i8.out.symm,c4.out.1,c4.out.2,E.out.swap⟩
    case measure=>first | (simp [intOf]; omega) | simp [intOf]
  ·have k1:¬ (i:Int)<(n:Int):=by omega
   obtain rfl:n=i:=by omega
   have e:Y.take n=Y:=List.take_of_length_le (by rw [<- HN.out]; exact Nat.le_refl _);rw [e] at b8 c0;have l6:PI.cnts 286 SA=PI.cnts 286 (PI.symsOf (PD.toks Y)):=by
    rw [<- PD.signs0];refine PD.cnts_perm _ _ _ fun i=>?_;unfold PD.words;rw [b8,PD.signsOf_app,List.count_append,List.count_cons];show _=_+List.count i [256];rw [List.count_cons,List.count_nil,Nat.zero_add]
   have l7:PI.cnts 30 SD=PI.cnts 30 (PI.farsOf (PD.toks Y)):=by
    rw [<- PD.signs1];refine PD.cnts_perm _ _ _ fun i=>?_;unfold PD.words;rw [c0,PD.signsOf_app,List.count_append];rfl
   have f3:PL.lens (PI.cnts 286 SA) 15=PI.lensA (PD.toks Y):=by rw [l6]; rfl
   have f4:PL.lens (PI.cnts 30 SD) 15=PI.lensB (PD.toks Y):=by rw [l7]; rfl
   clear l6 l7 b8 c0 e I e7;obtain⟨LA,b1⟩:=exq (PI.lensA (PD.toks Y));obtain⟨LB,b2⟩:=exq (PI.lensB (PD.toks Y));have h1:LA.length=286:=by rw [<- b1,<- f3,PL.lens_len,PI.cnts_len]
   have h2:LB.length=30:=by rw [<- b2,<- f4,PL.lens_len,PI.cnts_len]
   rw [b1] at f3;rw [b2] at f4;have l8:=hid f3;have l9:=hid f4;have h3:=hid b1;have h4:=hid b2;have Q:=hid (And.intro h1 h2);clear f3 f4 b1 b2 h1 h2;have f:=hid (Z5 (some ma) 286 286 (PI.cnts 286 SA) 15 d (PI.cnts_len _ _).symm (fun _ _ q=>by rw [ZQ,<- Yd]; exact rowRd q 0 rfl) (by decide) (by decide) (by decide) (cnts_le _ _ (by omega)) (Nat.le_trans (PI.items_le _) (by rw [PI.cnts_len]; decide)));rw [l8.out] at f;clear d;go_wp2_with fail
   refine f.out.mono ?_;rintro _ w9 ⟨v9,rfl,m⟩;clear f;obtain⟨VA,ca,rfl,m0,t3⟩:=Row.form m 0 rfl;replace m:=m.pick 4 [2,0,3];have f:=hid (Z5 (some md) 30 30 (PI.cnts 30 SD) 15 m (PI.cnts_len _ _).symm (fun _ _ q=>by rw [ZQ,<- Yd]; exact rowRd q 0 rfl) (by decide) (by decide) (by decide) (cnts_le _ _ (by omega)) (Nat.le_trans (PI.items_le _) (by rw [PI.cnts_len]; decide)));rw [l9.out] at f;clear m;go_wp2_with fail
   refine f.out.mono ?_;rintro _ w9 ⟨v9,rfl,m⟩;clear f;obtain⟨VB,cb,rfl,m1,t4⟩:=Row.form m 0 rfl;replace m:=m.pick 4 [2,0,3];have m4:Hid (Ent (Row 3 1 (.slice VA 286 ca) 286 (cellsN LA)::Row 3 1 (.slice VB 30 cb) 30 (cellsN LB)::Rw g B at_::L) fun w=>Rd w VA (cellsN LA)):=hid fun _ _ q=>rowRd q 0 rfl;have m5:Hid (Ent (Row 3 1 (.slice VA 286 ca) 286 (cellsN LA)::Row 3 1 (.slice VB 30 cb) 30 (cellsN LB)::Rw g B at_::L) fun w=>Rd w VB (cellsN LB)):=hid fun _ _ q=>rowRd q 1 rfl;have f:=hid (Xg VA 286 ca LA 257 m m4.out Q.out.1.symm (by decide) m0 (by decide));obtain⟨na,f5⟩:=exq (PD.used LA 257 286);obtain⟨nd,f6⟩:=exq (PD.used LB 1 30);rw [f5] at f;clear m;go_wp2_with fail
   refine f.out.mono ?_;rintro _ w9 ⟨rfl,m⟩;clear f;have f:=hid (Xg VB 30 cb LB 1 m m5.out Q.out.2.symm (by decide) m1 (by decide));rw [f6] at f;clear m;go_wp2_with fail
   refine f.out.mono ?_;rintro _ w9 ⟨rfl,m⟩;clear f;obtain⟨o1,o2,o3,o4,o5,o6,o7,o8,o9,j3,j4,f7,d0,_,_,_,_⟩:=k9.out;obtain⟨MA,d1⟩:=exq ((BP.of Y b last).A);obtain⟨MD,d2⟩:=exq ((BP.of Y b last).D);obtain⟨FF,f8⟩:=exq ((BP.of Y b last).F);obtain⟨RR,a5⟩:=exq ((BP.of Y b last).R);rw [d1] at o1 o2 o5 o7 d0;rw [d2] at o3 o4 o6 o8 d0;rw [f8] at o9 j3 j4 f7;rw [a5] at f7;have b3:LA.take na=MA:=by rw [<- d1,bpA,h3.out,Q.out.1,f5]
   have b4:LB.take nd=MD:=by rw [<- d2,bpD,h4.out,Q.out.2,f6]
   have d3:na=MA.length:=by rw [<- b3,List.length_take,Q.out.1,<- f5]; have:=PD.used_le LA 257 286; omega
   have d4:nd=MD.length:=by rw [<- b4,List.length_take,Q.out.2,<- f6]; have:=PD.used_le LB 1 30; omega
   have t5:257<=na/\na<=286:=by omega
   have t6:1<=nd/\nd<=30:=by omega
   have q4:Hid (Ent (Row 3 1 (.slice VA 286 ca) 286 (cellsN LA)::Row 3 1 (.slice VB 30 cb) 30 (cellsN LB)::Rw g B at_::L) fun w=>Rd w VA (cellsN MA)):=hid fun _ _ q=>by rw [<- b3,<- Zy]; exact(rowRd q 0 rfl).take na
   have q5:Hid (Ent (Row 3 1 (.slice VA 286 ca) 286 (cellsN LA)::Row 3 1 (.slice VB 30 cb) 30 (cellsN LB)::Rw g B at_::L) fun w=>Rd w VB (cellsN MD)):=hid fun _ _ q=>by rw [<- b4,<- Zy]; exact(rowRd q 1 rfl).take nd
   have j5:=hid d3;have m6:=hid b3;have m7:=hid b4;have j6:=hid d4;have j7:=hid (And.intro o5 o7);have j8:=hid (And.intro o6 o8);have O:=hid (And.intro o9 (And.intro j3 j4));have j9:=hid f7;have m8:∀t ∈ RR,t.1=0:=by
    rw [<- a5,bpR];intro t ht;obtain⟨q,_,rfl⟩:=List.mem_map.1 ht;rfl
   have d5:=hid m8;rw [bpW] at d0;have q6:=hid d0;have q7:RR.length<=1000:=by rw [<- a5]; exact k9.out.hRl
   have h5:(PD.row (MA++MD)).map PD.rwd=RR:=by rw [<- a5,bpR,d1,d2]
   have h6:PL.lens (PI.cnts 19 (RR.map fun t=>t.2.1)) 7=FF:=by rw [<- f8,bpF,a5]
   have h7:PD.layD 2 Y b last B.length=([last]++PBits.bitsOf 2 2)++(PBits.bitsOf (na - 257) 5++(PBits.bitsOf (nd - 1) 5++(PBits.bitsOf (PD.told FF - 4) 4++(PI.firstsW FF (PI.orderT.take (PD.told FF))++PD.layW FF [] RR)))++PD.layW MA MD (PD.words Y)):=by
    rw [<- UA Y b last 2 B.length,U6,d1,d2,f8,a5,bpW,d3,d4];rfl
   have h8:=hid h5;have h9:=hid h6;have m9:=hid h7;have n0:∀x ∈ MA++MD,x<=15:=fun x hx=>(List.mem_append.1 hx).elim (j7.out.1 x) (j8.out.1 x);have i1:=hid n0;clear m8 f5 f6 o1 o2 o3 o4 o5 o6 o7 o8 o9 j3 j4 f7 d0 d1 d2 f8 a5 b3 b4 d3 d4 h5 h6 h7 n0 m4 m5 l8 l9 h3 h4 Q;have n1:=hid (q4.out _ _ m);have KN:=hid (m.rowNil 3 1);clear m;go_wp2_with (at_builtin; refine wpList_append_sp rfl _ _ 97 rfl 3 i0 (.int .i64 0) 1 8 Tryz.underlying97 hi b5 b6 b7 rfl (by decide) (.slice none 0 0) 0 [] rfl KN.out VA na ca (cellsN MA) rfl (by rw [Nat.mul_one,j5.out]; simp [cellsN]) n1.out (YF _) (by unfold maxLen; omega) (by omega) ?_)
   intro v4 w4 K4 _;have d5:=hid (q5.out _ _ K4.tail);replace K4:=hid K4;obtain⟨VR,cr,rfl,_,_⟩:=Row.form K4.out 0 rfl;clear KN n1;go_wp2_with (at_builtin; refine wpList_append_sp rfl _ _ 97 rfl 3 i0 (.int .i64 0) 1 8 Tryz.underlying97 hi b5 b6 b7 rfl (by decide) _ _ _ rfl K4.out VB nd cb (cellsN MD) rfl (by rw [Nat.mul_one,j6.out]; simp [cellsN]) d5.out (YF _) (by unfold maxLen; omega) (by omega) ?_)
   intro v5 w5 K5 _;clear K4 d5;have e9:cellsN MA++cellsN MD=cellsN (MA++MD):=(Zh _ _).symm;rw [e9] at K5;obtain⟨nr,k0⟩:=exq (na+nd);rw [k0] at K5;obtain⟨VS,cs,rfl,_,_⟩:=Row.form K5 0 rfl;have i2:nr=(MA++MD).length:=by rw [List.length_append,<- j5.out,<- j6.out,k0]
   have f:=hid (rrows_ok VS nr cs (MA++MD) K5 (fun _ _ q=>rowRd q 0 rfl) i2 (by omega) i1.out);rw [h8.out] at f;clear K5 e9 k0 i2 i1 h8;go_wp2_with fail
   refine f.out.mono ?_;rintro _ w9 ⟨v9,rfl,m⟩;clear f;obtain⟨rl,k4⟩:=exq RR.length;rw [k4] at m q7;have d6:=hid k4;clear k4;obtain⟨VT,ct,rfl,_,_⟩:=Row.form m 0 rfl;have K6:=hid (m.pick 5 [0,2,3,4]);clear m;obtain⟨n2,d7⟩:∃n:Nat,n=19:=⟨_,rfl⟩;have R:=hid d7;have a6:Hid ((19:Int)=(n2:Int)):=hid (by omega);clear d7;go_wp2_with (at_make; refine Zg rfl _ _ _ rfl 3 i0 (.int .i64 0) Tryz.underlying97 hi b5 b6 rfl n2 (by rw [<- a6.out]; rfl) (by rw [<- a6.out]; rfl) (by rw [b7,R.out]; omega) (by rw [R.out]; unfold maxLen; omega) K6.out ?_)
   intro mc w6 K7;clear K6;rw [Z9] at K7;obtain rfl:=R.out;clear R a6;have K:=hid K7;clear K7;go_wp2_with fail
   go_loopw [22] (fun iv wr=>∃(i:Nat) (SR:List Nat),iv=.int .i64 i/\i<=rl/\SR=(RR.take i).map (fun t=>t.2.1)/\SR.length<=1000/\Sp w0 (Row 3 1 (.slice (some mc) 19 19) 19 (cntR 19 SR)::Row 156 3 (.slice VT rl ct) rl (cellsT RR)::Row 3 1 (.slice VA 286 ca) 286 (cellsN LA)::Row 3 1 (.slice VB 30 cb) 30 (cellsN LB)::Rw g B at_::L) wr) (fun iv _=>rl - (intOf iv).toNat)
   case atStart=>exact⟨0,[],rfl,Nat.zero_le _,rfl,by decide,K.out⟩
   case round =>
    clear K;obtain⟨i,SR,rfl,e7,f9,u3,d⟩:=hrel;by_cases I:i<rl
    ·have k1:(i:Int)<(rl:Int):=by omega
     have p:i<RR.length:=by rw [d6.out]; exact I
     have J:(RR.take (i+1)).map (fun t=>t.2.1)=SR++[(RR.getD i (0,0,0,0)).2.1]:=by
      rw [List.take_succ_eq_append_getElem p,List.map_append,f9,List.getD_eq_getElem?_getD,List.getElem?_eq_getElem p];rfl
     have N:RR.getD i (0,0,0,0) ∈ RR:=by rw [List.getD_eq_getElem?_getD,List.getElem?_eq_getElem p]; exact List.getElem_mem p
     have a4:=(j9.out _ N).2.1.1;have c6:(RR.getD i (0,0,0,0)).1=0:=d5.out _ N;rw [if_pos c6] at a4;rw [O.out.1] at a4;obtain⟨q8,rfl,W,X,T⟩:=rdT (rowRd d 1 rfl) p;obtain⟨s,hs⟩:=exq ((RR.getD i (0,0,0,0)).2.1);rw [hs] at W a4 J;have F:s<19:=a4;have k2:(s:Int)<19:=by omega
     have d8:=hid J;have Z:(SR++[s]).length<=1000:=by rw [<- J,List.length_map,List.length_take]; omega
     have c4:=hid Z;obtain⟨e6,c8,P,_,C,U,j⟩:=d.rowSet (i:=s) F;injection P with e1 e2 e3
     injection e1 with e1
     subst e1;rw [Zm _ _ _ F] at C;obtain⟨q0,G⟩:=exq ((SR).count s);rw [G] at C;have b0:q0<=2000000:=by
      have:=List.count_le_length (a:=s) (l:=SR);omega
     have o:=j (.int .i64 ((q0:Int)+1));rw [Zz 19 s (SR) ((q0:Int)+1) (by rw [G])] at o;have E:=hid o;clear j o G e2 e3;clear d J N a4 hs Z f9 X T c6;go_wp2_with fail
     go_roundw
     case rel=>exact⟨i+1,SR++[s],by go_num,by omega,d8.out.symm,c4.out,E.out⟩
     case measure=>first | (simp [intOf]; omega) | simp [intOf]
    ·have k1:¬ (i:Int)<(rl:Int):=by omega
     obtain rfl:rl=i:=by omega
     have i3:PL.lens (PI.cnts 19 SR) 7=FF:=by rw [f9,List.take_of_length_le (by rw [d6.out]; exact Nat.le_refl _)]; exact h9.out
     have n3:=hid i3;clear f9 i3 I h9 e7;have f:=hid (Z5 (some mc) 19 19 (PI.cnts 19 SR) 7 d (PI.cnts_len _ _).symm (fun _ _ q=>by rw [ZQ,<- Yd]; exact rowRd q 0 rfl) (by decide) (by decide) (by decide) (cnts_le _ _ (by omega)) (Nat.le_trans (PI.items_le _) (by rw [PI.cnts_len]; decide)));rw [n3.out] at f;clear d;go_wp2_with fail
     refine f.out.mono ?_;rintro _ w9 ⟨v9,rfl,m⟩;clear f;clear n3;obtain⟨VF,cf,rfl,t7,t8⟩:=Row.form m 0 rfl;have k5:FF.length=19:=O.out.1;obtain⟨af,rfl,_⟩:=rdN (i:=0) (rowRd m 0 rfl) (by rw [k5]; decide);have KO:=hid (((m.pick 2 [0]).newBk [.int .i64 16,.int .i64 17,.int .i64 18,.int .i64 0,.int .i64 8,.int .i64 7,.int .i64 9,.int .i64 6,.int .i64 10,.int .i64 5,.int .i64 11,.int .i64 4,.int .i64 12,.int .i64 3,.int .i64 13,.int .i64 2,.int .i64 14,.int .i64 1,.int .i64 15] 3).bkRow 1 19 rfl (by decide));clear m k1;go_upto_region 27 with (fail)
     replace KO:=KO.out;generalize World.alloc _ _=w7 at KO ⊢;generalize World.heap _=hp at KO ⊢;generalize Array.size hp=go at KO ⊢;obtain⟨q9,i4⟩:=exq ((⟨go,0,none⟩:Addr));rw [i4] at KO ⊢;rw [ordC] at KO;have K:=hid (KO.rowNil 3 1);clear KO i4;go_wp2_with fail
     go_loopw [26,27] (fun ov iv wr=>∃i:Nat,iv=.int .i64 i/\i<=19/\Sp w0 (Row 3 1 ov i (cellsN ((PD.ioL FF).take i))::Row 3 1 (.slice (some q9) 19 19) 19 (cellsN PI.orderT)::Row 3 1 (.slice (some af) 19 cf) 19 (cellsN FF)::Row 156 3 (.slice VT rl ct) rl (cellsT RR)::Row 3 1 (.slice VA 286 ca) 286 (cellsN LA)::Row 3 1 (.slice VB 30 cb) 30 (cellsN LB)::Rw g B at_::L) wr) (fun _ iv _=>19 - (intOf iv).toNat)
     case atStart=>exact⟨0,rfl,Nat.zero_le _,K.out⟩
     case round =>
      clear K;obtain⟨i,rfl,n4,d⟩:=hrel;by_cases I:i<19
      ·have k1:(i:Int)<19:=by omega
       have g0:i<PI.orderT.length:=I;obtain⟨k,hk⟩:=exq (PI.orderT.getD i 0);have n5:k<19:=by rw [<- hk]; exact U7 i I
       have k2:(k:Int)<19:=by omega
       have c1:=rdN' (i:=i) (rowRd d 1 rfl) g0;rw [hk] at c1;have c2:=rdN' (i:=k) (rowRd d 2 rfl) (by rw [k5]; exact n5);obtain⟨v,hv⟩:=exq (FF.getD k 0);rw [hv] at c2;have J:(PD.ioL FF).take (i+1)=(PD.ioL FF).take i++[v]:=by rw [PD.ioL_take FF i I,hk,hv]
       have d8:=hid J;obtain⟨VI,ci,rfl,_,_⟩:=Row.form d 0 rfl;have H3:=d.newBk [.int .i64 v] 3;have n6:=hid (Rd.of_blk (H3.blk 0 rfl));have n7:=hid (H3.pick 2 [1]);clear d H3 J hk hv;go_wp2_with (at_builtin; refine wpList_append_sp rfl _ _ 97 rfl 3 i0 (.int .i64 0) 1 8 Tryz.underlying97 hi b5 b6 b7 rfl (by decide) _ i _ rfl n7.out (some ⟨_,0,none⟩) 1 1 [.int .i64 v] rfl rfl n6.out (by intro u hu; simp only [List.mem_singleton] at hu; subst hu; rfl) (by unfold maxLen; omega) (by omega) ?_)
       intro v4 w4 H4 _;have K:=hid H4;clear n7 n6 H4;go_wp2_with fail
       go_roundw
       case rel =>
        refine⟨i+1,by go_num,by omega,?_⟩;rw [d8.out,Zh];exact K.out
       case measure=>first | (simp [intOf]; omega) | simp [intOf]
      ·have k1:¬ (i:Int)<19:=by omega
       obtain rfl:i=19:=by omega
       rw [List.take_of_length_le (show(PD.ioL FF).length<=19 by unfold PD.ioL; rw [List.length_map]; decide)] at d;obtain⟨IQ9,d9⟩:=exq (PD.ioL FF);have e0:IQ9.length=19:=by rw [<- d9]; unfold PD.ioL; rw [List.length_map]; rfl
       have a7:PD.used IQ9 4 19=PD.told FF:=by rw [<- d9]; exact PD.used_told FF 19 (Nat.le_refl _)
       have i5:∀i,i<19->IQ9.getD i 0=FF.getD (PI.orderT.getD i 0) 0:=fun i h=>by rw [<- d9]; exact PD.ioL_get FF i h
       have r0:=PD.told_ok FF;rw [d9] at d;obtain⟨VI,ci,rfl,n8,_⟩:=Row.form d 0 rfl;obtain⟨tc,k6⟩:=exq (PD.told FF);rw [k6] at a7 r0;have n9:=hid i5;have o0:=hid e0;have r3:=hid k6;have f:=hid (Xg VI 19 ci IQ9 4 d (fun _ _ q=>rowRd q 0 rfl) e0.symm (by decide) n8 (by decide));rw [a7] at f;clear d d9 e0 a7 i5 k6 I n4;go_wp2_with fail
       refine f.out.mono ?_;rintro _ w9 ⟨rfl,m⟩;clear f k1;have f:=hid (Xf g B at_ last 2 (m.pick 7 [6,0,2,3,4,5]) (by decide) (by omega));obtain⟨B1,g1⟩:=exq (B++([last]++PBits.bitsOf 2 2));have u4:B1.length=B.length+3:=by rw [<- g1,List.length_append,List.length_append,PBits.bitsOf_length]; rfl
       rw [g1] at f;have r4:=hid g1;clear m g1;go_wp2_with fail
       refine f.out.mono ?_;rintro _ w9 ⟨rfl,m⟩;clear f;obtain⟨x1,p3⟩:=exq (na - 257);have r5:(na:Int) - 257=(x1:Int):=by omega
       have r6:x1<2 ^ 5:=by omega
       have u5:x1<=40:=by omega
       have r7:=hid p3;have f:=hid (ZL g B1 at_ x1 5 m (by decide) r6 (by omega));obtain⟨B2,g2⟩:=exq (B1++PBits.bitsOf x1 5);have u6:B2.length=B1.length+5:=by rw [<- g2,List.length_append,PBits.bitsOf_length]
       rw [g2] at f;have r8:=hid g2;clear m g2 p3;go_wp2_with fail
       refine f.out.mono ?_;rintro _ w9 ⟨rfl,m⟩;clear f r5;obtain⟨x2,p4⟩:=exq (nd - 1);have r9:(nd:Int) - 1=(x2:Int):=by omega
       have s0:x2<2 ^ 5:=by omega
       have u7:x2<=40:=by omega
       have s1:=hid p4;have f:=hid (ZL g B2 at_ x2 5 m (by decide) s0 (by omega));obtain⟨B3,g3⟩:=exq (B2++PBits.bitsOf x2 5);have u8:B3.length=B2.length+5:=by rw [<- g3,List.length_append,PBits.bitsOf_length]
       rw [g3] at f;have s2:=hid g3;clear m g3 p4;go_wp2_with fail
       refine f.out.mono ?_;rintro _ w9 ⟨rfl,m⟩;clear f r9;obtain⟨x3,c5⟩:=exq (tc - 4);have s3:(tc:Int) - 4=(x3:Int):=by omega
       have s4:x3<2 ^ 4:=by omega
       have u9:x3<=40:=by omega
       have s5:=hid c5;have f:=hid (ZL g B3 at_ x3 4 m (by decide) s4 (by omega));obtain⟨B4,g4⟩:=exq (B3++PBits.bitsOf x3 4);have v0:B4.length=B3.length+4:=by rw [<- g4,List.length_append,PBits.bitsOf_length]
       rw [g4] at f;have s6:=hid g4;clear m g4 c5;go_wp2_with fail
       refine f.out.mono ?_;rintro _ w9 ⟨rfl,m⟩;clear f s3;have K:=hid m;clear m;go_wp2_with fail
       go_loopw [28] (fun iv wr=>∃i:Nat,iv=.int .i64 i/\i<=tc/\Sp w0 (Rw g (B4++PI.firstsW FF (PI.orderT.take i)) at_::Row 3 1 (.slice VI 19 ci) 19 (cellsN IQ9)::Row 3 1 (.slice (some af) 19 cf) 19 (cellsN FF)::Row 156 3 (.slice VT rl ct) rl (cellsT RR)::Row 3 1 (.slice VA 286 ca) 286 (cellsN LA)::Row 3 1 (.slice VB 30 cb) 30 (cellsN LB)::L) wr) (fun iv _=>tc - (intOf iv).toNat)
       case atStart=>exact⟨0,rfl,Nat.zero_le _,by rw [List.take_zero]; show Sp w0 (Rw g (B4++[]) at_::_) _; rw [List.append_nil]; exact K.out⟩
       case round =>
        clear K;obtain⟨i,rfl,hit,d⟩:=hrel;have s7:(PI.firstsW FF (PI.orderT.take i)).length<=60:=by rw [PD.firstsW_len,List.length_take]; omega
        by_cases I:i<tc
        ·have k1:(i:Int)<(tc:Int):=by omega
         have g0:i<PI.orderT.length:=by show i<19; omega
         obtain⟨ai,rfl,c1⟩:=rdN (i:=i) (rowRd d 1 rfl) (by rw [o0.out]; omega);rw [n9.out i (by omega)] at c1;obtain⟨v,hv⟩:=exq (FF.getD (PI.orderT.getD i 0) 0);rw [hv] at c1;have v1:v<=7:=by rw [<- hv]; exact Us O.out.2.1 _
         have J:B4++PI.firstsW FF (PI.orderT.take (i+1))=B4++PI.firstsW FF (PI.orderT.take i)++PBits.bitsOf v 3:=by
          rw [List.take_succ_eq_append_getElem g0,List.append_assoc];unfold PI.firstsW;rw [List.flatMap_append];rw [List.getD_eq_getElem?_getD (l:=PI.orderT),List.getElem?_eq_getElem g0] at hv;show _++(_++(PBits.bitsOf (FF.getD PI.orderT[i] 0) 3++[]))=_;rw [show FF.getD PI.orderT[i] 0=v from hv,List.append_nil]
         have d8:=hid J;have f:=hid (ZL g (B4++PI.firstsW FF (PI.orderT.take i)) at_ v 3 d (by decide) (by omega) (by rw [List.length_append]; omega));clear d J hv;go_wp2_with fail
         refine f.out.mono ?_;rintro _ w9 ⟨rfl,d⟩;have K:=hid d;clear f d c1;go_wp2_with fail
         go_roundw
         case rel=>exact⟨i+1,by go_num,by omega,by rw [d8.out]; exact K.out⟩
         case measure=>first | (simp [intOf]; omega) | simp [intOf]
        ·have k1:¬ (i:Int)<(tc:Int):=by omega
         obtain rfl:tc=i:=by omega
         obtain⟨B5,g5⟩:=exq (B4++PI.firstsW FF (PI.orderT.take tc));have v2:B5.length<=700200:=by rw [<- g5,List.length_append]; omega
         rw [g5] at d;have s8:=hid g5;have K:=hid d;clear g5 d I hit s7;go_wp2_with fail
         clear k1;go_loopw [29] (fun iv wr=>∃i:Nat,iv=.int .i64 i/\i<=rl/\Sp w0 (Rw g (B5++PD.layW FF [] (RR.take i)) at_::Row 3 1 (.slice VI 19 ci) 19 (cellsN IQ9)::Row 3 1 (.slice (some af) 19 cf) 19 (cellsN FF)::Row 156 3 (.slice VT rl ct) rl (cellsT RR)::Row 3 1 (.slice VA 286 ca) 286 (cellsN LA)::Row 3 1 (.slice VB 30 cb) 30 (cellsN LB)::L) wr) (fun iv _=>rl - (intOf iv).toNat)
         case atStart=>exact⟨0,rfl,Nat.zero_le _,by rw [List.take_zero]; show Sp w0 (Rw g (B5++[]) at_::_) _; rw [List.append_nil]; exact K.out⟩
         case round =>
          clear K;obtain⟨i,rfl,e7,d⟩:=hrel;have k7:(PD.layW FF [] (RR.take i)).length<=28 * 1000:=by
           have h:=ZG (A:=FF) (D:=[]) (fun x hx=>Nat.le_trans (O.out.2.1 x hx) (by decide)) (by simp) (RR.take i) (fun t ht=>j9.out t (List.mem_of_mem_take ht));rw [List.length_take] at h;have:=d6.out;omega
          by_cases I:i<rl
          ·have k1:(i:Int)<(rl:Int):=by omega
           have p:i<RR.length:=by rw [d6.out]; exact I
           have N:RR.getD i (0,0,0,0) ∈ RR:=by rw [List.getD_eq_getElem?_getD,List.getElem?_eq_getElem p]; exact List.getElem_mem p
           have e4:=j9.out _ N;have c6:(RR.getD i (0,0,0,0)).1=0:=d5.out _ N;have J:PD.layW FF [] (RR.take (i+1))=PD.layW FF [] (RR.take i)++PD.wW FF [] (RR.getD i (0,0,0,0)):=by
            rw [List.take_succ_eq_append_getElem p,PD.layW_app,List.getD_eq_getElem?_getD,List.getElem?_eq_getElem p];show _++(PD.wW FF [] RR[i]++[])=_;rw [List.append_nil]; rfl
           obtain⟨q8,rfl,W,X,T⟩:=rdT (rowRd d 3 rfl) p;obtain⟨⟨b9,s,q,r⟩,ht⟩:∃t,RR.getD i (0,0,0,0)=t:=⟨_,rfl⟩;rw [ht] at W X T e4 c6 J;simp only at W X T c6;subst c6;have HT:=hid (PD.wd_code (M:=FF) (s:=s) e4.2.1 (fun x hx=>Nat.le_trans (O.out.2.1 x hx) (by decide)) O.out.2.2);rw [O.out.1] at HT;have HP:=hid (show r<2 ^ q from e4.2.2.1);have p5:q<=13:=e4.2.2.2;have v3:r<8192:=Nat.lt_of_lt_of_le HP.out (Nat.pow_le_pow_right (by decide) p5);have s9:=hid ht;obtain⟨B6,S⟩:=exq (B5++PD.layW FF [] (RR.take i));have t0:B6.length<=730000:=by rw [<- S,List.length_append]; omega
           have e5:B5++PD.layW FF [] (RR.take (i+1))=B6++PI.codeW FF s++PBits.bitsOf r q:=by
            rw [J,<- List.append_assoc,S];unfold PD.wW PI.sayW;rw [if_pos rfl,List.append_assoc]
           have t1:=hid e5;rw [S] at d;clear J e4 N ht S e5 k7;have f:=hid (Ye g B6 at_ (some af) 19 cf FF s d k5.symm (fun _ _ q=>rowRd q 1 rfl) (by decide) (fun x hx=>Nat.le_trans (O.out.2.1 x hx) (by decide)) O.out.2.2 HT.out.1 HT.out.2 (by omega));clear d;go_wp2_with fail
           refine f.out.mono ?_;rintro _ w9 ⟨rfl,d⟩;clear f W X T;obtain⟨t9,e9,W,X,T⟩:=rdT (rowRd d 3 rfl) p;injection e9 with e9
           subst e9;rw [s9.out] at W X T;simp only at W X T;have v6:(PI.codeW FF s).length<=15:=by rw [PI.codeW_len]; exact Zt (fun x hx=>Nat.le_trans (O.out.2.1 x hx) (by decide)) s
           have f:=hid (ZL g (B6++PI.codeW FF s) at_ r q d.drew (by omega) HP.out (by rw [List.length_append]; omega));clear d;go_wp2_with fail
           go_still_tail 12,(by kernel_rfl)
           change wpList _ _ _ _ _ w9.drew;go_wp2_with fail
           refine f.out.mono ?_;rintro _ w8 ⟨rfl,d⟩;have K:=hid d;clear f d W X T;go_wp2_with fail
           go_roundw
           case rel=>exact⟨i+1,by go_num,by omega,by rw [t1.out]; exact K.out⟩
           case measure=>first | (simp [intOf]; omega) | simp [intOf]
          ·have k1:¬ (i:Int)<(rl:Int):=by omega
           obtain rfl:rl=i:=by omega
           rw [List.take_of_length_le (by rw [d6.out]; exact Nat.le_refl _)] at d k7;obtain⟨B6,S⟩:=exq (B5++PD.layW FF [] RR);have t0:B6.length<=730000:=by rw [<- S,List.length_append]; omega
           rw [S] at d;have t2:=hid S;have f:=hid (Vs g B6 at_ V n c Y VA na ca MA VB nd cb MD d HN.out (fun _ _ q=>HY.out _ _ (q.pick 5 [])) hc k8.out (fun _ _ q=>by rw [<- m6.out,<- Zy]; exact(rowRd q 3 rfl).take na) j5.out (by omega) j7.out.1 j7.out.2 (fun _ _ q=>by rw [<- m7.out,<- Zy]; exact(rowRd q 4 rfl).take nd) j6.out (by omega) j8.out.1 j8.out.2 q6.out (by omega));clear d S k7;go_wp2_with fail
           refine f.out.mono ?_;rintro _ w9 ⟨rfl,d⟩;have K:=hid (d.pick 6 [0]);clear f d;go_wp2_with fail
           go_end0;have e9:B++PD.layD 2 Y b last B.length=B6++PD.layW MA MD (PD.words Y):=by
            rw [m9.out,r3.out,<- t2.out,<- s8.out,<- s6.out,<- s2.out,<- r8.out,<- r4.out,r7.out,s1.out,s5.out];simp only [List.append_assoc]
           rw [e9];exact⟨rfl,K.out⟩
end Go.Proofs.YteajimobgkempaaGreatDoor

