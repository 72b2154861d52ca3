/- A pack. -/
import Derived.Test.YteajimobgkempaaGreatDoorPk09
set_option linter.all false
set_option maxRecDepth 100000
set_option maxHeartbeats 8000000
namespace Go.Proofs.YteajimobgkempaaGreatDoor
variable {w0 w:World} {L:List Pr}
open Go.RowKit
theorem Z6 (ad:Addr) (n c:Nat) (X A M B Y:List PK) (a b m:Nat) (H:Sp w0 (RowK (.slice (some ad) n c) (X++A++M++B++Y)::L) w) (hn:n=X.length+A.length+M.length+B.length+Y.length) (hl:n<=1000000) (ha:X.length=a) (hm:A.length=m) (hm2:B.length=m) (hb:a+m+M.length=b) :
  Calls Tryz.prog 183 #[.slice (some ad) n c,.int .i64 a,.int .i64 b,.int .i64 m,cmpF] w fun e w'=>e=.returned (.tuple #[]) /\
   Sp w0 (RowK (.slice (some ad) n c) (X++B++M++A++Y)::L) w':=by
 have HN:=hid hn;have O:=hid ha;have N:=hid hm;have s:=hid hm2;have HB:=hid hb;have a6:b+m<=n:=by omega
 have a7:a+m<=n:=by omega
 obtain⟨T,P⟩:=exq (X++B++M++A++Y);rw [P];have HT:=hid P;clear P hn ha hm hm2 hb;go_enter Tryz.func183,Tryz.ntmps183
 go_wp2_with fail
 go_loopw [10] (fun iv wr=>∃(i:Nat) (A1 A2 B1 B2:List PK),iv=.int .i64 i/\i<=m/\Hid (A1.length=i/\B1.length=i/\A1++A2=A/\B1++B2=B)/\Sp w0 (RowK (.slice (some ad) n c) (X++B1++A2++M++A1++B2++Y)::L) wr) (fun iv _=>m - (intOf iv).toNat)
 case atStart =>
  refine⟨0,[],A,[],B,rfl,Nat.zero_le _,hid ⟨rfl,rfl,rfl,rfl⟩,?_⟩;rw [List.append_nil,List.append_nil];exact H
 case round =>
  clear H;obtain⟨i,A1,A2,B1,B2,rfl,a8,g,H⟩:=hrel;by_cases a9:i<m
  ·have k1:(i:Int)<(m:Int):=by omega
   obtain⟨p,A3,rfl⟩:∃p A3,A2=p::A3:=by
    cases A2 with
    | nil =>
     have:=g.out;have l:=congrArg List.length this.2.2.1;rw [List.length_append,N.out,this.1] at l;simp at l; omega
    | cons p A3=>exact⟨p,A3,rfl⟩
   obtain⟨q,B3,rfl⟩:∃p B3,B2=p::B3:=by
    cases B2 with
    | nil =>
     have:=g.out;have l:=congrArg List.length this.2.2.2;rw [List.length_append,s.out,this.2.1] at l;simp at l; omega
    | cons p B3=>exact⟨p,B3,rfl⟩
   obtain⟨D,E⟩:=exq (X++B1++p::A3++M++A1++q::B3++Y);rw [E] at H;obtain⟨su,hu⟩:=exq (a+i);obtain⟨sv,hv⟩:=exq (b+i);have Q:A3.length+(i+1)=m:=by
    have l:=congrArg List.length g.out.2.2.1;rw [List.length_append,N.out,g.out.1,List.length_cons] at l; omega
   have R:B3.length+(i+1)=m:=by
    have l:=congrArg List.length g.out.2.2.2;rw [List.length_append,s.out,g.out.2.1,List.length_cons] at l; omega
   have t:(X++B1).length=su:=by rw [List.length_append,O.out,g.out.2.1,hu]
   have z:(X++B1++p::A3++M++A1).length=sv:=by
    have:=HB.out;simp only [List.length_append,List.length_cons,O.out,g.out.1,g.out.2.1]; omega
   have S:D.length=n:=by
    have:=HN.out; have:=O.out; have:=N.out; have:=s.out; have:=g.out.1; have:=g.out.2.1
    rw [<- E]; simp only [List.length_append,List.length_cons]; omega
   have U:D.getD su pk0=p:=by
    rw [<- E,show X++B1++p::A3++M++A1++q::B3++Y=(X++B1)++p::(A3++M++A1++q::B3++Y) by simp];exact SS.getD_app pk0 _ _ _ t
   have V:D.getD sv pk0=q:=by
    rw [<- E,List.append_assoc (X++B1++p::A3++M++A1)];exact SS.getD_app pk0 _ _ _ z
   have W:=hid U;have Z:=hid V;have F:su<D.length:=by omega
   have G:sv<D.length:=by omega
   have I:=hid F;have J:=hid G;have y1:(a:Int)+(i:Int)=(su:Int):=by omega
   have y2:(b:Int)+(i:Int)=(sv:Int):=by omega
   have k2:(su:Int)<(n:Int):=by omega
   have k3:(sv:Int)<(n:Int):=by omega
   have k4:su<=1000000:=by omega
   have k5:sv<=1000000:=by omega
   have y:(D.set su q).set sv p=X++(B1++[q])++A3++M++(A1++[p])++B3++Y:=by
    have l:=SS.sw_app pk0 (X++B1) (A3++M++A1) (B3++Y) p q t (j:=sv) (by
     have:=congrArg id z;simp only [List.length_append,List.length_cons,id] at this t ⊢; omega)
    have e0:X++B1++p::(A3++M++A1)++q::(B3++Y)=D:=by rw [<- E]; simp
    rw [e0] at l;unfold SS.sw at l;rw [U,V] at l;rw [l]; simp
   have HR:=hid y;clear y U V F G E S hu hv t z Q R;go_wp2_with fail
   refine Zb (L:=L) [some (.slice (some ad) n c),some (.int .i64 a),some (.int .i64 i),some (.int .i64 su),some (.slice (some ad) n c),some (.int .i64 b),some (.int .i64 i),some (.int .i64 sv),some (.slice (some ad) n c),some (.int .i64 b),some (.int .i64 i),some (.int .i64 sv),some (.pointer (some (ad.add (sv * 3)))),some (q.val),some (.slice (some ad) n c),some (.int .i64 a),some (.int .i64 i),some (.int .i64 su),some (.pointer (some (ad.add (su * 3)))),some (p.val),some (.pointer (some (ad.add (su * 3)))),none,some (.pointer (some (ad.add (sv * 3)))),none] (fun _ _=>True) (fun ix vx=>match ix with | 21=>(fun _=>[RowK (.slice (some ad) n c) (D.set su q)]) vx | 23=>(fun _=>[RowK (.slice (some ad) n c) ((D.set su q).set sv p)]) vx | _=>[]) (fun ix=>match ix with | 21=>[RowK (.slice (some ad) n c) D] | _=>[]) 24 38
    [some 16,some 17,some 18,some 19,some 20,some 21,some 22,some 23,some 24,some 25,some 26,some 27,some 28,some 29,some 30,some 31,some 32,some 33,some 34,some 35,some 36,none,some 37,none]
    [[],[],[],[1,2],[],[],[],[5,6],[],[],[],[9,10],[8,11],[12],[],[],[],[15,16],[14,17],[18],[0,3,0,1,2,3,8,9,10,11,12,13,19],[20,13,0,1,2,3,8,9,10,11,12,13,19],[4,7,0,1,2,3,4,5,6,7,8,9,10,11,12,13,14,15,16,17,18,19,20,21],[22,19,21,0,1,2,3,4,5,6,7,8,9,10,11,12,13,14,15,16,17,18,19,20,21]]
    [[],[],[],[1,2],[],[],[],[5,6],[],[],[],[9,10],[8,9,10,11],[8,9,10,11,12],[],[],[],[15,16],[14,15,16,17],[14,15,16,17,18],[0,1,2,3,8,9,10,11,12,13,14,15,16,17,18,19],[0,1,2,3,8,9,10,11,12,13,14,15,16,17,18,19,20],[0,1,2,3,4,5,6,7,8,9,10,11,12,13,14,15,16,17,18,19,20,21],[0,1,2,3,4,5,6,7,8,9,10,11,12,13,14,15,16,17,18,19,20,21,22]]
    [[],[],[],[],[],[],[],[],[],[],[],[],[],[],[],[],[],[],[],[],[],[],[],[21]] [[],[],[],[],[],[],[],[],[],[],[],[],[],[21],[],[],[],[],[],[21],[],[],[],[]] [(0,.slice (some ad) n c),(1,.int .i64 a),(2,.int .i64 b),(10,.int .i64 i)]
    (by kernel_rfl) rfl (by decide) (by rfl) (by decide +kernel) rfl rfl (by simp) (H) ?hstep ?hend
   case hstep =>
    refine⟨?p0,⟨?p1,⟨?p2,⟨?p3,⟨?p4,⟨?p5,⟨?p6,⟨?p7,⟨?p8,⟨?p9,⟨?p10,⟨?p11,⟨?p12,⟨?p13,⟨?p14,⟨?p15,⟨?p16,⟨?p17,⟨?p18,⟨?p19,⟨?p20,⟨?p21,⟨?p22,⟨?p23,trivial⟩⟩⟩⟩⟩⟩⟩⟩⟩⟩⟩⟩⟩⟩⟩⟩⟩⟩⟩⟩⟩⟩⟩⟩
    case p0 | p1 | p2 | p3 | p4 | p5 | p6 | p7 | p8 | p9 | p10 | p11 | p12 | p14 | p15 | p16 | p17 | p18 | p20 | p22 =>
     intro x wx A d h r k u H K o;replace o:=hid o;clear k u h;repeat (obtain⟨_,r⟩:=r)
     refine so ?_;go_step;exact o.out _ _ rfl H
    case p13 =>
     intro x wx A d h r k u H K f;have a0:=tq k 12;replace H:Sp w0 (_::d) wx:=H;have o:=hid f;clear f r k u h;refine so ?_;exact Zc 143 _ rfl _ q.cells (ev a0) (by rw [<- Z.out]; exact RowK.rd H 0 rfl sv J.out) Tryz.isAgg143 Tryz.sizeOf143 (o.out _ _ rfl H)
    case p19 =>
     intro x wx A d h r k u H K f;have a1:=tq k 18;replace H:Sp w0 (_::d) wx:=H;have o:=hid f;clear f r k u h;refine so ?_;exact Zc 143 _ rfl _ p.cells (ev a1) (by rw [<- W.out]; exact RowK.rd H 0 rfl su I.out) Tryz.isAgg143 Tryz.sizeOf143 (o.out _ _ rfl H)
    case p21 =>
     intro x wx A d h r k u H K f;have a2:=tq k 20;have a3:=tq k 13;replace H:Sp w0 (_::d) wx:=H;have o:Hid (∀(v:Value) (w' : World),(True)->Sp w0 ((RowK (.slice (some ad) n c) (D.set su q))::d) w'->K (A.put none v) w'):=hid f;clear f r k u h;obtain⟨w9,C,H9⟩:=RowK.store (i:=su) q H I.out;refine so ?_;exact Zl 143 _ _ rfl _ q.cells (ev a2) (ev a3) C Tryz.sizeOf143 (o.out undef _ trivial H9)
    case p23 =>
     intro x wx A d h r k u H K f;have a4:=tq k 22;have a5:=tq k 19;replace H:Sp w0 (_::d) wx:=H;have o:Hid (∀(v:Value) (w' : World),(True)->Sp w0 ((RowK (.slice (some ad) n c) ((D.set su q).set sv p))::d) w'->K (A.put none v) w'):=hid f;clear f r k u h;obtain⟨w9,C,H9⟩:=RowK.store (i:=sv) p H (by rw [List.length_set]; exact J.out);refine so ?_;exact Zl 143 _ _ rfl _ p.cells (ev a4) (ev a5) C Tryz.sizeOf143 (o.out undef _ trivial H9)
   case hend =>
    intro x wx A hA k H;replace H:Sp w0 (_::L) wx:=H;clear k;simp only [putAll,Act.put,List.setIfInBounds_toArray,List.set_cons_succ,List.set_cons_zero,Nat.reduceAdd] at hA;subst hA;go_wp2_with fail
    go_roundw
    case rel =>
     refine⟨i+1,A1++[p],A3,B1++[q],B3,by go_num,by omega,hid ⟨by rw [List.length_append,g.out.1]; rfl,by rw [List.length_append,g.out.2.1]; rfl,by rw [<- g.out.2.2.1]; simp,by rw [<- g.out.2.2.2]; simp⟩,?_⟩;rw [<- HR.out];exact H
    case measure=>first | (simp [intOf]; omega) | simp [intOf]
  ·have k1:¬ (i:Int)<(m:Int):=by omega
   go_wp2_with fail
   go_end0;refine⟨rfl,?_⟩;have l:=congrArg List.length g.out.2.2.1;have h2:=congrArg List.length g.out.2.2.2;rw [List.length_append,N.out,g.out.1] at l;rw [List.length_append,s.out,g.out.2.1] at h2;have e1:A2=[]:=List.eq_nil_of_length_eq_zero (by omega);have e2:B2=[]:=List.eq_nil_of_length_eq_zero (by omega);subst e1 e2;have e3:A1=A:=by have:=g.out.2.2.1; rwa [List.append_nil] at this
   have e4:B1=B:=by have:=g.out.2.2.2; rwa [List.append_nil] at this
   subst e3 e4;rw [List.append_nil,List.append_nil,HT.out] at H;exact H
theorem Vj (ad:Addr) (n c:Nat) (X U V Y:List PK) (a m b:Nat) (H:Sp w0 (RowK (.slice (some ad) n c) (X++U++V++Y)::L) w) (hn:n=X.length+U.length+V.length+Y.length) (hl:n<=1000000) (ha:X.length=a) (hm:a+U.length=m) (hb:m+V.length=b) (hu:U≠[]) (hv:V≠[]) :
  Calls Tryz.prog 172 #[.slice (some ad) n c,.int .i64 a,.int .i64 m,.int .i64 b,cmpF] w fun e w'=>e=.returned (.tuple #[]) /\
   Sp w0 (RowK (.slice (some ad) n c) (X++V++U++Y)::L) w':=by
 obtain⟨T,C⟩:=exq (X++V++U++Y);rw [C];have D:U.length≠0:=fun h=>hu (List.eq_nil_of_length_eq_zero h);have E:V.length≠0:=fun h=>hv (List.eq_nil_of_length_eq_zero h);obtain⟨i,Q⟩:=exq U.length;obtain⟨j,R⟩:=exq V.length;have S:(m:Int) - (a:Int)=(i:Int):=by omega
 have y2:(b:Int) - (m:Int)=(j:Int):=by omega
 have u:m+j<=n:=by omega
 have F:∃X' Y',X++U++V++Y=X'++U++V++Y'/\T=X'++V++U++Y'/\X'.length+i=m/\n=X'.length+U.length+V.length+Y'.length:=⟨X,Y,rfl,C.symm,by omega,hn⟩;obtain⟨X',Y',W,Z,e3,e4⟩:=F;rw [W] at H;have HS:Hid (∃U V,U.length=i/\V.length=j/\i≠0/\j≠0/\T=X'++V++U++Y'/\X'.length+i=m/\n=X'.length+i+j+Y'.length/\Sp w0 (RowK (.slice (some ad) n c) (X'++U++V++Y')::L) w):=hid ⟨U,V,Q,R,by omega,by omega,Z,e3,by omega,H⟩;clear W Z e3 e4 H C Q R hn ha hm hb hu hv D E;go_enter Tryz.func172,Tryz.ntmps172
 go_wp2_with fail
 go_loopw [10,11] (fun iv jv wr=>∃(i j:Nat) (X U V Y:List PK),iv=.int .i64 i/\jv=.int .i64 j/\Hid (U.length=i/\V.length=j/\i≠0/\j≠0/\T=X++V++U++Y/\X.length+i=m/\n=X.length+i+j+Y.length)/\i<=m/\m+j<=n/\Sp w0 (RowK (.slice (some ad) n c) (X++U++V++Y)::L) wr) (fun iv jv _=>(intOf iv).toNat+(intOf jv).toNat)
 case atStart =>
  obtain⟨U,V,y,G,z,I,v,A,J,h8⟩:=HS.out;exact⟨i,j,X',U,V,Y',rfl,rfl,hid ⟨y,G,z,I,v,A,J⟩,by omega,u,h8⟩
 case round =>
  clear HS u S y2;obtain⟨i,j,X,U,V,Y,rfl,rfl,f,a0,a1,H⟩:=hrel;obtain⟨q,hq⟩:=exq (m - i);have S:(m:Int) - (i:Int)=(q:Int):=by omega
  clear hq;by_cases p:i=j
  ·have k1:((i:Int) != (j:Int))=false:=by rw [p]; simp
   subst p;have g:=Z6 ad n c X U [] V Y q m i (by rw [List.append_nil]; exact H) (by have:=f.out; simp only [List.length_nil]; omega) hl (by have:=f.out; omega) f.out.1 f.out.2.1 (by have:=f.out; simp only [List.length_nil]; omega);have l:=hid g;clear g;go_wp2_with fail
   refine l.out.mono ?_;rintro _ w9 ⟨rfl,t⟩;go_wp2_with fail
   go_end0;refine⟨rfl,?_⟩;rw [f.out.2.2.2.2.1];rw [List.append_nil] at t;exact t
  ·have k1:((i:Int) != (j:Int))=true:=by simp; omega
   by_cases a2:j<i
   ·have k2:(j:Int)<(i:Int):=by omega
    have d:U=U.take j++U.drop j:=(List.take_append_drop j U).symm;have k:(U.take j).length=j:=by rw [List.length_take,f.out.1]; omega
    have o:(U.drop j).length=i - j:=by rw [List.length_drop,f.out.1]
    generalize U.take j=U1 at d k;generalize U.drop j=U2 at d o;have g:=Z6 ad n c X U1 U2 V Y q m j (by rw [d,<- List.append_assoc X] at H; exact H) (by have:=f.out; omega) hl (by have:=f.out; omega) k f.out.2.1 (by have:=f.out; omega);have l:=hid g;obtain⟨B,K⟩:=exq (i - j);have y3:(i:Int) - (j:Int)=(B:Int):=by omega
    have x:Hid (U=U1++U2/\U1.length=j/\U2.length=B/\i=B+j):=hid ⟨d,k,by omega,by omega⟩;clear g d k o K p;go_wp2_with fail
    refine l.out.mono ?_;rintro _ w9 ⟨rfl,t⟩;clear l H;go_wp2_with fail
    go_roundw
    case rel =>
     obtain⟨M,N,O,q4⟩:=x.out;obtain⟨y,G,z,I,v,A,J⟩:=f.out;refine⟨B,j,X++V,U2,U1,Y,by go_num,rfl,hid ⟨O,N,by omega,by omega,by rw [v,M]; simp,by rw [List.length_append]; omega,by rw [List.length_append]; omega⟩,by omega,by omega,t⟩
    case measure =>
     have:=x.out.2.2.2;have:=f.out.2.2.2.1;first | (simp [intOf]; omega) | simp [intOf]
   ·have k2:¬ (j:Int)<(i:Int):=by omega
    obtain⟨j2,P⟩:=exq (j - i);have d:V=V.take j2++V.drop j2:=(List.take_append_drop j2 V).symm;have k:(V.take j2).length=j2:=by rw [List.length_take,f.out.2.1]; omega
    have o:(V.drop j2).length=i:=by rw [List.length_drop,f.out.2.1]; omega
    generalize V.take j2=V1 at d k;generalize V.drop j2=V2 at d o;obtain⟨r,hr⟩:=exq (m+j - i);obtain⟨s,hs⟩:=exq (m+j);have g:=Z6 ad n c X U V1 V2 Y q r i (by rw [d,<- List.append_assoc] at H; exact H) (by have:=f.out; omega) hl (by have:=f.out; omega) f.out.1 o (by have:=f.out; omega);have l:=hid g;have y3:(j:Int) - (i:Int)=(j2:Int):=by omega
    have y4:(m:Int)+(j:Int)=(s:Int):=by omega
    have y5:(s:Int) - (i:Int)=(r:Int):=by omega
    have ks:s<=1000000:=by omega
    have x:Hid (V=V1++V2/\V1.length=j2/\V2.length=i/\j=j2+i/\j2≠0):=hid ⟨d,k,o,by omega,by omega⟩;clear g d k o P p hr hs;go_wp2_with fail
    refine l.out.mono ?_;rintro _ w9 ⟨rfl,t⟩;clear l H;go_wp2_with fail
    go_roundw
    case rel =>
     obtain⟨M,N,O,q4,q5⟩:=x.out;obtain⟨y,G,z,I,v,A,J⟩:=f.out;refine⟨i,j2,X,V2,V1,U++Y,rfl,by go_num,hid ⟨O,N,z,q5,by rw [v,M]; simp,A,by rw [List.length_append,y]; omega⟩,by omega,by omega,?_⟩;rw [<- List.append_assoc];exact t
    case measure =>
     have:=x.out.2.2.2.1;have:=f.out.2.2.1;first | (simp [intOf]; omega) | simp [intOf]
end Go.Proofs.YteajimobgkempaaGreatDoor

