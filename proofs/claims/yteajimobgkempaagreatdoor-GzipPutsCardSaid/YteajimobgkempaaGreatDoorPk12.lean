/- A pack. -/
import Derived.Test.YteajimobgkempaaGreatDoorPk11
set_option linter.all false
set_option maxRecDepth 100000
set_option maxHeartbeats 8000000
namespace Go.Proofs.YteajimobgkempaaGreatDoor
variable {w0 w:World} {L:List Pr}
open Go.RowKit
namespace SS
theorem srt_sub {u v:List PK} (h:Srt keyK (u++v)):Srt keyK u/\Srt keyK v:=⟨(List.pairwise_append.1 h).1,(List.pairwise_append.1 h).2.1⟩
theorem sym_plain {U V:List PK} (hU:Srt keyK U) (hV:Srt keyK V) {a m b s e:Nat} (hm:a+U.length=m) (hb:m+V.length=b) (has:a<=s) (hsm:s<=m) (hme:m<=e) (heb:e<=b)
  (A:s=a∨e=b∨(U.getD (s - 1 - a) pk0).c<=(V.getD (e - m) pk0).c) (B:s=m∨e=m∨(V.getD (e - 1 - m) pk0).c<(U.getD (s - a) pk0).c) :
  ∃u1 u2 v1 v2,U=u1++u2/\V=v1++v2/\a+u1.length=s/\s+u2.length=m/\m+v1.length=e/\e+v2.length=b/\mrg keyK U V=mrg keyK u1 v1++mrg keyK u2 v2/\Srt keyK u1/\Srt keyK u2/\Srt keyK v1/\Srt keyK v2:=by
 have c:=srt_at hU;have d:=srt_at hV;have g:U.take (s - a)++U.drop (s - a)=U:=List.take_append_drop _ _;have f:V.take (e - m)++V.drop (e - m)=V:=List.take_append_drop _ _;refine⟨U.take (s - a),U.drop (s - a),V.take (e - m),V.drop (e - m),g.symm,f.symm,by rw [List.length_take]; omega,by rw [List.length_drop]; omega,by rw [List.length_take]; omega,by rw [List.length_drop]; omega,?_,(srt_sub (by rw [g]; exact hU)).1,(srt_sub (by rw [g]; exact hU)).2,(srt_sub (by rw [f]; exact hV)).1,(srt_sub (by rw [f]; exact hV)).2⟩;have h:=mrg_split (key:=keyK) (u1:=U.take (s - a)) (u2:=U.drop (s - a)) (v1:=V.take (e - m)) (v2:=V.drop (e - m)) (by rw [f]; exact hV) ?_ ?_
 ·rw [g,f] at h; exact h
 ·intro x i y j
  revert y
  refine all_drop (p:=fun y=>x.c<=y.c) fun t ht1 ht2=>?_
  revert x
  refine all_take (p:=fun x=>x.c<=(V.getD t pk0).c) fun q hq1 hq2=>?_;rcases A with A | A | A
  ·omega
  ·omega
  ·exact Int.le_trans (Int.le_trans (c q (s - 1 - a) (by omega) (by omega)) A) (d (e - m) t (by omega) ht2)
 ·intro x i y j
  revert y
  refine all_take (p:=fun y=>y.c<x.c) fun t ht1 ht2=>?_
  revert x
  refine all_drop (p:=fun x=>(V.getD t pk0).c<x.c) fun q hq1 hq2=>?_;rcases B with B | B | B
  ·omega
  ·omega
  ·exact Int.lt_of_le_of_lt (d t (e - 1 - m) (by omega) (by omega)) (Int.lt_of_lt_of_le B (c (s - a) q (by omega) hq2))
end SS
def SymG (n c:Nat) (ad:Addr) (w0:World) (L:List Pr) (D D' : List PK) (a m b:Nat):Prop:=∀w,Sp w0 (RowK (.slice (some ad) n c) D::L) w ->
 Calls Tryz.prog 156 #[.slice (some ad) n c,.int .i64 a,.int .i64 m,.int .i64 b,cmpF] w fun e w'=>e=.returned (.tuple #[])/\Sp w0 (RowK (.slice (some ad) n c) D'::L) w'
def RotG (n c:Nat) (ad:Addr) (w0:World) (L:List Pr) (D D' : List PK) (a m b:Nat):Prop:=∀w,Sp w0 (RowK (.slice (some ad) n c) D::L) w ->
 Calls Tryz.prog 172 #[.slice (some ad) n c,.int .i64 a,.int .i64 m,.int .i64 b,cmpF] w fun e w'=>e=.returned (.tuple #[])/\Sp w0 (RowK (.slice (some ad) n c) D'::L) w'
def SymIH (n c:Nat) (ad:Addr) (w0:World) (L:List Pr) (k:Nat):Prop:=∀(X U V Y:List PK) (a m b:Nat),b - a<k->n=X.length+U.length+V.length+Y.length->X.length=a->a+U.length=m->m+V.length=b->U≠[]->V≠[]->SS.Srt keyK U->SS.Srt keyK V ->
 SymG n c ad w0 L (X++U++V++Y) (X++SS.mrg keyK U V++Y) a m b
theorem Vk (ad:Addr) (n c:Nat) (X U V Y:List PK) (a m b mid s e:Nat) (w0:World) (L:List Pr) (hn:n=X.length+U.length+V.length+Y.length) (hl:n<=1000000) (ha:X.length=a) (hm:a+U.length=m) (hb:m+V.length=b) (hu2:2<=U.length) (hv2:2<=V.length) (hU:SS.Srt keyK U) (hV:SS.Srt keyK V)
  (IH:SymIH n c ad w0 L (b - a)) (hmid:(a+b) / 2=mid) (has:a<=s) (hsm:s<=m) (hse:s+e=mid+m) (hme:m<=e) (heb:e<=b)
  (A:s=a∨e=b∨(U.getD (s - 1 - a) pk0).c<=(V.getD (e - m) pk0).c) (B:s=m∨e=m∨(V.getD (e - 1 - m) pk0).c<(U.getD (s - a) pk0).c) :
  ∃D1 D2,(s<m->m<e->RotG n c ad w0 L (X++U++V++Y) D1 s m e)/\(¬ (s<m/\m<e)->X++U++V++Y=D1) /\
   (a<s->s<mid->SymG n c ad w0 L D1 D2 a s mid)/\(¬ (a<s/\s<mid)->D1=D2) /\
   (mid<e->e<b->SymG n c ad w0 L D2 (X++SS.mrg keyK U V++Y) mid e b)/\(¬ (mid<e/\e<b)->D2=X++SS.mrg keyK U V++Y):=by
 obtain⟨d,f,v1,v2,rfl,rfl,t,o,p,u,g,q,r,i,j⟩:=SS.sym_plain hU hV hm hb has hsm hme heb A B;rw [List.length_append] at hn hm hb hu2 hv2;rw [List.length_append] at hn;refine⟨X++d++v1++f++v2++Y,X++SS.mrg keyK d v1++f++v2++Y,fun k1 k2 w H=>?_,fun k=>?_,fun k1 k2 w H=>?_,fun k=>?_,fun k1 k2 w H=>?_,fun k=>?_⟩
 ·have h:=Vj ad n c (X++d) f v1 (v2++Y) s m e (w0:=w0) (w:=w) (L:=L) (by simpa using H) (by simp only [List.length_append]; omega) hl (by rw [List.length_append]; omega) o p (by rintro rfl; simp at o; omega) (by rintro rfl; simp at p; omega);simpa using h
 ·rcases Nat.lt_or_ge s m with k1 | k1
  ·have:v1=[]:=List.eq_nil_of_length_eq_zero (by omega);subst this; simp
  ·have:f=[]:=List.eq_nil_of_length_eq_zero (by omega);subst this; simp
 ·have h:=IH X d v1 (f++v2++Y) a s mid (by omega) (by simp only [List.length_append]; omega) ha t (by omega) (by rintro rfl; simp at t; omega) (by rintro rfl; simp at p; omega) q i w (by simpa using H);simpa using h
 ·have:SS.mrg keyK d v1=d++v1:=by
   rcases Nat.lt_or_ge a s with k1 | k1
   ·have:v1=[]:=List.eq_nil_of_length_eq_zero (by omega);subst this; simp [SS.mrg]
   ·have:d=[]:=List.eq_nil_of_length_eq_zero (by omega);subst this;rw [SS.mrg_nil i]; rfl
  rw [this]; simp
 ·have l:=SS.len_mrg (key:=keyK) d v1;have h:=IH (X++SS.mrg keyK d v1) f v2 Y mid e b (by omega) (by rw [List.length_append,l]; omega) (by rw [List.length_append,l]; omega) (by omega) u (by rintro rfl; simp at o; omega) (by rintro rfl; simp at u; omega) r j w (by simpa using H);rw [g];simpa using h
 ·have:SS.mrg keyK f v2=f++v2:=by
   rcases Nat.lt_or_ge mid e with k1 | k1
   ·have:v2=[]:=List.eq_nil_of_length_eq_zero (by omega);subst this; simp [SS.mrg]
   ·have:f=[]:=List.eq_nil_of_length_eq_zero (by omega);subst this;rw [SS.mrg_nil j]; rfl
  rw [g,this]; simp
theorem Tf (ad:Addr) (n c:Nat) (X U V Y:List PK) (a m b:Nat) (H:Sp w0 (RowK (.slice (some ad) n c) (X++U++V++Y)::L) w) (hn:n=X.length+U.length+V.length+Y.length) (hl:n<=1000000) (ha:X.length=a) (hm:a+U.length=m) (hb:m+V.length=b) (hu2:2<=U.length) (hv2:2<=V.length) (hU:SS.Srt keyK U) (hV:SS.Srt keyK V)
  (IH:SymIH n c ad w0 L (b - a)) :
  Calls Tryz.prog 156 #[.slice (some ad) n c,.int .i64 a,.int .i64 m,.int .i64 b,cmpF] w fun e w'=>e=.returned (.tuple #[]) /\
   Sp w0 (RowK (.slice (some ad) n c) (X++SS.mrg keyK U V++Y)::L) w':=by
 obtain⟨mid,a2⟩:=exq ((a+b) / 2);have J:=fun s e has hsm hse hme heb=>Vk ad n c X U V Y a m b mid s e w0 L hn hl ha hm hb hu2 hv2 hU hV IH a2 has hsm hse hme heb;obtain⟨T,hT⟩:=exq (X++SS.mrg keyK U V++Y);obtain⟨D,hD⟩:=exq (X++U++V++Y);rw [hT];rw [hT,hD] at J;rw [hD] at H;have b7:=hid J;obtain⟨d1,e3⟩:=exq (m - a);obtain⟨d2,e4⟩:=exq (b - m);have y0:(m:Int) - (a:Int)=(d1:Int):=by omega
 have f1:((d1:Int) == 1)=false:=by rw [beq_eq_false_iff_ne]; omega
 have y1:(b:Int) - (m:Int)=(d2:Int):=by omega
 have f2:((d2:Int) == 1)=false:=by rw [beq_eq_false_iff_ne]; omega
 have y2:((a:Int)+(b:Int)) / 2=(mid:Int):=by omega
 obtain⟨nn,d5⟩:=exq (mid+m);have y3:(mid:Int)+(m:Int)=(nn:Int):=by omega
 obtain⟨pp,d6⟩:∃pp,nn=pp+1:=⟨nn - 1,by omega⟩;have y4:(nn:Int) - 1=(pp:Int):=by omega
 have d7:∀t,t<U.length->D.getD (a+t) pk0=U.getD t pk0:=fun t ht=>by
  rw [<- hD,show X++U++V++Y=X++(U++(V++Y)) by simp,List.getD_eq_getElem?_getD,List.getElem?_append_right (by omega),List.getElem?_append_left (by omega),List.getD_eq_getElem?_getD,ha,show a+t - a=t by omega]
 have d8:∀t,t<V.length->D.getD (m+t) pk0=V.getD t pk0:=fun t ht=>by
  rw [<- hD,show X++U++V++Y=(X++U)++(V++Y) by simp,List.getD_eq_getElem?_getD,List.getElem?_append_right (by rw [List.length_append]; omega),List.getElem?_append_left (by rw [List.length_append]; omega),List.getD_eq_getElem?_getD,List.length_append,ha,hm,show m+t - m=t by omega]
 have d9:D.length=n:=by rw [<- hD]; simp only [List.length_append]; omega
 have b8:=hid d7;have b9:=hid d8;have a0:=hid d9;have a1:Hid (a+U.length=m/\m+V.length=b):=hid ⟨hm,hb⟩;have I:Hid (mid+m=nn/\nn=pp+1/\(a+b) / 2=mid):=hid ⟨d5,d6,a2⟩;have f3:b<=n:=by omega
 have f4:a+2<=m:=by omega
 have f5:m+2<=b:=by omega
 have e5:a<mid:=by omega
 have e6:mid<b:=by omega
 have f6:nn<=2000000:=by omega
 have c0:(mid<m/\∃s0,nn - b=s0/\(a<=s0/\mid<=m/\m+mid<=nn/\nn<=b+s0/\s0<=mid)/\Hid ((s0=a∨nn=b+s0)/\(mid=m∨m+mid=nn))/\(nn:Int) - (b:Int)=(s0:Int))∨(m<=mid/\(a<=a/\m<=m/\m+m<=nn/\nn<=b+a/\a<=m)/\Hid ((a=a∨nn=b+a)/\(m=m∨m+m=nn))):=by
  rcases Nat.lt_or_ge mid m with h | h
  ·exact .inl ⟨h,_,rfl,by omega,hid (by omega),by omega⟩
  ·exact .inr ⟨h,by omega,hid ⟨.inl rfl,.inl rfl⟩⟩
 clear J d7 d8 hT hD ha hb hm d9 hn a2 d5 d6 e3 e4 hu2 hv2 hU hV IH;rcases c0 with ⟨kmm,s0,hs0,hin,HBD,y5⟩ | ⟨kmm,hin,HBD⟩
 ·have kk:(mid:Int)<(m:Int):=by omega
  clear hs0;go_enter Tryz.func156,Tryz.ntmps156
  go_wp2_with fail
  go_loopw [20,21] (fun iv jv wr=>∃i j:Nat,iv=.int .i64 i/\jv=.int .i64 j/\s0<=i/\i<=j/\j<=mid/\Hid (i=s0∨(U.getD (i - 1 - a) pk0).c<=(V.getD (nn - i - m) pk0).c)/\Hid (j=mid∨(V.getD (nn - 1 - j - m) pk0).c<(U.getD (j - a) pk0).c)/\Sp w0 (RowK (.slice (some ad) n c) D::L) wr) (fun iv jv _=>(intOf jv).toNat - (intOf iv).toNat)
  case atStart=>exact⟨s0,mid,rfl,rfl,Nat.le_refl _,hin.2.2.2.2,Nat.le_refl _,hid (.inl rfl),hid (.inl rfl),H⟩
  case round =>
   clear H;obtain⟨i,j,rfl,rfl,c7,c8,c9,HA,HB,H⟩:=hrel;by_cases d0:i<j
   ·have k1:(i:Int)<(j:Int):=by omega
    obtain⟨h,hh⟩:=exq ((i+j) / 2);have d3:i<=h:=by omega
    have e7:h<j:=by omega
    have y6:((i:Int)+(j:Int)) / 2=(h:Int):=by omega
    clear hh;obtain⟨q,f⟩:=exq (pp - h);have e8:h<=pp:=by have:=I.out; omega
    have y7:(pp:Int) - (h:Int)=(q:Int):=by omega
    obtain⟨t,ht⟩:∃t,h=a+t:=⟨h - a,by omega⟩;obtain⟨z,hz⟩:∃z,q=m+z:=⟨q - m,by have:=I.out; omega⟩;have a3:t<U.length:=by have:=a1.out; omega
    have a4:z<V.length:=by have:=a1.out; have:=I.out; omega
    obtain⟨pu,W⟩:=exq (U.getD t pk0);obtain⟨pv,Z⟩:=exq (V.getD z pk0);have Q:D.getD h pk0=pu:=by rw [ht,b8.out t a3,W]
    have R:D.getD q pk0=pv:=by rw [hz,b9.out z a4,Z]
    have a5:=hid Q;have a6:=hid R;have a7:=hid W;have a8:=hid Z;have a9:Hid (h=a+t/\q=m+z/\pp - h=q):=hid ⟨ht,hz,f⟩;have e9:q<b:=by have:=a1.out; omega
    have kh:(h:Int)<(n:Int):=by omega
    have kq:(q:Int)<(n:Int):=by omega
    have b0:h<D.length:=by have:=a0.out; omega
    have b1:q<D.length:=by have:=a0.out; omega
    have Bh:=hid b0;have Bq:=hid b1;obtain⟨r,hr⟩:=exq (decide (cmpI pv.c pu.c<0));clear ht a3 hz a4 W Z Q R b0 b1 f;go_wp2_with fail
    refine Zb (L:=RowK (.slice (some ad) n c) D::L) [some (cmpF),some (.slice (some ad) n c),some (.int .i64 pp),some (.int .i64 h),some (.int .i64 q),some (.pointer (some (ad.add (q * 3)))),some (pv.val),some (.slice (some ad) n c),some (.int .i64 h),some (.pointer (some (ad.add (h * 3)))),some (pu.val),some (.int .i64 (cmpI pv.c pu.c)),some (.bool r),some (.bool (!r))] (fun _ _=>True) (fun _ _=>[]) (fun _=>[]) 14 220
     [some 158,some 159,some 160,some 161,some 162,some 163,some 164,some 165,some 166,some 167,some 168,some 169,some 170,some 171]
     [[],[],[],[],[2,3],[1,4],[5],[],[],[7,8],[9],[0,6,10],[11],[12]]
     [[],[],[],[],[2,3],[1,2,3,4],[1,2,3,4,5],[],[],[7,8],[7,8,9],[0,1,2,3,4,5,6,7,8,9,10],[0,1,2,3,4,5,6,7,8,9,10,11],[0,1,2,3,4,5,6,7,8,9,10,11,12]]
     [[],[],[],[],[],[],[],[],[],[],[],[],[],[]] [[],[],[],[],[],[],[],[],[],[],[],[],[],[]] [(0,.slice (some ad) n c),(4,cmpF),(22,.int .i64 pp),(23,.int .i64 h)]
     (by kernel_rfl) rfl (by decide) (by rfl) (by decide +kernel) rfl rfl (by simp) (H) ?hstep ?hend
    case hstep =>
     refine⟨?p0,⟨?p1,⟨?p2,⟨?p3,⟨?p4,⟨?p5,⟨?p6,⟨?p7,⟨?p8,⟨?p9,⟨?p10,⟨?p11,⟨?p12,⟨?p13,trivial⟩⟩⟩⟩⟩⟩⟩⟩⟩⟩⟩⟩⟩⟩
     case p0 | p1 | p2 | p3 | p4 | p5 | p7 | p8 | p9 | p12 | p13 =>
      intro x wx A v k S l hE H K M;replace M:=hid M;clear l hE k;repeat (obtain⟨_,S⟩:=S)
      refine so ?_;go_step;exact M.out _ _ rfl H
     case p6 =>
      intro x wx A v k S l hE H K g;have b2:=tq l 5;have M:=hid g;clear g S l k;refine so ?_;exact Zc 143 _ rfl _ pv.cells (ev b2) (by rw [<- a6.out]; exact hE (fun w=>∀jj vv,(D.getD q pk0).cells[jj]?=some vv->w.cell? ((ad.add (q * 3)).add jj)=some vv) (fun _ _ H=>RowK.rd H 0 rfl q Bq.out) _ _ H) Tryz.isAgg143 Tryz.sizeOf143 (M.out _ _ rfl H)
     case p10 =>
      intro x wx A v k S l hE H K g;have b3:=tq l 9;have M:=hid g;clear g S l k;refine so ?_;exact Zc 143 _ rfl _ pu.cells (ev b3) (by rw [<- a5.out]; exact hE (fun w=>∀jj vv,(D.getD h pk0).cells[jj]?=some vv->w.cell? ((ad.add (h * 3)).add jj)=some vv) (fun _ _ H=>RowK.rd H 0 rfl h Bh.out) _ _ H) Tryz.isAgg143 Tryz.sizeOf143 (M.out _ _ rfl H)
     case p11 =>
      intro x wx A v k S l hE H K g;have e0:=tq l 0;have e1:=tq l 6;have e2:=tq l 10;have M:=hid g;clear g S l hE k;refine so ?_;unfold cmpF at *;go_wp2_with fail
      refine(YN pv pu H).mono ?_;rintro _ y ⟨rfl,H9⟩;exact M.out _ _ rfl H9
    case hend =>
     intro x wx A hA l H;replace H:Sp w0 (_::L) wx:=H;have b4:x 13=.bool (!r):=l 13 (by decide);clear l;simp only [putAll,Act.put,List.setIfInBounds_toArray,List.set_cons_succ,List.set_cons_zero,Nat.reduceAdd] at hA;subst hA;rw [b4];clear b4;rw [Xm] at hr;cases r
     ·have d4:pu.c<=pv.c:=by have:=of_decide_eq_false hr; omega
      clear hr;go_wp2_with fail
      go_roundw
      case rel =>
       refine⟨h+1,j,by go_num,rfl,by omega,by omega,c9,hid (.inr ?_),HB,H⟩;have:=a9.out; have:=I.out
       rw [show h+1 - 1 - a=t by omega,show nn - (h+1) - m=z by omega,a7.out,a8.out];exact d4
      case measure=>first | (simp [intOf]; omega) | simp [intOf]
     ·have b5:pv.c<pu.c:=of_decide_eq_true hr;clear hr;go_wp2_with fail
      go_roundw
      case rel =>
       refine⟨i,h,rfl,rfl,c7,d3,by omega,HA,hid (.inr ?_),H⟩;have:=a9.out; have:=I.out
       rw [show nn - 1 - h - m=z by omega,show h - a=t by omega,a7.out,a8.out];exact b5
      case measure=>first | (simp [intOf]; omega) | simp [intOf]
   ·have k1:¬ (i:Int)<(j:Int):=by omega
    obtain rfl:i=j:=by omega
    obtain⟨s,rfl⟩:∃s,s=i:=⟨i,rfl⟩;obtain⟨e,he⟩:=exq (nn - s);have f0:s<=nn:=by have:=I.out; omega
    have y8:(nn:Int) - (s:Int)=(e:Int):=by omega
    have d:Hid (s+e=mid+m/\nn - s=e):=hid ⟨by have:=I.out; omega,he⟩;have g1:a<=s:=by omega
    have g2:s<=m:=by omega
    have g3:m<=e:=by have:=I.out; omega
    have g4:e<=b:=by have:=I.out; omega
    obtain⟨D1,D2,R1,N1,R2,N2,R3,N3⟩:=b7.out s e g1 g2 d.out.1 g3 g4
     (by
      rcases HA.out with h | h
      ·rcases HBD.out.1 with h2 | h2
       ·exact .inl (by omega)
       ·exact .inr (.inl (by omega))
      ·rw [he] at h; exact .inr (.inr h))
     (by
      rcases HB.out with h | h
      ·rcases HBD.out.2 with h2 | h2
       ·exact .inl (by omega)
       ·exact .inr (.inl (by have:=I.out; omega))
      ·rw [show nn - 1 - s - m=e - 1 - m by omega] at h; exact .inr (.inr h))
    replace R1:=hid R1;replace N1:=hid N1;replace R2:=hid R2;replace N2:=hid N2;replace R3:=hid R3;replace N3:=hid N3;clear he HA HB b7 HBD b8 b9 a0 c8 d0;have b6:(s<m/\m<e/\a<s/\e<b)∨(s<m/\m<e/\a<s/\¬ e<b)∨(s<m/\m<e/\¬ a<s/\e<b)∨(s<m/\m<e/\¬ a<s/\¬ e<b)∨(¬ s<m/\m<e)∨(¬ s<m/\¬ m<e)∨(s<m/\¬ m<e/\a<s)∨(s<m/\¬ m<e/\¬ a<s):=by omega
    rcases b6 with f | f | f | f | f | f | f | f
    ·have B:s<m:=by have:=d.out; omega
     have o:(s:Int)<(m:Int):=by omega
     have N:m<e:=by have:=d.out; omega
     have C:(m:Int)<(e:Int):=by omega
     have G:a<s:=by have:=d.out; omega
     have p:(a:Int)<(s:Int):=by omega
     have c4:s<mid:=by have:=d.out; omega
     have O:(s:Int)<(mid:Int):=by omega
     have E:mid<e:=by have:=d.out; omega
     have u:(mid:Int)<(e:Int):=by omega
     have P:e<b:=by have:=d.out; omega
     have F:(e:Int)<(b:Int):=by omega
     clear f;go_wp2_with fail
     refine(R1.out B N _ H).mono ?_;rintro _ y ⟨rfl,H⟩;go_wp2_with fail
     refine(R2.out G c4 _ H).mono ?_;rintro _ y ⟨rfl,H⟩;go_wp2_with fail
     refine(R3.out E P _ H).mono ?_;rintro _ y ⟨rfl,H⟩;go_wp2_with fail
     go_end0;exact⟨rfl,H⟩
    ·have B:s<m:=by have:=d.out; omega
     have o:(s:Int)<(m:Int):=by omega
     have N:m<e:=by have:=d.out; omega
     have C:(m:Int)<(e:Int):=by omega
     have G:a<s:=by have:=d.out; omega
     have p:(a:Int)<(s:Int):=by omega
     have c4:s<mid:=by have:=d.out; omega
     have O:(s:Int)<(mid:Int):=by omega
     have E:mid<e:=by have:=d.out; omega
     have u:(mid:Int)<(e:Int):=by omega
     have P:¬ e<b:=by have:=d.out; omega
     have F:¬ (e:Int)<(b:Int):=by omega
     clear f;go_wp2_with fail
     refine(R1.out B N _ H).mono ?_;rintro _ y ⟨rfl,H⟩;go_wp2_with fail
     refine(R2.out G c4 _ H).mono ?_;rintro _ y ⟨rfl,H⟩;go_wp2_with fail
     rw [N3.out (by omega)] at H;go_end0;exact⟨rfl,H⟩
    ·have B:s<m:=by have:=d.out; omega
     have o:(s:Int)<(m:Int):=by omega
     have N:m<e:=by have:=d.out; omega
     have C:(m:Int)<(e:Int):=by omega
     have G:¬ a<s:=by have:=d.out; omega
     have p:¬ (a:Int)<(s:Int):=by omega
     have E:mid<e:=by have:=d.out; omega
     have u:(mid:Int)<(e:Int):=by omega
     have P:e<b:=by have:=d.out; omega
     have F:(e:Int)<(b:Int):=by omega
     clear f;go_wp2_with fail
     refine(R1.out B N _ H).mono ?_;rintro _ y ⟨rfl,H⟩;go_wp2_with fail
     rw [N2.out (by omega)] at H;refine(R3.out E P _ H).mono ?_;rintro _ y ⟨rfl,H⟩;go_wp2_with fail
     go_end0;exact⟨rfl,H⟩
    ·have B:s<m:=by have:=d.out; omega
     have o:(s:Int)<(m:Int):=by omega
     have N:m<e:=by have:=d.out; omega
     have C:(m:Int)<(e:Int):=by omega
     have G:¬ a<s:=by have:=d.out; omega
     have p:¬ (a:Int)<(s:Int):=by omega
     have E:mid<e:=by have:=d.out; omega
     have u:(mid:Int)<(e:Int):=by omega
     have P:¬ e<b:=by have:=d.out; omega
     have F:¬ (e:Int)<(b:Int):=by omega
     clear f;go_wp2_with fail
     refine(R1.out B N _ H).mono ?_;rintro _ y ⟨rfl,H⟩;go_wp2_with fail
     rw [N2.out (by omega)] at H;rw [N3.out (by omega)] at H;go_end0;exact⟨rfl,H⟩
    ·have B:¬ s<m:=by have:=d.out; omega
     have o:¬ (s:Int)<(m:Int):=by omega
     have G:a<s:=by have:=d.out; omega
     have p:(a:Int)<(s:Int):=by omega
     have c4:s<mid:=by have:=d.out; omega
     have O:(s:Int)<(mid:Int):=by omega
     have E:¬ mid<e:=by have:=d.out; omega
     have u:¬ (mid:Int)<(e:Int):=by omega
     clear f;go_wp2_with fail
     rw [N1.out (by omega)] at H;refine(R2.out G c4 _ H).mono ?_;rintro _ y ⟨rfl,H⟩;go_wp2_with fail
     rw [N3.out (by omega)] at H;go_end0;exact⟨rfl,H⟩
    ·have B:¬ s<m:=by have:=d.out; omega
     have o:¬ (s:Int)<(m:Int):=by omega
     have G:a<s:=by have:=d.out; omega
     have p:(a:Int)<(s:Int):=by omega
     have c4:¬ s<mid:=by have:=d.out; omega
     have O:¬ (s:Int)<(mid:Int):=by omega
     have E:¬ mid<e:=by have:=d.out; omega
     have u:¬ (mid:Int)<(e:Int):=by omega
     clear f;go_wp2_with fail
     rw [N1.out (by omega)] at H;rw [N2.out (by omega)] at H;rw [N3.out (by omega)] at H;go_end0;exact⟨rfl,H⟩
    ·have B:s<m:=by have:=d.out; omega
     have o:(s:Int)<(m:Int):=by omega
     have N:¬ m<e:=by have:=d.out; omega
     have C:¬ (m:Int)<(e:Int):=by omega
     have G:a<s:=by have:=d.out; omega
     have p:(a:Int)<(s:Int):=by omega
     have c4:¬ s<mid:=by have:=d.out; omega
     have O:¬ (s:Int)<(mid:Int):=by omega
     have E:mid<e:=by have:=d.out; omega
     have u:(mid:Int)<(e:Int):=by omega
     have P:e<b:=by have:=d.out; omega
     have F:(e:Int)<(b:Int):=by omega
     clear f;go_wp2_with fail
     rw [N1.out (by omega)] at H;rw [N2.out (by omega)] at H;refine(R3.out E P _ H).mono ?_;rintro _ y ⟨rfl,H⟩;go_wp2_with fail
     go_end0;exact⟨rfl,H⟩
    ·have B:s<m:=by have:=d.out; omega
     have o:(s:Int)<(m:Int):=by omega
     have N:¬ m<e:=by have:=d.out; omega
     have C:¬ (m:Int)<(e:Int):=by omega
     have G:¬ a<s:=by have:=d.out; omega
     have p:¬ (a:Int)<(s:Int):=by omega
     have E:mid<e:=by have:=d.out; omega
     have u:(mid:Int)<(e:Int):=by omega
     have P:e<b:=by have:=d.out; omega
     have F:(e:Int)<(b:Int):=by omega
     clear f;go_wp2_with fail
     rw [N1.out (by omega)] at H;rw [N2.out (by omega)] at H;refine(R3.out E P _ H).mono ?_;rintro _ y ⟨rfl,H⟩;go_wp2_with fail
     go_end0;exact⟨rfl,H⟩
 ·have kk:¬ (mid:Int)<(m:Int):=by omega
  go_enter Tryz.func156,Tryz.ntmps156
  go_wp2_with fail
  go_loopw [20,21] (fun iv jv wr=>∃i j:Nat,iv=.int .i64 i/\jv=.int .i64 j/\a<=i/\i<=j/\j<=m/\Hid (i=a∨(U.getD (i - 1 - a) pk0).c<=(V.getD (nn - i - m) pk0).c)/\Hid (j=m∨(V.getD (nn - 1 - j - m) pk0).c<(U.getD (j - a) pk0).c)/\Sp w0 (RowK (.slice (some ad) n c) D::L) wr) (fun iv jv _=>(intOf jv).toNat - (intOf iv).toNat)
  case atStart=>exact⟨a,m,rfl,rfl,Nat.le_refl _,hin.2.2.2.2,Nat.le_refl _,hid (.inl rfl),hid (.inl rfl),H⟩
  case round =>
   clear H;obtain⟨i,j,rfl,rfl,c7,c8,c9,HA,HB,H⟩:=hrel;by_cases d0:i<j
   ·have k1:(i:Int)<(j:Int):=by omega
    obtain⟨h,hh⟩:=exq ((i+j) / 2);have d3:i<=h:=by omega
    have e7:h<j:=by omega
    have y6:((i:Int)+(j:Int)) / 2=(h:Int):=by omega
    clear hh;obtain⟨q,f⟩:=exq (pp - h);have e8:h<=pp:=by have:=I.out; omega
    have y7:(pp:Int) - (h:Int)=(q:Int):=by omega
    obtain⟨t,ht⟩:∃t,h=a+t:=⟨h - a,by omega⟩;obtain⟨z,hz⟩:∃z,q=m+z:=⟨q - m,by have:=I.out; omega⟩;have a3:t<U.length:=by have:=a1.out; omega
    have a4:z<V.length:=by have:=a1.out; have:=I.out; omega
    obtain⟨pu,W⟩:=exq (U.getD t pk0);obtain⟨pv,Z⟩:=exq (V.getD z pk0);have Q:D.getD h pk0=pu:=by rw [ht,b8.out t a3,W]
    have R:D.getD q pk0=pv:=by rw [hz,b9.out z a4,Z]
    have a5:=hid Q;have a6:=hid R;have a7:=hid W;have a8:=hid Z;have a9:Hid (h=a+t/\q=m+z/\pp - h=q):=hid ⟨ht,hz,f⟩;have e9:q<b:=by have:=a1.out; omega
    have kh:(h:Int)<(n:Int):=by omega
    have kq:(q:Int)<(n:Int):=by omega
    have b0:h<D.length:=by have:=a0.out; omega
    have b1:q<D.length:=by have:=a0.out; omega
    have Bh:=hid b0;have Bq:=hid b1;obtain⟨r,hr⟩:=exq (decide (cmpI pv.c pu.c<0));clear ht a3 hz a4 W Z Q R b0 b1 f;go_wp2_with fail
    refine Zb (L:=RowK (.slice (some ad) n c) D::L) [some (cmpF),some (.slice (some ad) n c),some (.int .i64 pp),some (.int .i64 h),some (.int .i64 q),some (.pointer (some (ad.add (q * 3)))),some (pv.val),some (.slice (some ad) n c),some (.int .i64 h),some (.pointer (some (ad.add (h * 3)))),some (pu.val),some (.int .i64 (cmpI pv.c pu.c)),some (.bool r),some (.bool (!r))] (fun _ _=>True) (fun _ _=>[]) (fun _=>[]) 14 220
     [some 158,some 159,some 160,some 161,some 162,some 163,some 164,some 165,some 166,some 167,some 168,some 169,some 170,some 171]
     [[],[],[],[],[2,3],[1,4],[5],[],[],[7,8],[9],[0,6,10],[11],[12]]
     [[],[],[],[],[2,3],[1,2,3,4],[1,2,3,4,5],[],[],[7,8],[7,8,9],[0,1,2,3,4,5,6,7,8,9,10],[0,1,2,3,4,5,6,7,8,9,10,11],[0,1,2,3,4,5,6,7,8,9,10,11,12]]
     [[],[],[],[],[],[],[],[],[],[],[],[],[],[]] [[],[],[],[],[],[],[],[],[],[],[],[],[],[]] [(0,.slice (some ad) n c),(4,cmpF),(22,.int .i64 pp),(23,.int .i64 h)]
     (by kernel_rfl) rfl (by decide) (by rfl) (by decide +kernel) rfl rfl (by simp) (H) ?hstep ?hend
    case hstep =>
     refine⟨?p0,⟨?p1,⟨?p2,⟨?p3,⟨?p4,⟨?p5,⟨?p6,⟨?p7,⟨?p8,⟨?p9,⟨?p10,⟨?p11,⟨?p12,⟨?p13,trivial⟩⟩⟩⟩⟩⟩⟩⟩⟩⟩⟩⟩⟩⟩
     case p0 | p1 | p2 | p3 | p4 | p5 | p7 | p8 | p9 | p12 | p13 =>
      intro x wx A v k S l hE H K M;replace M:=hid M;clear l hE k;repeat (obtain⟨_,S⟩:=S)
      refine so ?_;go_step;exact M.out _ _ rfl H
     case p6 =>
      intro x wx A v k S l hE H K g;have b2:=tq l 5;have M:=hid g;clear g S l k;refine so ?_;exact Zc 143 _ rfl _ pv.cells (ev b2) (by rw [<- a6.out]; exact hE (fun w=>∀jj vv,(D.getD q pk0).cells[jj]?=some vv->w.cell? ((ad.add (q * 3)).add jj)=some vv) (fun _ _ H=>RowK.rd H 0 rfl q Bq.out) _ _ H) Tryz.isAgg143 Tryz.sizeOf143 (M.out _ _ rfl H)
     case p10 =>
      intro x wx A v k S l hE H K g;have b3:=tq l 9;have M:=hid g;clear g S l k;refine so ?_;exact Zc 143 _ rfl _ pu.cells (ev b3) (by rw [<- a5.out]; exact hE (fun w=>∀jj vv,(D.getD h pk0).cells[jj]?=some vv->w.cell? ((ad.add (h * 3)).add jj)=some vv) (fun _ _ H=>RowK.rd H 0 rfl h Bh.out) _ _ H) Tryz.isAgg143 Tryz.sizeOf143 (M.out _ _ rfl H)
     case p11 =>
      intro x wx A v k S l hE H K g;have e0:=tq l 0;have e1:=tq l 6;have e2:=tq l 10;have M:=hid g;clear g S l hE k;refine so ?_;unfold cmpF at *;go_wp2_with fail
      refine(YN pv pu H).mono ?_;rintro _ y ⟨rfl,H9⟩;exact M.out _ _ rfl H9
    case hend =>
     intro x wx A hA l H;replace H:Sp w0 (_::L) wx:=H;have b4:x 13=.bool (!r):=l 13 (by decide);clear l;simp only [putAll,Act.put,List.setIfInBounds_toArray,List.set_cons_succ,List.set_cons_zero,Nat.reduceAdd] at hA;subst hA;rw [b4];clear b4;rw [Xm] at hr;cases r
     ·have d4:pu.c<=pv.c:=by have:=of_decide_eq_false hr; omega
      clear hr;go_wp2_with fail
      go_roundw
      case rel =>
       refine⟨h+1,j,by go_num,rfl,by omega,by omega,c9,hid (.inr ?_),HB,H⟩;have:=a9.out; have:=I.out
       rw [show h+1 - 1 - a=t by omega,show nn - (h+1) - m=z by omega,a7.out,a8.out];exact d4
      case measure=>first | (simp [intOf]; omega) | simp [intOf]
     ·have b5:pv.c<pu.c:=of_decide_eq_true hr;clear hr;go_wp2_with fail
      go_roundw
      case rel =>
       refine⟨i,h,rfl,rfl,c7,d3,by omega,HA,hid (.inr ?_),H⟩;have:=a9.out; have:=I.out
       rw [show nn - 1 - h - m=z by omega,show h - a=t by omega,a7.out,a8.out];exact b5
      case measure=>first | (simp [intOf]; omega) | simp [intOf]
   ·have k1:¬ (i:Int)<(j:Int):=by omega
    obtain rfl:i=j:=by omega
    obtain⟨s,rfl⟩:∃s,s=i:=⟨i,rfl⟩;obtain⟨e,he⟩:=exq (nn - s);have f0:s<=nn:=by have:=I.out; omega
    have y8:(nn:Int) - (s:Int)=(e:Int):=by omega
    have d:Hid (s+e=mid+m/\nn - s=e):=hid ⟨by have:=I.out; omega,he⟩;have g1:a<=s:=by omega
    have g2:s<=m:=by omega
    have g3:m<=e:=by have:=I.out; omega
    have g4:e<=b:=by have:=I.out; omega
    obtain⟨D1,D2,R1,N1,R2,N2,R3,N3⟩:=b7.out s e g1 g2 d.out.1 g3 g4
     (by
      rcases HA.out with h | h
      ·rcases HBD.out.1 with h2 | h2
       ·exact .inl (by omega)
       ·exact .inr (.inl (by omega))
      ·rw [he] at h; exact .inr (.inr h))
     (by
      rcases HB.out with h | h
      ·rcases HBD.out.2 with h2 | h2
       ·exact .inl (by omega)
       ·exact .inr (.inl (by have:=I.out; omega))
      ·rw [show nn - 1 - s - m=e - 1 - m by omega] at h; exact .inr (.inr h))
    replace R1:=hid R1;replace N1:=hid N1;replace R2:=hid R2;replace N2:=hid N2;replace R3:=hid R3;replace N3:=hid N3;clear he HA HB b7 HBD b8 b9 a0 c8 d0;have b6:(s<m/\m<e/\a<s/\e<b)∨(s<m/\m<e/\a<s/\¬ e<b)∨(s<m/\m<e/\¬ a<s/\e<b)∨(s<m/\m<e/\¬ a<s/\¬ e<b)∨(¬ s<m/\m<e)∨(¬ s<m/\¬ m<e)∨(s<m/\¬ m<e/\a<s)∨(s<m/\¬ m<e/\¬ a<s):=by omega
    rcases b6 with f | f | f | f | f | f | f | f
    ·have B:s<m:=by have:=d.out; omega
     have o:(s:Int)<(m:Int):=by omega
     have N:m<e:=by have:=d.out; omega
     have C:(m:Int)<(e:Int):=by omega
     have G:a<s:=by have:=d.out; omega
     have p:(a:Int)<(s:Int):=by omega
     have c4:s<mid:=by have:=d.out; omega
     have O:(s:Int)<(mid:Int):=by omega
     have E:mid<e:=by have:=d.out; omega
     have u:(mid:Int)<(e:Int):=by omega
     have P:e<b:=by have:=d.out; omega
     have F:(e:Int)<(b:Int):=by omega
     clear f;go_wp2_with fail
     refine(R1.out B N _ H).mono ?_;rintro _ y ⟨rfl,H⟩;go_wp2_with fail
     refine(R2.out G c4 _ H).mono ?_;rintro _ y ⟨rfl,H⟩;go_wp2_with fail
     refine(R3.out E P _ H).mono ?_;rintro _ y ⟨rfl,H⟩;go_wp2_with fail
     go_end0;exact⟨rfl,H⟩
    ·have B:s<m:=by have:=d.out; omega
     have o:(s:Int)<(m:Int):=by omega
     have N:m<e:=by have:=d.out; omega
     have C:(m:Int)<(e:Int):=by omega
     have G:a<s:=by have:=d.out; omega
     have p:(a:Int)<(s:Int):=by omega
     have c4:s<mid:=by have:=d.out; omega
     have O:(s:Int)<(mid:Int):=by omega
     have E:mid<e:=by have:=d.out; omega
     have u:(mid:Int)<(e:Int):=by omega
     have P:¬ e<b:=by have:=d.out; omega
     have F:¬ (e:Int)<(b:Int):=by omega
     clear f;go_wp2_with fail
     refine(R1.out B N _ H).mono ?_;rintro _ y ⟨rfl,H⟩;go_wp2_with fail
     refine(R2.out G c4 _ H).mono ?_;rintro _ y ⟨rfl,H⟩;go_wp2_with fail
     rw [N3.out (by omega)] at H;go_end0;exact⟨rfl,H⟩
    ·have B:s<m:=by have:=d.out; omega
     have o:(s:Int)<(m:Int):=by omega
     have N:m<e:=by have:=d.out; omega
     have C:(m:Int)<(e:Int):=by omega
     have G:¬ a<s:=by have:=d.out; omega
     have p:¬ (a:Int)<(s:Int):=by omega
     have E:mid<e:=by have:=d.out; omega
     have u:(mid:Int)<(e:Int):=by omega
     have P:e<b:=by have:=d.out; omega
     have F:(e:Int)<(b:Int):=by omega
     clear f;go_wp2_with fail
     refine(R1.out B N _ H).mono ?_;rintro _ y ⟨rfl,H⟩;go_wp2_with fail
     rw [N2.out (by omega)] at H;refine(R3.out E P _ H).mono ?_;rintro _ y ⟨rfl,H⟩;go_wp2_with fail
     go_end0;exact⟨rfl,H⟩
    ·have B:s<m:=by have:=d.out; omega
     have o:(s:Int)<(m:Int):=by omega
     have N:m<e:=by have:=d.out; omega
     have C:(m:Int)<(e:Int):=by omega
     have G:¬ a<s:=by have:=d.out; omega
     have p:¬ (a:Int)<(s:Int):=by omega
     have E:mid<e:=by have:=d.out; omega
     have u:(mid:Int)<(e:Int):=by omega
     have P:¬ e<b:=by have:=d.out; omega
     have F:¬ (e:Int)<(b:Int):=by omega
     clear f;go_wp2_with fail
     refine(R1.out B N _ H).mono ?_;rintro _ y ⟨rfl,H⟩;go_wp2_with fail
     rw [N2.out (by omega)] at H;rw [N3.out (by omega)] at H;go_end0;exact⟨rfl,H⟩
    ·have B:¬ s<m:=by have:=d.out; omega
     have o:¬ (s:Int)<(m:Int):=by omega
     have G:a<s:=by have:=d.out; omega
     have p:(a:Int)<(s:Int):=by omega
     have c4:s<mid:=by have:=d.out; omega
     have O:(s:Int)<(mid:Int):=by omega
     have E:¬ mid<e:=by have:=d.out; omega
     have u:¬ (mid:Int)<(e:Int):=by omega
     clear f;go_wp2_with fail
     rw [N1.out (by omega)] at H;refine(R2.out G c4 _ H).mono ?_;rintro _ y ⟨rfl,H⟩;go_wp2_with fail
     rw [N3.out (by omega)] at H;go_end0;exact⟨rfl,H⟩
    ·have B:¬ s<m:=by have:=d.out; omega
     have o:¬ (s:Int)<(m:Int):=by omega
     have G:a<s:=by have:=d.out; omega
     have p:(a:Int)<(s:Int):=by omega
     have c4:¬ s<mid:=by have:=d.out; omega
     have O:¬ (s:Int)<(mid:Int):=by omega
     have E:¬ mid<e:=by have:=d.out; omega
     have u:¬ (mid:Int)<(e:Int):=by omega
     clear f;go_wp2_with fail
     rw [N1.out (by omega)] at H;rw [N2.out (by omega)] at H;rw [N3.out (by omega)] at H;go_end0;exact⟨rfl,H⟩
    ·have B:s<m:=by have:=d.out; omega
     have o:(s:Int)<(m:Int):=by omega
     have N:¬ m<e:=by have:=d.out; omega
     have C:¬ (m:Int)<(e:Int):=by omega
     have G:a<s:=by have:=d.out; omega
     have p:(a:Int)<(s:Int):=by omega
     have c4:¬ s<mid:=by have:=d.out; omega
     have O:¬ (s:Int)<(mid:Int):=by omega
     have E:mid<e:=by have:=d.out; omega
     have u:(mid:Int)<(e:Int):=by omega
     have P:e<b:=by have:=d.out; omega
     have F:(e:Int)<(b:Int):=by omega
     clear f;go_wp2_with fail
     rw [N1.out (by omega)] at H;rw [N2.out (by omega)] at H;refine(R3.out E P _ H).mono ?_;rintro _ y ⟨rfl,H⟩;go_wp2_with fail
     go_end0;exact⟨rfl,H⟩
    ·have B:s<m:=by have:=d.out; omega
     have o:(s:Int)<(m:Int):=by omega
     have N:¬ m<e:=by have:=d.out; omega
     have C:¬ (m:Int)<(e:Int):=by omega
     have G:¬ a<s:=by have:=d.out; omega
     have p:¬ (a:Int)<(s:Int):=by omega
     have E:mid<e:=by have:=d.out; omega
     have u:(mid:Int)<(e:Int):=by omega
     have P:e<b:=by have:=d.out; omega
     have F:(e:Int)<(b:Int):=by omega
     clear f;go_wp2_with fail
     rw [N1.out (by omega)] at H;rw [N2.out (by omega)] at H;refine(R3.out E P _ H).mono ?_;rintro _ y ⟨rfl,H⟩;go_wp2_with fail
     go_end0;exact⟨rfl,H⟩
theorem UX (ad:Addr) (n c:Nat) (hl:n<=1000000) (w0:World) (L:List Pr):∀k,SymIH n c ad w0 L k:=by
 intro k;induction k using Nat.strongRecOn with
 | _ k ih =>
  intro X U V Y a m b p d g e f q r l o w H;have s:U.length≠0:=fun h=>q (List.eq_nil_of_length_eq_zero h);have t:V.length≠0:=fun h=>r (List.eq_nil_of_length_eq_zero h);by_cases i:U.length=1
  ·obtain⟨u,rfl⟩:=List.length_eq_one_iff.1 i;exact Td ad n c X V Y u a m b H (by rw [i] at d; exact d) hl g (by rw [i] at e; exact e) f o
  ·by_cases j:V.length=1
   ·obtain⟨v,rfl⟩:=List.length_eq_one_iff.1 j;exact Te ad n c X U Y v a m b H (by rw [j] at d; exact d) hl g e (by rw [j] at f; exact f) (by omega) l
   ·exact Tf ad n c X U V Y a m b H d hl g e f (by omega) (by omega) l o (ih (b - a) p)
end Go.Proofs.YteajimobgkempaaGreatDoor

