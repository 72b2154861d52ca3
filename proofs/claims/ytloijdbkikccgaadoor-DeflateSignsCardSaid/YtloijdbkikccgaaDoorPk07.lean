/- A pack of texts: SortE. -/
import Derived.Test.YtloijdbkikccgaaDoorPk06
namespace Go.Proofs.YtloijdbkikccgaaDoor
open Go.RowKit
namespace SS
theorem srt_sub {u v:List PK} (h:Srt keyK (u++v)):Srt keyK u/\Srt keyK v:=⟨(List.pairwise_append.1 h).1,(List.pairwise_append.1 h).2.1⟩
theorem sym_plain {U V:List PK} (hU:Srt keyK U) (hV:Srt keyK V) {a m b s e:Nat} (hm:a+U.length=m) (hb:m+V.length=b) (has:a<=s) (hsm:s<=m) (hme:m<=e) (heb:e<=b)
  (A:s=a∨e=b∨(U.getD (s - 1 - a) pk0).c<=(V.getD (e - m) pk0).c) (B:s=m∨e=m∨(V.getD (e - 1 - m) pk0).c<(U.getD (s - a) pk0).c) :
  ∃u1 u2 v1 v2,U=u1++u2/\V=v1++v2/\a+u1.length=s/\s+u2.length=m/\m+v1.length=e/\e+v2.length=b/\mrg keyK U V=mrg keyK u1 v1++mrg keyK u2 v2/\Srt keyK u1/\Srt keyK u2/\Srt keyK v1/\Srt keyK v2:=by
 have hsU:=srt_at hU
 have hsV:=srt_at hV
 have eU:U.take (s - a)++U.drop (s - a)=U:=List.take_append_drop _ _
 have eV:V.take (e - m)++V.drop (e - m)=V:=List.take_append_drop _ _
 refine⟨U.take (s - a),U.drop (s - a),V.take (e - m),V.drop (e - m),eU.symm,eV.symm,by rw [List.length_take]; omega,by rw [List.length_drop]; omega,by rw [List.length_take]; omega,by rw [List.length_drop]; omega,?_,(srt_sub (by rw [eU]; exact hU)).1,(srt_sub (by rw [eU]; exact hU)).2,(srt_sub (by rw [eV]; exact hV)).1,(srt_sub (by rw [eV]; exact hV)).2⟩
 have h:=mrg_split (key:=keyK) (u1:=U.take (s - a)) (u2:=U.drop (s - a)) (v1:=V.take (e - m)) (v2:=V.drop (e - m)) (by rw [eV]; exact hV) ?_ ?_
 ·rw [eU,eV] at h; exact h
 ·intro x hx y hy
  revert y
  refine all_drop (p:=fun y=>x.c<=y.c) fun t ht1 ht2=>?_
  revert x
  refine all_take (p:=fun x=>x.c<=(V.getD t pk0).c) fun q hq1 hq2=>?_
  rcases A with A | A | A
  ·omega
  ·omega
  ·exact Int.le_trans (Int.le_trans (hsU q (s - 1 - a) (by omega) (by omega)) A) (hsV (e - m) t (by omega) ht2)
 ·intro x hx y hy
  revert y
  refine all_take (p:=fun y=>y.c<x.c) fun t ht1 ht2=>?_
  revert x
  refine all_drop (p:=fun x=>(V.getD t pk0).c<x.c) fun q hq1 hq2=>?_
  rcases B with B | B | B
  ·omega
  ·omega
  ·exact Int.lt_of_le_of_lt (hsV t (e - 1 - m) (by omega) (by omega)) (Int.lt_of_lt_of_le B (hsU (s - a) q (by omega) hq2))
end SS
def SymG (n c:Nat) (ad:Addr) (w0:World) (L:List Pr) (D D' : List PK) (a m b:Nat):Prop:=∀w,Sp w0 (RowK (.slice (some ad) n c) D::L) w ->
 Calls Tryd.prog 159 #[.slice (some ad) n c,.int .i64 (a:Int),.int .i64 (m:Int),.int .i64 (b:Int),cmpF] w fun e w'=>e=.returned (.tuple #[])/\Sp w0 (RowK (.slice (some ad) n c) D'::L) w'
def RotG (n c:Nat) (ad:Addr) (w0:World) (L:List Pr) (D D' : List PK) (a m b:Nat):Prop:=∀w,Sp w0 (RowK (.slice (some ad) n c) D::L) w ->
 Calls Tryd.prog 165 #[.slice (some ad) n c,.int .i64 (a:Int),.int .i64 (m:Int),.int .i64 (b:Int),cmpF] w fun e w'=>e=.returned (.tuple #[])/\Sp w0 (RowK (.slice (some ad) n c) D'::L) w'
def SymIH (n c:Nat) (ad:Addr) (w0:World) (L:List Pr) (k:Nat):Prop:=∀(X U V Y:List PK) (a m b:Nat),b - a<k->n=X.length+U.length+V.length+Y.length->X.length=a->a+U.length=m->m+V.length=b->U≠[]->V≠[]->SS.Srt keyK U->SS.Srt keyK V ->
 SymG n c ad w0 L (X++U++V++Y) (X++SS.mrg keyK U V++Y) a m b
theorem sym_steps (ad:Addr) (n c:Nat) (X U V Y:List PK) (a m b mid s e:Nat) (w0:World) (L:List Pr) (hn:n=X.length+U.length+V.length+Y.length) (hl:n<=1000000) (ha:X.length=a) (hm:a+U.length=m) (hb:m+V.length=b) (hu2:2<=U.length) (hv2:2<=V.length) (hU:SS.Srt keyK U) (hV:SS.Srt keyK V)
  (IH:SymIH n c ad w0 L (b - a)) (hmid:(a+b) / 2=mid) (has:a<=s) (hsm:s<=m) (hse:s+e=mid+m) (hme:m<=e) (heb:e<=b)
  (A:s=a∨e=b∨(U.getD (s - 1 - a) pk0).c<=(V.getD (e - m) pk0).c) (B:s=m∨e=m∨(V.getD (e - 1 - m) pk0).c<(U.getD (s - a) pk0).c) :
  ∃D1 D2,(s<m->m<e->RotG n c ad w0 L (X++U++V++Y) D1 s m e)/\(¬ (s<m/\m<e)->X++U++V++Y=D1) /\
   (a<s->s<mid->SymG n c ad w0 L D1 D2 a s mid)/\(¬ (a<s/\s<mid)->D1=D2) /\
   (mid<e->e<b->SymG n c ad w0 L D2 (X++SS.mrg keyK U V++Y) mid e b)/\(¬ (mid<e/\e<b)->D2=X++SS.mrg keyK U V++Y):=by
 obtain⟨u1,u2,v1,v2,rfl,rfl,h1,h2,h3,h4,hres,su1,su2,sv1,sv2⟩:=SS.sym_plain hU hV hm hb has hsm hme heb A B
 rw [List.length_append] at hn hm hb hu2 hv2
 rw [List.length_append] at hn
 refine⟨X++u1++v1++u2++v2++Y,X++SS.mrg keyK u1 v1++u2++v2++Y,fun k1 k2 w H=>?_,fun k=>?_,fun k1 k2 w H=>?_,fun k=>?_,fun k1 k2 w H=>?_,fun k=>?_⟩
 ·have h:=rotate_ok ad n c (X++u1) u2 v1 (v2++Y) s m e (w0:=w0) (w:=w) (L:=L) (by simpa using H) (by simp only [List.length_append]; omega) hl (by rw [List.length_append]; omega) h2 h3 (by rintro rfl; simp at h2; omega) (by rintro rfl; simp at h3; omega)
  simpa using h
 ·rcases Nat.lt_or_ge s m with k1 | k1
  ·have:v1=[]:=List.eq_nil_of_length_eq_zero (by omega)
   subst this; simp
  ·have:u2=[]:=List.eq_nil_of_length_eq_zero (by omega)
   subst this; simp
 ·have h:=IH X u1 v1 (u2++v2++Y) a s mid (by omega) (by simp only [List.length_append]; omega) ha h1 (by omega) (by rintro rfl; simp at h1; omega) (by rintro rfl; simp at h3; omega) su1 sv1 w (by simpa using H)
  simpa using h
 ·have:SS.mrg keyK u1 v1=u1++v1:=by
   rcases Nat.lt_or_ge a s with k1 | k1
   ·have:v1=[]:=List.eq_nil_of_length_eq_zero (by omega)
    subst this; simp [SS.mrg]
   ·have:u1=[]:=List.eq_nil_of_length_eq_zero (by omega)
    subst this
    rw [SS.mrg_nil sv1]; rfl
  rw [this]; simp
 ·have hl1:=SS.len_mrg (key:=keyK) u1 v1
  have h:=IH (X++SS.mrg keyK u1 v1) u2 v2 Y mid e b (by omega) (by rw [List.length_append,hl1]; omega) (by rw [List.length_append,hl1]; omega) (by omega) h4 (by rintro rfl; simp at h2; omega) (by rintro rfl; simp at h4; omega) su2 sv2 w (by simpa using H)
  rw [hres]
  simpa using h
 ·have:SS.mrg keyK u2 v2=u2++v2:=by
   rcases Nat.lt_or_ge mid e with k1 | k1
   ·have:v2=[]:=List.eq_nil_of_length_eq_zero (by omega)
    subst this; simp [SS.mrg]
   ·have:u2=[]:=List.eq_nil_of_length_eq_zero (by omega)
    subst this
    rw [SS.mrg_nil sv2]; rfl
  rw [hres,this]; simp
set_option maxRecDepth 100000 in
set_option maxHeartbeats 8000000 in
theorem sym3_ok (ad:Addr) (n c:Nat) (X U V Y:List PK) (a m b:Nat) {w0 w:World} {L:List Pr} (H:Sp w0 (RowK (.slice (some ad) n c) (X++U++V++Y)::L) w) (hn:n=X.length+U.length+V.length+Y.length) (hl:n<=1000000) (ha:X.length=a) (hm:a+U.length=m) (hb:m+V.length=b) (hu2:2<=U.length) (hv2:2<=V.length) (hU:SS.Srt keyK U) (hV:SS.Srt keyK V)
  (IH:SymIH n c ad w0 L (b - a)) :
  Calls Tryd.prog 159 #[.slice (some ad) n c,.int .i64 (a:Int),.int .i64 (m:Int),.int .i64 (b:Int),cmpF] w fun e w'=>e=.returned (.tuple #[]) /\
   Sp w0 (RowK (.slice (some ad) n c) (X++SS.mrg keyK U V++Y)::L) w':=by
 obtain⟨mid,hmid⟩:∃mid,(a+b) / 2=mid:=⟨_,rfl⟩
 have hsteps:=fun s e has hsm hse hme heb=>sym_steps ad n c X U V Y a m b mid s e w0 L hn hl ha hm hb hu2 hv2 hU hV IH hmid has hsm hse hme heb
 obtain⟨T,hT⟩:∃T,X++SS.mrg keyK U V++Y=T:=⟨_,rfl⟩
 obtain⟨D,hD⟩:∃D,X++U++V++Y=D:=⟨_,rfl⟩
 rw [hT]
 rw [hT,hD] at hsteps
 rw [hD] at H
 have HST:=Lib.hid hsteps
 obtain⟨d1,hd1⟩:∃d,m - a=d:=⟨_,rfl⟩
 obtain⟨d2,hd2⟩:∃d,b - m=d:=⟨_,rfl⟩
 have y0:(m:Int) - (a:Int)=(d1:Int):=by omega
 have kd1:((d1:Int) == 1)=false:=by rw [beq_eq_false_iff_ne]; omega
 have y1:(b:Int) - (m:Int)=(d2:Int):=by omega
 have kd2:((d2:Int) == 1)=false:=by rw [beq_eq_false_iff_ne]; omega
 have y2:((a:Int)+(b:Int)) / 2=(mid:Int):=by omega
 obtain⟨nn,hnn⟩:∃nn,mid+m=nn:=⟨_,rfl⟩
 have y3:(mid:Int)+(m:Int)=(nn:Int):=by omega
 obtain⟨pp,hpp⟩:∃pp,nn=pp+1:=⟨nn - 1,by omega⟩
 have y4:(nn:Int) - 1=(pp:Int):=by omega
 have hDU:∀t,t<U.length->D.getD (a+t) pk0=U.getD t pk0:=fun t ht=>by
  rw [<- hD,show X++U++V++Y=X++(U++(V++Y)) by simp,List.getD_eq_getElem?_getD,List.getElem?_append_right (by omega),List.getElem?_append_left (by omega),List.getD_eq_getElem?_getD,ha,show a+t - a=t by omega]
 have hDV:∀t,t<V.length->D.getD (m+t) pk0=V.getD t pk0:=fun t ht=>by
  rw [<- hD,show X++U++V++Y=(X++U)++(V++Y) by simp,List.getD_eq_getElem?_getD,List.getElem?_append_right (by rw [List.length_append]; omega),List.getElem?_append_left (by rw [List.length_append]; omega),List.getD_eq_getElem?_getD,List.length_append,ha,hm,show m+t - m=t by omega]
 have hDl:D.length=n:=by rw [<- hD]; simp only [List.length_append]; omega
 have HDU:=Lib.hid hDU
 have HDV:=Lib.hid hDV
 have HDL:=Lib.hid hDl
 have HUV:Hid (a+U.length=m/\m+V.length=b):=Lib.hid ⟨hm,hb⟩
 have HN:Hid (mid+m=nn/\nn=pp+1/\(a+b) / 2=mid):=Lib.hid ⟨hnn,hpp,hmid⟩
 have hbn:b<=n:=by omega
 have kam:a+2<=m:=by omega
 have kmb:m+2<=b:=by omega
 have kmid1:a<mid:=by omega
 have kmid2:mid<b:=by omega
 have knn:nn<=2000000:=by omega
 have hcase:(mid<m/\∃s0,nn - b=s0/\(a<=s0/\mid<=m/\m+mid<=nn/\nn<=b+s0/\s0<=mid)/\Hid ((s0=a∨nn=b+s0)/\(mid=m∨m+mid=nn))/\(nn:Int) - (b:Int)=(s0:Int))∨(m<=mid/\(a<=a/\m<=m/\m+m<=nn/\nn<=b+a/\a<=m)/\Hid ((a=a∨nn=b+a)/\(m=m∨m+m=nn))):=by
  rcases Nat.lt_or_ge mid m with h | h
  ·exact .inl ⟨h,_,rfl,by omega,Lib.hid (by omega),by omega⟩
  ·exact .inr ⟨h,by omega,Lib.hid ⟨.inl rfl,.inl rfl⟩⟩
 clear hsteps hDU hDV hT hD ha hb hm hDl hn hmid hnn hpp hd1 hd2 hu2 hv2 hU hV IH
 rcases hcase with ⟨kmm,s0,hs0,hin,HBD,y5⟩ | ⟨kmm,hin,HBD⟩
 ·have kk:(mid:Int)<(m:Int):=by omega
  clear hs0
  go_enter Tryd.func159,Tryd.ntmps159
  go_wp2_with fail
  go_loopw [20,21] (fun iv jv wr=>∃i j:Nat,iv=.int .i64 (i:Int)/\jv=.int .i64 (j:Int)/\s0<=i/\i<=j/\j<=mid/\Hid (i=s0∨(U.getD (i - 1 - a) pk0).c<=(V.getD (nn - i - m) pk0).c)/\Hid (j=mid∨(V.getD (nn - 1 - j - m) pk0).c<(U.getD (j - a) pk0).c)/\Sp w0 (RowK (.slice (some ad) n c) D::L) wr) (fun iv jv _=>(intOf jv).toNat - (intOf iv).toNat)
  case atStart=>exact⟨s0,mid,rfl,rfl,Nat.le_refl _,hin.2.2.2.2,Nat.le_refl _,Lib.hid (.inl rfl),Lib.hid (.inl rfl),H⟩
  case round =>
   clear H
   obtain⟨i,j,rfl,rfl,hsi,hij,hjr,HA,HB,H⟩:=hrel
   by_cases hlt:i<j
   ·have k1:(i:Int)<(j:Int):=by omega
    obtain⟨h,hh⟩:∃h,(i+j) / 2=h:=⟨_,rfl⟩
    have hih:i<=h:=by omega
    have hhj:h<j:=by omega
    have y6:((i:Int)+(j:Int)) / 2=(h:Int):=by omega
    clear hh
    obtain⟨q,hq⟩:∃q,pp - h=q:=⟨_,rfl⟩
    have hpq:h<=pp:=by have:=HN.out; omega
    have y7:(pp:Int) - (h:Int)=(q:Int):=by omega
    obtain⟨t,ht⟩:∃t,h=a+t:=⟨h - a,by omega⟩
    obtain⟨z,hz⟩:∃z,q=m+z:=⟨q - m,by have:=HN.out; omega⟩
    have htl:t<U.length:=by have:=HUV.out; omega
    have hzl:z<V.length:=by have:=HUV.out; have:=HN.out; omega
    obtain⟨pu,hpu⟩:∃pu,U.getD t pk0=pu:=⟨_,rfl⟩
    obtain⟨pv,hpv⟩:∃pv,V.getD z pk0=pv:=⟨_,rfl⟩
    have hpu2:D.getD h pk0=pu:=by rw [ht,HDU.out t htl,hpu]
    have hpv2:D.getD q pk0=pv:=by rw [hz,HDV.out z hzl,hpv]
    have HEpu:=Lib.hid hpu2
    have HEpv:=Lib.hid hpv2
    have HPU:=Lib.hid hpu
    have HPV:=Lib.hid hpv
    have HTT:Hid (h=a+t/\q=m+z/\pp - h=q):=Lib.hid ⟨ht,hz,hq⟩
    have hqb:q<b:=by have:=HUV.out; omega
    have kh:(h:Int)<(n:Int):=by omega
    have kq:(q:Int)<(n:Int):=by omega
    have hbh:h<D.length:=by have:=HDL.out; omega
    have hbq:q<D.length:=by have:=HDL.out; omega
    have Bh:=Lib.hid hbh
    have Bq:=Lib.hid hbq
    obtain⟨r,hr⟩:∃r,decide (cmpI pv.c pu.c<0)=r:=⟨_,rfl⟩
    clear ht htl hz hzl hpu hpv hpu2 hpv2 hbh hbq hq
    go_wp2_with fail
    refine wp_region_sp (L:=RowK (.slice (some ad) n c) D::L) (fun ix vx=>([(·=cmpF),(·=.slice (some ad) n c),(·=.int .i64 (pp:Int)),(·=.int .i64 (h:Int)),(·=.int .i64 (q:Int)),(·=.pointer (some (ad.add (q * 3)))),(·=pv.val),(·=.slice (some ad) n c),(·=.int .i64 (h:Int)),(·=.pointer (some (ad.add (h * 3)))),(·=pu.val),(·=.int .i64 (cmpI pv.c pu.c)),(·=.bool r),(·=.bool (!r))]:List (Value->Prop)).getD ix (fun _=>True) vx)
     (fun ix vx=>([fun _=>[],fun _=>[],fun _=>[],fun _=>[],fun _=>[],fun _=>[],fun _=>[],fun _=>[],fun _=>[],fun _=>[],fun _=>[],fun _=>[],fun _=>[],fun _=>[]]:List (Value->List Pr)).getD ix (fun _=>[]) vx) (fun ix=>([[],[],[],[],[],[],[],[],[],[],[],[],[],[]]:List (List Pr)).getD ix []) 14 220
     [some 158,some 159,some 160,some 161,some 162,some 163,some 164,some 165,some 166,some 167,some 168,some 169,some 170,some 171]
     [[],[],[],[],[2,3],[1,4],[5],[],[],[7,8],[9],[0,6,10],[11],[12]]
     [[],[],[],[],[2,3],[1,2,3,4],[1,2,3,4,5],[],[],[7,8],[7,8,9],[0,1,2,3,4,5,6,7,8,9,10],[0,1,2,3,4,5,6,7,8,9,10,11],[0,1,2,3,4,5,6,7,8,9,10,11,12]]
     [[],[],[],[],[],[],[],[],[],[],[],[],[],[]]
     [[],[],[],[],[],[],[],[],[],[],[],[],[],[]]
     [(0,.slice (some ad) n c),(4,cmpF),(22,.int .i64 (pp:Int)),(23,.int .i64 (h:Int))]
     (by kernel_rfl) rfl (by decide) (by rfl) rfl (by decide +kernel) (by decide +kernel) (by rfl) rfl rfl (by decide) (by simp) (by rfl) (H) ?hstep ?hend
    case hstep =>
     refine⟨?_,⟨?_,⟨?_,⟨?_,⟨?_,⟨?_,⟨?_,⟨?_,⟨?_,⟨?_,⟨?_,⟨?_,⟨?_,⟨?_,trivial⟩⟩⟩⟩⟩⟩⟩⟩⟩⟩⟩⟩⟩⟩
     ·intro x wx A rest hN hS hE H K hK0
      have e4:A.tmps[4]?.getD undef=cmpF:=hN (4,cmpF) (by simp)
      replace H:Sp w0 (rest) wx:=H
      have hK:Hid (∀(v:Value) (w' : World),v=cmpF->Sp w0 (rest) w'->K (A.put (some 158) v) w'):=Lib.hid hK0
      clear hK0 hN hS hE
      change Oper.wp _ _ A wx K _
      go_step
      exact hK.out _ _ rfl (H)
     ·intro x wx A rest hN hS hE H K hK0
      have e0:A.tmps[0]?.getD undef=.slice (some ad) n c:=hN (0,.slice (some ad) n c) (by simp)
      replace H:Sp w0 (rest) wx:=H
      have hK:Hid (∀(v:Value) (w' : World),v=.slice (some ad) n c->Sp w0 (rest) w'->K (A.put (some 159) v) w'):=Lib.hid hK0
      clear hK0 hN hS hE
      change Oper.wp _ _ A wx K _
      go_step
      exact hK.out _ _ rfl (H)
     ·intro x wx A rest hN hS hE H K hK0
      have e22:A.tmps[22]?.getD undef=.int .i64 (pp:Int):=hN (22,.int .i64 (pp:Int)) (by simp)
      replace H:Sp w0 (rest) wx:=H
      have hK:Hid (∀(v:Value) (w' : World),v=.int .i64 (pp:Int)->Sp w0 (rest) w'->K (A.put (some 160) v) w'):=Lib.hid hK0
      clear hK0 hN hS hE
      change Oper.wp _ _ A wx K _
      go_step
      exact hK.out _ _ rfl (H)
     ·intro x wx A rest hN hS hE H K hK0
      have e23:A.tmps[23]?.getD undef=.int .i64 (h:Int):=hN (23,.int .i64 (h:Int)) (by simp)
      replace H:Sp w0 (rest) wx:=H
      have hK:Hid (∀(v:Value) (w' : World),v=.int .i64 (h:Int)->Sp w0 (rest) w'->K (A.put (some 161) v) w'):=Lib.hid hK0
      clear hK0 hN hS hE
      change Oper.wp _ _ A wx K _
      go_step
      exact hK.out _ _ rfl (H)
     ·intro x wx A rest hN hS hE H K hK0
      have e160:A.tmps[160]?.getD undef=.int .i64 (pp:Int):=((hS 2 (by decide)).2 160 rfl).trans (hS 2 (by decide)).1
      have e161:A.tmps[161]?.getD undef=.int .i64 (h:Int):=((hS 3 (by decide)).2 161 rfl).trans (hS 3 (by decide)).1
      replace H:Sp w0 (rest) wx:=H
      have hK:Hid (∀(v:Value) (w' : World),v=.int .i64 (q:Int)->Sp w0 (rest) w'->K (A.put (some 162) v) w'):=Lib.hid hK0
      clear hK0 hN hS hE
      change Oper.wp _ _ A wx K _
      go_step
      exact hK.out _ _ rfl (H)
     ·intro x wx A rest hN hS hE H K hK0
      have e159:A.tmps[159]?.getD undef=.slice (some ad) n c:=((hS 1 (by decide)).2 159 rfl).trans (hS 1 (by decide)).1
      have e162:A.tmps[162]?.getD undef=.int .i64 (q:Int):=((hS 4 (by decide)).2 162 rfl).trans (hS 4 (by decide)).1
      replace H:Sp w0 (rest) wx:=H
      have hK:Hid (∀(v:Value) (w' : World),v=.pointer (some (ad.add (q * 3)))->Sp w0 (rest) w'->K (A.put (some 163) v) w'):=Lib.hid hK0
      clear hK0 hN hS hE
      change Oper.wp _ _ A wx K _
      go_step
      exact hK.out _ _ rfl (H)
     ·intro x wx A rest hN hS hE H K hK0
      have e163:A.tmps[163]?.getD undef=.pointer (some (ad.add (q * 3))):=((hS 5 (by decide)).2 163 rfl).trans (hS 5 (by decide)).1
      replace H:Sp w0 (rest) wx:=H
      have hK:Hid (∀(v:Value) (w' : World),v=pv.val->Sp w0 (rest) w'->K (A.put (some 164) v) w'):=Lib.hid hK0
      clear hK0 hN hS
      change Oper.wp _ _ A wx K _
      exact wp_load_agg 141 _ rfl _ pv.cells (ev e163) (by rw [<- HEpv.out]; exact hE (fun w=>∀jj vv,(D.getD q pk0).cells[jj]?=some vv->w.cell? ((ad.add (q * 3)).add jj)=some vv) (fun _ _ H=>RowK.rd H 0 rfl q Bq.out) _ _ H) Tryd.isAgg141 Tryd.sizeOf141 (hK.out _ _ rfl H)
     ·intro x wx A rest hN hS hE H K hK0
      have e0:A.tmps[0]?.getD undef=.slice (some ad) n c:=hN (0,.slice (some ad) n c) (by simp)
      replace H:Sp w0 (rest) wx:=H
      have hK:Hid (∀(v:Value) (w' : World),v=.slice (some ad) n c->Sp w0 (rest) w'->K (A.put (some 165) v) w'):=Lib.hid hK0
      clear hK0 hN hS hE
      change Oper.wp _ _ A wx K _
      go_step
      exact hK.out _ _ rfl (H)
     ·intro x wx A rest hN hS hE H K hK0
      have e23:A.tmps[23]?.getD undef=.int .i64 (h:Int):=hN (23,.int .i64 (h:Int)) (by simp)
      replace H:Sp w0 (rest) wx:=H
      have hK:Hid (∀(v:Value) (w' : World),v=.int .i64 (h:Int)->Sp w0 (rest) w'->K (A.put (some 166) v) w'):=Lib.hid hK0
      clear hK0 hN hS hE
      change Oper.wp _ _ A wx K _
      go_step
      exact hK.out _ _ rfl (H)
     ·intro x wx A rest hN hS hE H K hK0
      have e165:A.tmps[165]?.getD undef=.slice (some ad) n c:=((hS 7 (by decide)).2 165 rfl).trans (hS 7 (by decide)).1
      have e166:A.tmps[166]?.getD undef=.int .i64 (h:Int):=((hS 8 (by decide)).2 166 rfl).trans (hS 8 (by decide)).1
      replace H:Sp w0 (rest) wx:=H
      have hK:Hid (∀(v:Value) (w' : World),v=.pointer (some (ad.add (h * 3)))->Sp w0 (rest) w'->K (A.put (some 167) v) w'):=Lib.hid hK0
      clear hK0 hN hS hE
      change Oper.wp _ _ A wx K _
      go_step
      exact hK.out _ _ rfl (H)
     ·intro x wx A rest hN hS hE H K hK0
      have e167:A.tmps[167]?.getD undef=.pointer (some (ad.add (h * 3))):=((hS 9 (by decide)).2 167 rfl).trans (hS 9 (by decide)).1
      replace H:Sp w0 (rest) wx:=H
      have hK:Hid (∀(v:Value) (w' : World),v=pu.val->Sp w0 (rest) w'->K (A.put (some 168) v) w'):=Lib.hid hK0
      clear hK0 hN hS
      change Oper.wp _ _ A wx K _
      exact wp_load_agg 141 _ rfl _ pu.cells (ev e167) (by rw [<- HEpu.out]; exact hE (fun w=>∀jj vv,(D.getD h pk0).cells[jj]?=some vv->w.cell? ((ad.add (h * 3)).add jj)=some vv) (fun _ _ H=>RowK.rd H 0 rfl h Bh.out) _ _ H) Tryd.isAgg141 Tryd.sizeOf141 (hK.out _ _ rfl H)
     ·intro x wx A rest hN hS hE H K hK0
      have e158:A.tmps[158]?.getD undef=cmpF:=((hS 0 (by decide)).2 158 rfl).trans (hS 0 (by decide)).1
      have e164:A.tmps[164]?.getD undef=pv.val:=((hS 6 (by decide)).2 164 rfl).trans (hS 6 (by decide)).1
      have e168:A.tmps[168]?.getD undef=pu.val:=((hS 10 (by decide)).2 168 rfl).trans (hS 10 (by decide)).1
      replace H:Sp w0 (rest) wx:=H
      have hK:Hid (∀(v:Value) (w' : World),v=.int .i64 (cmpI pv.c pu.c)->Sp w0 (rest) w'->K (A.put (some 169) v) w'):=Lib.hid hK0
      clear hK0 hN hS hE
      change Oper.wp _ _ A wx K _
      unfold cmpF at *
      go_wp2_with fail
      refine(cmpK_ok pv pu H).mono ?_
      rintro _ w9 ⟨rfl,H9⟩
      exact hK.out _ _ rfl H9
     ·intro x wx A rest hN hS hE H K hK0
      have e169:A.tmps[169]?.getD undef=.int .i64 (cmpI pv.c pu.c):=((hS 11 (by decide)).2 169 rfl).trans (hS 11 (by decide)).1
      replace H:Sp w0 (rest) wx:=H
      have hK:Hid (∀(v:Value) (w' : World),v=.bool r->Sp w0 (rest) w'->K (A.put (some 170) v) w'):=Lib.hid hK0
      clear hK0 hN hS hE
      change Oper.wp _ _ A wx K _
      go_step
      exact hK.out _ _ rfl (H)
     ·intro x wx A rest hN hS hE H K hK0
      have e170:A.tmps[170]?.getD undef=.bool r:=((hS 12 (by decide)).2 170 rfl).trans (hS 12 (by decide)).1
      replace H:Sp w0 (rest) wx:=H
      have hK:Hid (∀(v:Value) (w' : World),v=.bool (!r)->Sp w0 (rest) w'->K (A.put (some 171) v) w'):=Lib.hid hK0
      clear hK0 hN hS hE
      change Oper.wp _ _ A wx K _
      go_step
      exact hK.out _ _ rfl (H)
    case hend =>
     intro x wx A hA hS H
     replace H:Sp w0 (RowK (.slice (some ad) n c) D::L) wx:=H
     have y13:x 13=.bool (!r):=hS 13 (by decide)
     clear hS
     simp only [putAll,Act.put,List.setIfInBounds_toArray,List.set_cons_succ,List.set_cons_zero,Nat.reduceAdd] at hA
     subst hA
     rw [y13]
     clear y13
     rw [cmpI_lt] at hr
     cases r
     ·have hle:pu.c<=pv.c:=by have:=of_decide_eq_false hr; omega
      clear hr
      go_wp2_with fail
      go_roundw
      case rel =>
       refine⟨h+1,j,by go_num,rfl,by omega,by omega,hjr,Lib.hid (.inr ?_),HB,H⟩
       have:=HTT.out; have:=HN.out
       rw [show h+1 - 1 - a=t by omega,show nn - (h+1) - m=z by omega,HPU.out,HPV.out]
       exact hle
      case measure=>first | (simp [intOf]; omega) | simp [intOf]
     ·have hlt2:pv.c<pu.c:=of_decide_eq_true hr
      clear hr
      go_wp2_with fail
      go_roundw
      case rel =>
       refine⟨i,h,rfl,rfl,hsi,hih,by omega,HA,Lib.hid (.inr ?_),H⟩
       have:=HTT.out; have:=HN.out
       rw [show nn - 1 - h - m=z by omega,show h - a=t by omega,HPU.out,HPV.out]
       exact hlt2
      case measure=>first | (simp [intOf]; omega) | simp [intOf]
   ·have k1:¬ (i:Int)<(j:Int):=by omega
    obtain rfl:i=j:=by omega
    obtain⟨s,rfl⟩:∃s,s=i:=⟨i,rfl⟩
    obtain⟨e,he⟩:∃e,nn - s=e:=⟨_,rfl⟩
    have hsn:s<=nn:=by have:=HN.out; omega
    have y8:(nn:Int) - (s:Int)=(e:Int):=by omega
    have HSE:Hid (s+e=mid+m/\nn - s=e):=Lib.hid ⟨by have:=HN.out; omega,he⟩
    have g1:a<=s:=by omega
    have g2:s<=m:=by omega
    have g3:m<=e:=by have:=HN.out; omega
    have g4:e<=b:=by have:=HN.out; omega
    obtain⟨D1,D2,R1,N1,R2,N2,R3,N3⟩:=HST.out s e g1 g2 HSE.out.1 g3 g4
     (by
      rcases HA.out with h | h
      ·rcases HBD.out.1 with h2 | h2
       ·exact .inl (by omega)
       ·exact .inr (.inl (by omega))
      ·rw [he] at h; exact .inr (.inr h))
     (by
      rcases HB.out with h | h
      ·rcases HBD.out.2 with h2 | h2
       ·exact .inl (by omega)
       ·exact .inr (.inl (by have:=HN.out; omega))
      ·rw [show nn - 1 - s - m=e - 1 - m by omega] at h; exact .inr (.inr h))
    replace R1:=Lib.hid R1
    replace N1:=Lib.hid N1
    replace R2:=Lib.hid R2
    replace N2:=Lib.hid N2
    replace R3:=Lib.hid R3
    replace N3:=Lib.hid N3
    clear he HA HB HST HBD HDU HDV HDL hij hlt
    have hall:(s<m/\m<e/\a<s/\e<b)∨(s<m/\m<e/\a<s/\¬ e<b)∨(s<m/\m<e/\¬ a<s/\e<b)∨(s<m/\m<e/\¬ a<s/\¬ e<b)∨(¬ s<m/\m<e)∨(¬ s<m/\¬ m<e)∨(s<m/\¬ m<e/\a<s)∨(s<m/\¬ m<e/\¬ a<s):=by omega
    rcases hall with hq | hq | hq | hq | hq | hq | hq | hq
    ·have c1:s<m:=by have:=HSE.out; omega
     have c1i:(s:Int)<(m:Int):=by omega
     have c2:m<e:=by have:=HSE.out; omega
     have c2i:(m:Int)<(e:Int):=by omega
     have c3:a<s:=by have:=HSE.out; omega
     have c3i:(a:Int)<(s:Int):=by omega
     have c4:s<mid:=by have:=HSE.out; omega
     have c4i:(s:Int)<(mid:Int):=by omega
     have c5:mid<e:=by have:=HSE.out; omega
     have c5i:(mid:Int)<(e:Int):=by omega
     have c6:e<b:=by have:=HSE.out; omega
     have c6i:(e:Int)<(b:Int):=by omega
     clear hq
     go_wp2_with fail
     refine(R1.out c1 c2 _ H).mono ?_
     rintro _ w9 ⟨rfl,H⟩
     go_wp2_with fail
     refine(R2.out c3 c4 _ H).mono ?_
     rintro _ w9 ⟨rfl,H⟩
     go_wp2_with fail
     refine(R3.out c5 c6 _ H).mono ?_
     rintro _ w9 ⟨rfl,H⟩
     go_wp2_with fail
     go_end0
     exact⟨rfl,H⟩
    ·have c1:s<m:=by have:=HSE.out; omega
     have c1i:(s:Int)<(m:Int):=by omega
     have c2:m<e:=by have:=HSE.out; omega
     have c2i:(m:Int)<(e:Int):=by omega
     have c3:a<s:=by have:=HSE.out; omega
     have c3i:(a:Int)<(s:Int):=by omega
     have c4:s<mid:=by have:=HSE.out; omega
     have c4i:(s:Int)<(mid:Int):=by omega
     have c5:mid<e:=by have:=HSE.out; omega
     have c5i:(mid:Int)<(e:Int):=by omega
     have c6:¬ e<b:=by have:=HSE.out; omega
     have c6i:¬ (e:Int)<(b:Int):=by omega
     clear hq
     go_wp2_with fail
     refine(R1.out c1 c2 _ H).mono ?_
     rintro _ w9 ⟨rfl,H⟩
     go_wp2_with fail
     refine(R2.out c3 c4 _ H).mono ?_
     rintro _ w9 ⟨rfl,H⟩
     go_wp2_with fail
     rw [N3.out (by omega)] at H
     go_end0
     exact⟨rfl,H⟩
    ·have c1:s<m:=by have:=HSE.out; omega
     have c1i:(s:Int)<(m:Int):=by omega
     have c2:m<e:=by have:=HSE.out; omega
     have c2i:(m:Int)<(e:Int):=by omega
     have c3:¬ a<s:=by have:=HSE.out; omega
     have c3i:¬ (a:Int)<(s:Int):=by omega
     have c5:mid<e:=by have:=HSE.out; omega
     have c5i:(mid:Int)<(e:Int):=by omega
     have c6:e<b:=by have:=HSE.out; omega
     have c6i:(e:Int)<(b:Int):=by omega
     clear hq
     go_wp2_with fail
     refine(R1.out c1 c2 _ H).mono ?_
     rintro _ w9 ⟨rfl,H⟩
     go_wp2_with fail
     rw [N2.out (by omega)] at H
     refine(R3.out c5 c6 _ H).mono ?_
     rintro _ w9 ⟨rfl,H⟩
     go_wp2_with fail
     go_end0
     exact⟨rfl,H⟩
    ·have c1:s<m:=by have:=HSE.out; omega
     have c1i:(s:Int)<(m:Int):=by omega
     have c2:m<e:=by have:=HSE.out; omega
     have c2i:(m:Int)<(e:Int):=by omega
     have c3:¬ a<s:=by have:=HSE.out; omega
     have c3i:¬ (a:Int)<(s:Int):=by omega
     have c5:mid<e:=by have:=HSE.out; omega
     have c5i:(mid:Int)<(e:Int):=by omega
     have c6:¬ e<b:=by have:=HSE.out; omega
     have c6i:¬ (e:Int)<(b:Int):=by omega
     clear hq
     go_wp2_with fail
     refine(R1.out c1 c2 _ H).mono ?_
     rintro _ w9 ⟨rfl,H⟩
     go_wp2_with fail
     rw [N2.out (by omega)] at H
     rw [N3.out (by omega)] at H
     go_end0
     exact⟨rfl,H⟩
    ·have c1:¬ s<m:=by have:=HSE.out; omega
     have c1i:¬ (s:Int)<(m:Int):=by omega
     have c3:a<s:=by have:=HSE.out; omega
     have c3i:(a:Int)<(s:Int):=by omega
     have c4:s<mid:=by have:=HSE.out; omega
     have c4i:(s:Int)<(mid:Int):=by omega
     have c5:¬ mid<e:=by have:=HSE.out; omega
     have c5i:¬ (mid:Int)<(e:Int):=by omega
     clear hq
     go_wp2_with fail
     rw [N1.out (by omega)] at H
     refine(R2.out c3 c4 _ H).mono ?_
     rintro _ w9 ⟨rfl,H⟩
     go_wp2_with fail
     rw [N3.out (by omega)] at H
     go_end0
     exact⟨rfl,H⟩
    ·have c1:¬ s<m:=by have:=HSE.out; omega
     have c1i:¬ (s:Int)<(m:Int):=by omega
     have c3:a<s:=by have:=HSE.out; omega
     have c3i:(a:Int)<(s:Int):=by omega
     have c4:¬ s<mid:=by have:=HSE.out; omega
     have c4i:¬ (s:Int)<(mid:Int):=by omega
     have c5:¬ mid<e:=by have:=HSE.out; omega
     have c5i:¬ (mid:Int)<(e:Int):=by omega
     clear hq
     go_wp2_with fail
     rw [N1.out (by omega)] at H
     rw [N2.out (by omega)] at H
     rw [N3.out (by omega)] at H
     go_end0
     exact⟨rfl,H⟩
    ·have c1:s<m:=by have:=HSE.out; omega
     have c1i:(s:Int)<(m:Int):=by omega
     have c2:¬ m<e:=by have:=HSE.out; omega
     have c2i:¬ (m:Int)<(e:Int):=by omega
     have c3:a<s:=by have:=HSE.out; omega
     have c3i:(a:Int)<(s:Int):=by omega
     have c4:¬ s<mid:=by have:=HSE.out; omega
     have c4i:¬ (s:Int)<(mid:Int):=by omega
     have c5:mid<e:=by have:=HSE.out; omega
     have c5i:(mid:Int)<(e:Int):=by omega
     have c6:e<b:=by have:=HSE.out; omega
     have c6i:(e:Int)<(b:Int):=by omega
     clear hq
     go_wp2_with fail
     rw [N1.out (by omega)] at H
     rw [N2.out (by omega)] at H
     refine(R3.out c5 c6 _ H).mono ?_
     rintro _ w9 ⟨rfl,H⟩
     go_wp2_with fail
     go_end0
     exact⟨rfl,H⟩
    ·have c1:s<m:=by have:=HSE.out; omega
     have c1i:(s:Int)<(m:Int):=by omega
     have c2:¬ m<e:=by have:=HSE.out; omega
     have c2i:¬ (m:Int)<(e:Int):=by omega
     have c3:¬ a<s:=by have:=HSE.out; omega
     have c3i:¬ (a:Int)<(s:Int):=by omega
     have c5:mid<e:=by have:=HSE.out; omega
     have c5i:(mid:Int)<(e:Int):=by omega
     have c6:e<b:=by have:=HSE.out; omega
     have c6i:(e:Int)<(b:Int):=by omega
     clear hq
     go_wp2_with fail
     rw [N1.out (by omega)] at H
     rw [N2.out (by omega)] at H
     refine(R3.out c5 c6 _ H).mono ?_
     rintro _ w9 ⟨rfl,H⟩
     go_wp2_with fail
     go_end0
     exact⟨rfl,H⟩
 ·have kk:¬ (mid:Int)<(m:Int):=by omega
  go_enter Tryd.func159,Tryd.ntmps159
  go_wp2_with fail
  go_loopw [20,21] (fun iv jv wr=>∃i j:Nat,iv=.int .i64 (i:Int)/\jv=.int .i64 (j:Int)/\a<=i/\i<=j/\j<=m/\Hid (i=a∨(U.getD (i - 1 - a) pk0).c<=(V.getD (nn - i - m) pk0).c)/\Hid (j=m∨(V.getD (nn - 1 - j - m) pk0).c<(U.getD (j - a) pk0).c)/\Sp w0 (RowK (.slice (some ad) n c) D::L) wr) (fun iv jv _=>(intOf jv).toNat - (intOf iv).toNat)
  case atStart=>exact⟨a,m,rfl,rfl,Nat.le_refl _,hin.2.2.2.2,Nat.le_refl _,Lib.hid (.inl rfl),Lib.hid (.inl rfl),H⟩
  case round =>
   clear H
   obtain⟨i,j,rfl,rfl,hsi,hij,hjr,HA,HB,H⟩:=hrel
   by_cases hlt:i<j
   ·have k1:(i:Int)<(j:Int):=by omega
    obtain⟨h,hh⟩:∃h,(i+j) / 2=h:=⟨_,rfl⟩
    have hih:i<=h:=by omega
    have hhj:h<j:=by omega
    have y6:((i:Int)+(j:Int)) / 2=(h:Int):=by omega
    clear hh
    obtain⟨q,hq⟩:∃q,pp - h=q:=⟨_,rfl⟩
    have hpq:h<=pp:=by have:=HN.out; omega
    have y7:(pp:Int) - (h:Int)=(q:Int):=by omega
    obtain⟨t,ht⟩:∃t,h=a+t:=⟨h - a,by omega⟩
    obtain⟨z,hz⟩:∃z,q=m+z:=⟨q - m,by have:=HN.out; omega⟩
    have htl:t<U.length:=by have:=HUV.out; omega
    have hzl:z<V.length:=by have:=HUV.out; have:=HN.out; omega
    obtain⟨pu,hpu⟩:∃pu,U.getD t pk0=pu:=⟨_,rfl⟩
    obtain⟨pv,hpv⟩:∃pv,V.getD z pk0=pv:=⟨_,rfl⟩
    have hpu2:D.getD h pk0=pu:=by rw [ht,HDU.out t htl,hpu]
    have hpv2:D.getD q pk0=pv:=by rw [hz,HDV.out z hzl,hpv]
    have HEpu:=Lib.hid hpu2
    have HEpv:=Lib.hid hpv2
    have HPU:=Lib.hid hpu
    have HPV:=Lib.hid hpv
    have HTT:Hid (h=a+t/\q=m+z/\pp - h=q):=Lib.hid ⟨ht,hz,hq⟩
    have hqb:q<b:=by have:=HUV.out; omega
    have kh:(h:Int)<(n:Int):=by omega
    have kq:(q:Int)<(n:Int):=by omega
    have hbh:h<D.length:=by have:=HDL.out; omega
    have hbq:q<D.length:=by have:=HDL.out; omega
    have Bh:=Lib.hid hbh
    have Bq:=Lib.hid hbq
    obtain⟨r,hr⟩:∃r,decide (cmpI pv.c pu.c<0)=r:=⟨_,rfl⟩
    clear ht htl hz hzl hpu hpv hpu2 hpv2 hbh hbq hq
    go_wp2_with fail
    refine wp_region_sp (L:=RowK (.slice (some ad) n c) D::L) (fun ix vx=>([(·=cmpF),(·=.slice (some ad) n c),(·=.int .i64 (pp:Int)),(·=.int .i64 (h:Int)),(·=.int .i64 (q:Int)),(·=.pointer (some (ad.add (q * 3)))),(·=pv.val),(·=.slice (some ad) n c),(·=.int .i64 (h:Int)),(·=.pointer (some (ad.add (h * 3)))),(·=pu.val),(·=.int .i64 (cmpI pv.c pu.c)),(·=.bool r),(·=.bool (!r))]:List (Value->Prop)).getD ix (fun _=>True) vx)
     (fun ix vx=>([fun _=>[],fun _=>[],fun _=>[],fun _=>[],fun _=>[],fun _=>[],fun _=>[],fun _=>[],fun _=>[],fun _=>[],fun _=>[],fun _=>[],fun _=>[],fun _=>[]]:List (Value->List Pr)).getD ix (fun _=>[]) vx) (fun ix=>([[],[],[],[],[],[],[],[],[],[],[],[],[],[]]:List (List Pr)).getD ix []) 14 220
     [some 158,some 159,some 160,some 161,some 162,some 163,some 164,some 165,some 166,some 167,some 168,some 169,some 170,some 171]
     [[],[],[],[],[2,3],[1,4],[5],[],[],[7,8],[9],[0,6,10],[11],[12]]
     [[],[],[],[],[2,3],[1,2,3,4],[1,2,3,4,5],[],[],[7,8],[7,8,9],[0,1,2,3,4,5,6,7,8,9,10],[0,1,2,3,4,5,6,7,8,9,10,11],[0,1,2,3,4,5,6,7,8,9,10,11,12]]
     [[],[],[],[],[],[],[],[],[],[],[],[],[],[]]
     [[],[],[],[],[],[],[],[],[],[],[],[],[],[]]
     [(0,.slice (some ad) n c),(4,cmpF),(22,.int .i64 (pp:Int)),(23,.int .i64 (h:Int))]
     (by kernel_rfl) rfl (by decide) (by rfl) rfl (by decide +kernel) (by decide +kernel) (by rfl) rfl rfl (by decide) (by simp) (by rfl) (H) ?hstep ?hend
    case hstep =>
     refine⟨?_,⟨?_,⟨?_,⟨?_,⟨?_,⟨?_,⟨?_,⟨?_,⟨?_,⟨?_,⟨?_,⟨?_,⟨?_,⟨?_,trivial⟩⟩⟩⟩⟩⟩⟩⟩⟩⟩⟩⟩⟩⟩
     ·intro x wx A rest hN hS hE H K hK0
      have e4:A.tmps[4]?.getD undef=cmpF:=hN (4,cmpF) (by simp)
      replace H:Sp w0 (rest) wx:=H
      have hK:Hid (∀(v:Value) (w' : World),v=cmpF->Sp w0 (rest) w'->K (A.put (some 158) v) w'):=Lib.hid hK0
      clear hK0 hN hS hE
      change Oper.wp _ _ A wx K _
      go_step
      exact hK.out _ _ rfl (H)
     ·intro x wx A rest hN hS hE H K hK0
      have e0:A.tmps[0]?.getD undef=.slice (some ad) n c:=hN (0,.slice (some ad) n c) (by simp)
      replace H:Sp w0 (rest) wx:=H
      have hK:Hid (∀(v:Value) (w' : World),v=.slice (some ad) n c->Sp w0 (rest) w'->K (A.put (some 159) v) w'):=Lib.hid hK0
      clear hK0 hN hS hE
      change Oper.wp _ _ A wx K _
      go_step
      exact hK.out _ _ rfl (H)
     ·intro x wx A rest hN hS hE H K hK0
      have e22:A.tmps[22]?.getD undef=.int .i64 (pp:Int):=hN (22,.int .i64 (pp:Int)) (by simp)
      replace H:Sp w0 (rest) wx:=H
      have hK:Hid (∀(v:Value) (w' : World),v=.int .i64 (pp:Int)->Sp w0 (rest) w'->K (A.put (some 160) v) w'):=Lib.hid hK0
      clear hK0 hN hS hE
      change Oper.wp _ _ A wx K _
      go_step
      exact hK.out _ _ rfl (H)
     ·intro x wx A rest hN hS hE H K hK0
      have e23:A.tmps[23]?.getD undef=.int .i64 (h:Int):=hN (23,.int .i64 (h:Int)) (by simp)
      replace H:Sp w0 (rest) wx:=H
      have hK:Hid (∀(v:Value) (w' : World),v=.int .i64 (h:Int)->Sp w0 (rest) w'->K (A.put (some 161) v) w'):=Lib.hid hK0
      clear hK0 hN hS hE
      change Oper.wp _ _ A wx K _
      go_step
      exact hK.out _ _ rfl (H)
     ·intro x wx A rest hN hS hE H K hK0
      have e160:A.tmps[160]?.getD undef=.int .i64 (pp:Int):=((hS 2 (by decide)).2 160 rfl).trans (hS 2 (by decide)).1
      have e161:A.tmps[161]?.getD undef=.int .i64 (h:Int):=((hS 3 (by decide)).2 161 rfl).trans (hS 3 (by decide)).1
      replace H:Sp w0 (rest) wx:=H
      have hK:Hid (∀(v:Value) (w' : World),v=.int .i64 (q:Int)->Sp w0 (rest) w'->K (A.put (some 162) v) w'):=Lib.hid hK0
      clear hK0 hN hS hE
      change Oper.wp _ _ A wx K _
      go_step
      exact hK.out _ _ rfl (H)
     ·intro x wx A rest hN hS hE H K hK0
      have e159:A.tmps[159]?.getD undef=.slice (some ad) n c:=((hS 1 (by decide)).2 159 rfl).trans (hS 1 (by decide)).1
      have e162:A.tmps[162]?.getD undef=.int .i64 (q:Int):=((hS 4 (by decide)).2 162 rfl).trans (hS 4 (by decide)).1
      replace H:Sp w0 (rest) wx:=H
      have hK:Hid (∀(v:Value) (w' : World),v=.pointer (some (ad.add (q * 3)))->Sp w0 (rest) w'->K (A.put (some 163) v) w'):=Lib.hid hK0
      clear hK0 hN hS hE
      change Oper.wp _ _ A wx K _
      go_step
      exact hK.out _ _ rfl (H)
     ·intro x wx A rest hN hS hE H K hK0
      have e163:A.tmps[163]?.getD undef=.pointer (some (ad.add (q * 3))):=((hS 5 (by decide)).2 163 rfl).trans (hS 5 (by decide)).1
      replace H:Sp w0 (rest) wx:=H
      have hK:Hid (∀(v:Value) (w' : World),v=pv.val->Sp w0 (rest) w'->K (A.put (some 164) v) w'):=Lib.hid hK0
      clear hK0 hN hS
      change Oper.wp _ _ A wx K _
      exact wp_load_agg 141 _ rfl _ pv.cells (ev e163) (by rw [<- HEpv.out]; exact hE (fun w=>∀jj vv,(D.getD q pk0).cells[jj]?=some vv->w.cell? ((ad.add (q * 3)).add jj)=some vv) (fun _ _ H=>RowK.rd H 0 rfl q Bq.out) _ _ H) Tryd.isAgg141 Tryd.sizeOf141 (hK.out _ _ rfl H)
     ·intro x wx A rest hN hS hE H K hK0
      have e0:A.tmps[0]?.getD undef=.slice (some ad) n c:=hN (0,.slice (some ad) n c) (by simp)
      replace H:Sp w0 (rest) wx:=H
      have hK:Hid (∀(v:Value) (w' : World),v=.slice (some ad) n c->Sp w0 (rest) w'->K (A.put (some 165) v) w'):=Lib.hid hK0
      clear hK0 hN hS hE
      change Oper.wp _ _ A wx K _
      go_step
      exact hK.out _ _ rfl (H)
     ·intro x wx A rest hN hS hE H K hK0
      have e23:A.tmps[23]?.getD undef=.int .i64 (h:Int):=hN (23,.int .i64 (h:Int)) (by simp)
      replace H:Sp w0 (rest) wx:=H
      have hK:Hid (∀(v:Value) (w' : World),v=.int .i64 (h:Int)->Sp w0 (rest) w'->K (A.put (some 166) v) w'):=Lib.hid hK0
      clear hK0 hN hS hE
      change Oper.wp _ _ A wx K _
      go_step
      exact hK.out _ _ rfl (H)
     ·intro x wx A rest hN hS hE H K hK0
      have e165:A.tmps[165]?.getD undef=.slice (some ad) n c:=((hS 7 (by decide)).2 165 rfl).trans (hS 7 (by decide)).1
      have e166:A.tmps[166]?.getD undef=.int .i64 (h:Int):=((hS 8 (by decide)).2 166 rfl).trans (hS 8 (by decide)).1
      replace H:Sp w0 (rest) wx:=H
      have hK:Hid (∀(v:Value) (w' : World),v=.pointer (some (ad.add (h * 3)))->Sp w0 (rest) w'->K (A.put (some 167) v) w'):=Lib.hid hK0
      clear hK0 hN hS hE
      change Oper.wp _ _ A wx K _
      go_step
      exact hK.out _ _ rfl (H)
     ·intro x wx A rest hN hS hE H K hK0
      have e167:A.tmps[167]?.getD undef=.pointer (some (ad.add (h * 3))):=((hS 9 (by decide)).2 167 rfl).trans (hS 9 (by decide)).1
      replace H:Sp w0 (rest) wx:=H
      have hK:Hid (∀(v:Value) (w' : World),v=pu.val->Sp w0 (rest) w'->K (A.put (some 168) v) w'):=Lib.hid hK0
      clear hK0 hN hS
      change Oper.wp _ _ A wx K _
      exact wp_load_agg 141 _ rfl _ pu.cells (ev e167) (by rw [<- HEpu.out]; exact hE (fun w=>∀jj vv,(D.getD h pk0).cells[jj]?=some vv->w.cell? ((ad.add (h * 3)).add jj)=some vv) (fun _ _ H=>RowK.rd H 0 rfl h Bh.out) _ _ H) Tryd.isAgg141 Tryd.sizeOf141 (hK.out _ _ rfl H)
     ·intro x wx A rest hN hS hE H K hK0
      have e158:A.tmps[158]?.getD undef=cmpF:=((hS 0 (by decide)).2 158 rfl).trans (hS 0 (by decide)).1
      have e164:A.tmps[164]?.getD undef=pv.val:=((hS 6 (by decide)).2 164 rfl).trans (hS 6 (by decide)).1
      have e168:A.tmps[168]?.getD undef=pu.val:=((hS 10 (by decide)).2 168 rfl).trans (hS 10 (by decide)).1
      replace H:Sp w0 (rest) wx:=H
      have hK:Hid (∀(v:Value) (w' : World),v=.int .i64 (cmpI pv.c pu.c)->Sp w0 (rest) w'->K (A.put (some 169) v) w'):=Lib.hid hK0
      clear hK0 hN hS hE
      change Oper.wp _ _ A wx K _
      unfold cmpF at *
      go_wp2_with fail
      refine(cmpK_ok pv pu H).mono ?_
      rintro _ w9 ⟨rfl,H9⟩
      exact hK.out _ _ rfl H9
     ·intro x wx A rest hN hS hE H K hK0
      have e169:A.tmps[169]?.getD undef=.int .i64 (cmpI pv.c pu.c):=((hS 11 (by decide)).2 169 rfl).trans (hS 11 (by decide)).1
      replace H:Sp w0 (rest) wx:=H
      have hK:Hid (∀(v:Value) (w' : World),v=.bool r->Sp w0 (rest) w'->K (A.put (some 170) v) w'):=Lib.hid hK0
      clear hK0 hN hS hE
      change Oper.wp _ _ A wx K _
      go_step
      exact hK.out _ _ rfl (H)
     ·intro x wx A rest hN hS hE H K hK0
      have e170:A.tmps[170]?.getD undef=.bool r:=((hS 12 (by decide)).2 170 rfl).trans (hS 12 (by decide)).1
      replace H:Sp w0 (rest) wx:=H
      have hK:Hid (∀(v:Value) (w' : World),v=.bool (!r)->Sp w0 (rest) w'->K (A.put (some 171) v) w'):=Lib.hid hK0
      clear hK0 hN hS hE
      change Oper.wp _ _ A wx K _
      go_step
      exact hK.out _ _ rfl (H)
    case hend =>
     intro x wx A hA hS H
     replace H:Sp w0 (RowK (.slice (some ad) n c) D::L) wx:=H
     have y13:x 13=.bool (!r):=hS 13 (by decide)
     clear hS
     simp only [putAll,Act.put,List.setIfInBounds_toArray,List.set_cons_succ,List.set_cons_zero,Nat.reduceAdd] at hA
     subst hA
     rw [y13]
     clear y13
     rw [cmpI_lt] at hr
     cases r
     ·have hle:pu.c<=pv.c:=by have:=of_decide_eq_false hr; omega
      clear hr
      go_wp2_with fail
      go_roundw
      case rel =>
       refine⟨h+1,j,by go_num,rfl,by omega,by omega,hjr,Lib.hid (.inr ?_),HB,H⟩
       have:=HTT.out; have:=HN.out
       rw [show h+1 - 1 - a=t by omega,show nn - (h+1) - m=z by omega,HPU.out,HPV.out]
       exact hle
      case measure=>first | (simp [intOf]; omega) | simp [intOf]
     ·have hlt2:pv.c<pu.c:=of_decide_eq_true hr
      clear hr
      go_wp2_with fail
      go_roundw
      case rel =>
       refine⟨i,h,rfl,rfl,hsi,hih,by omega,HA,Lib.hid (.inr ?_),H⟩
       have:=HTT.out; have:=HN.out
       rw [show nn - 1 - h - m=z by omega,show h - a=t by omega,HPU.out,HPV.out]
       exact hlt2
      case measure=>first | (simp [intOf]; omega) | simp [intOf]
   ·have k1:¬ (i:Int)<(j:Int):=by omega
    obtain rfl:i=j:=by omega
    obtain⟨s,rfl⟩:∃s,s=i:=⟨i,rfl⟩
    obtain⟨e,he⟩:∃e,nn - s=e:=⟨_,rfl⟩
    have hsn:s<=nn:=by have:=HN.out; omega
    have y8:(nn:Int) - (s:Int)=(e:Int):=by omega
    have HSE:Hid (s+e=mid+m/\nn - s=e):=Lib.hid ⟨by have:=HN.out; omega,he⟩
    have g1:a<=s:=by omega
    have g2:s<=m:=by omega
    have g3:m<=e:=by have:=HN.out; omega
    have g4:e<=b:=by have:=HN.out; omega
    obtain⟨D1,D2,R1,N1,R2,N2,R3,N3⟩:=HST.out s e g1 g2 HSE.out.1 g3 g4
     (by
      rcases HA.out with h | h
      ·rcases HBD.out.1 with h2 | h2
       ·exact .inl (by omega)
       ·exact .inr (.inl (by omega))
      ·rw [he] at h; exact .inr (.inr h))
     (by
      rcases HB.out with h | h
      ·rcases HBD.out.2 with h2 | h2
       ·exact .inl (by omega)
       ·exact .inr (.inl (by have:=HN.out; omega))
      ·rw [show nn - 1 - s - m=e - 1 - m by omega] at h; exact .inr (.inr h))
    replace R1:=Lib.hid R1
    replace N1:=Lib.hid N1
    replace R2:=Lib.hid R2
    replace N2:=Lib.hid N2
    replace R3:=Lib.hid R3
    replace N3:=Lib.hid N3
    clear he HA HB HST HBD HDU HDV HDL hij hlt
    have hall:(s<m/\m<e/\a<s/\e<b)∨(s<m/\m<e/\a<s/\¬ e<b)∨(s<m/\m<e/\¬ a<s/\e<b)∨(s<m/\m<e/\¬ a<s/\¬ e<b)∨(¬ s<m/\m<e)∨(¬ s<m/\¬ m<e)∨(s<m/\¬ m<e/\a<s)∨(s<m/\¬ m<e/\¬ a<s):=by omega
    rcases hall with hq | hq | hq | hq | hq | hq | hq | hq
    ·have c1:s<m:=by have:=HSE.out; omega
     have c1i:(s:Int)<(m:Int):=by omega
     have c2:m<e:=by have:=HSE.out; omega
     have c2i:(m:Int)<(e:Int):=by omega
     have c3:a<s:=by have:=HSE.out; omega
     have c3i:(a:Int)<(s:Int):=by omega
     have c4:s<mid:=by have:=HSE.out; omega
     have c4i:(s:Int)<(mid:Int):=by omega
     have c5:mid<e:=by have:=HSE.out; omega
     have c5i:(mid:Int)<(e:Int):=by omega
     have c6:e<b:=by have:=HSE.out; omega
     have c6i:(e:Int)<(b:Int):=by omega
     clear hq
     go_wp2_with fail
     refine(R1.out c1 c2 _ H).mono ?_
     rintro _ w9 ⟨rfl,H⟩
     go_wp2_with fail
     refine(R2.out c3 c4 _ H).mono ?_
     rintro _ w9 ⟨rfl,H⟩
     go_wp2_with fail
     refine(R3.out c5 c6 _ H).mono ?_
     rintro _ w9 ⟨rfl,H⟩
     go_wp2_with fail
     go_end0
     exact⟨rfl,H⟩
    ·have c1:s<m:=by have:=HSE.out; omega
     have c1i:(s:Int)<(m:Int):=by omega
     have c2:m<e:=by have:=HSE.out; omega
     have c2i:(m:Int)<(e:Int):=by omega
     have c3:a<s:=by have:=HSE.out; omega
     have c3i:(a:Int)<(s:Int):=by omega
     have c4:s<mid:=by have:=HSE.out; omega
     have c4i:(s:Int)<(mid:Int):=by omega
     have c5:mid<e:=by have:=HSE.out; omega
     have c5i:(mid:Int)<(e:Int):=by omega
     have c6:¬ e<b:=by have:=HSE.out; omega
     have c6i:¬ (e:Int)<(b:Int):=by omega
     clear hq
     go_wp2_with fail
     refine(R1.out c1 c2 _ H).mono ?_
     rintro _ w9 ⟨rfl,H⟩
     go_wp2_with fail
     refine(R2.out c3 c4 _ H).mono ?_
     rintro _ w9 ⟨rfl,H⟩
     go_wp2_with fail
     rw [N3.out (by omega)] at H
     go_end0
     exact⟨rfl,H⟩
    ·have c1:s<m:=by have:=HSE.out; omega
     have c1i:(s:Int)<(m:Int):=by omega
     have c2:m<e:=by have:=HSE.out; omega
     have c2i:(m:Int)<(e:Int):=by omega
     have c3:¬ a<s:=by have:=HSE.out; omega
     have c3i:¬ (a:Int)<(s:Int):=by omega
     have c5:mid<e:=by have:=HSE.out; omega
     have c5i:(mid:Int)<(e:Int):=by omega
     have c6:e<b:=by have:=HSE.out; omega
     have c6i:(e:Int)<(b:Int):=by omega
     clear hq
     go_wp2_with fail
     refine(R1.out c1 c2 _ H).mono ?_
     rintro _ w9 ⟨rfl,H⟩
     go_wp2_with fail
     rw [N2.out (by omega)] at H
     refine(R3.out c5 c6 _ H).mono ?_
     rintro _ w9 ⟨rfl,H⟩
     go_wp2_with fail
     go_end0
     exact⟨rfl,H⟩
    ·have c1:s<m:=by have:=HSE.out; omega
     have c1i:(s:Int)<(m:Int):=by omega
     have c2:m<e:=by have:=HSE.out; omega
     have c2i:(m:Int)<(e:Int):=by omega
     have c3:¬ a<s:=by have:=HSE.out; omega
     have c3i:¬ (a:Int)<(s:Int):=by omega
     have c5:mid<e:=by have:=HSE.out; omega
     have c5i:(mid:Int)<(e:Int):=by omega
     have c6:¬ e<b:=by have:=HSE.out; omega
     have c6i:¬ (e:Int)<(b:Int):=by omega
     clear hq
     go_wp2_with fail
     refine(R1.out c1 c2 _ H).mono ?_
     rintro _ w9 ⟨rfl,H⟩
     go_wp2_with fail
     rw [N2.out (by omega)] at H
     rw [N3.out (by omega)] at H
     go_end0
     exact⟨rfl,H⟩
    ·have c1:¬ s<m:=by have:=HSE.out; omega
     have c1i:¬ (s:Int)<(m:Int):=by omega
     have c3:a<s:=by have:=HSE.out; omega
     have c3i:(a:Int)<(s:Int):=by omega
     have c4:s<mid:=by have:=HSE.out; omega
     have c4i:(s:Int)<(mid:Int):=by omega
     have c5:¬ mid<e:=by have:=HSE.out; omega
     have c5i:¬ (mid:Int)<(e:Int):=by omega
     clear hq
     go_wp2_with fail
     rw [N1.out (by omega)] at H
     refine(R2.out c3 c4 _ H).mono ?_
     rintro _ w9 ⟨rfl,H⟩
     go_wp2_with fail
     rw [N3.out (by omega)] at H
     go_end0
     exact⟨rfl,H⟩
    ·have c1:¬ s<m:=by have:=HSE.out; omega
     have c1i:¬ (s:Int)<(m:Int):=by omega
     have c3:a<s:=by have:=HSE.out; omega
     have c3i:(a:Int)<(s:Int):=by omega
     have c4:¬ s<mid:=by have:=HSE.out; omega
     have c4i:¬ (s:Int)<(mid:Int):=by omega
     have c5:¬ mid<e:=by have:=HSE.out; omega
     have c5i:¬ (mid:Int)<(e:Int):=by omega
     clear hq
     go_wp2_with fail
     rw [N1.out (by omega)] at H
     rw [N2.out (by omega)] at H
     rw [N3.out (by omega)] at H
     go_end0
     exact⟨rfl,H⟩
    ·have c1:s<m:=by have:=HSE.out; omega
     have c1i:(s:Int)<(m:Int):=by omega
     have c2:¬ m<e:=by have:=HSE.out; omega
     have c2i:¬ (m:Int)<(e:Int):=by omega
     have c3:a<s:=by have:=HSE.out; omega
     have c3i:(a:Int)<(s:Int):=by omega
     have c4:¬ s<mid:=by have:=HSE.out; omega
     have c4i:¬ (s:Int)<(mid:Int):=by omega
     have c5:mid<e:=by have:=HSE.out; omega
     have c5i:(mid:Int)<(e:Int):=by omega
     have c6:e<b:=by have:=HSE.out; omega
     have c6i:(e:Int)<(b:Int):=by omega
     clear hq
     go_wp2_with fail
     rw [N1.out (by omega)] at H
     rw [N2.out (by omega)] at H
     refine(R3.out c5 c6 _ H).mono ?_
     rintro _ w9 ⟨rfl,H⟩
     go_wp2_with fail
     go_end0
     exact⟨rfl,H⟩
    ·have c1:s<m:=by have:=HSE.out; omega
     have c1i:(s:Int)<(m:Int):=by omega
     have c2:¬ m<e:=by have:=HSE.out; omega
     have c2i:¬ (m:Int)<(e:Int):=by omega
     have c3:¬ a<s:=by have:=HSE.out; omega
     have c3i:¬ (a:Int)<(s:Int):=by omega
     have c5:mid<e:=by have:=HSE.out; omega
     have c5i:(mid:Int)<(e:Int):=by omega
     have c6:e<b:=by have:=HSE.out; omega
     have c6i:(e:Int)<(b:Int):=by omega
     clear hq
     go_wp2_with fail
     rw [N1.out (by omega)] at H
     rw [N2.out (by omega)] at H
     refine(R3.out c5 c6 _ H).mono ?_
     rintro _ w9 ⟨rfl,H⟩
     go_wp2_with fail
     go_end0
     exact⟨rfl,H⟩
theorem sym_ok (ad:Addr) (n c:Nat) (hl:n<=1000000) (w0:World) (L:List Pr):∀k,SymIH n c ad w0 L k:=by
 intro k
 induction k using Nat.strongRecOn with
 | _ k ih =>
  intro X U V Y a m b hk hn ha hm hb hu hv hU hV w H
  have hul:U.length≠0:=fun h=>hu (List.eq_nil_of_length_eq_zero h)
  have hvl:V.length≠0:=fun h=>hv (List.eq_nil_of_length_eq_zero h)
  by_cases h1:U.length=1
  ·obtain⟨px,rfl⟩:=List.length_eq_one_iff.1 h1
   exact sym1_ok ad n c X V Y px a m b H (by rw [h1] at hn; exact hn) hl ha (by rw [h1] at hm; exact hm) hb hV
  ·by_cases h2:V.length=1
   ·obtain⟨py,rfl⟩:=List.length_eq_one_iff.1 h2
    exact sym2_ok ad n c X U Y py a m b H (by rw [h2] at hn; exact hn) hl ha hm (by rw [h2] at hb; exact hb) (by omega) hU
   ·exact sym3_ok ad n c X U V Y a m b H hn hl ha hm hb (by omega) (by omega) hU hV (ih (b - a) hk)
end Go.Proofs.YtloijdbkikccgaaDoor

