/- A pack. -/
import Derived.Test.YtnjpnmpemhldcaaGreatDoorPk10
set_option linter.all false
set_option maxRecDepth 100000
set_option maxHeartbeats 8000000
namespace Go.Proofs.YtnjpnmpemhldcaaGreatDoor
variable {w0 w:World} {L:List Pr}
open Go.RowKit
namespace SS
theorem srt_at {l:List PK} (h:Srt keyK l) (s t:Nat) (hst:s<=t) (ht:t<l.length):(l.getD s pk0).c<=(l.getD t pk0).c:=by
 rcases Nat.lt_or_eq_of_le hst with h1 | rfl
 ·have:=List.pairwise_iff_getElem.1 h s t (by omega) ht h1;rw [List.getD_eq_getElem?_getD,List.getD_eq_getElem?_getD,List.getElem?_eq_getElem ht,List.getElem?_eq_getElem (by omega)];exact this
 ·exact Int.le_refl _
theorem mem_at {l:List PK} {x:PK} (h:x ∈ l):∃t,t<l.length/\l.getD t pk0=x:=by
 obtain⟨t,a,e⟩:=List.getElem_of_mem h;exact⟨t,a,by rw [List.getD_eq_getElem?_getD,List.getElem?_eq_getElem a,e]; rfl⟩
theorem getD_take {l:List PK} {i t:Nat} (h:t<i):(l.take i).getD t pk0=l.getD t pk0:=by
 rw [List.getD_eq_getElem?_getD,List.getD_eq_getElem?_getD,List.getElem?_take_of_lt h]
theorem getD_drop {l:List PK} {i t:Nat} : (l.drop i).getD t pk0=l.getD (i+t) pk0:=by
 rw [List.getD_eq_getElem?_getD,List.getD_eq_getElem?_getD,List.getElem?_drop]
theorem all_take {l:List PK} {i:Nat} {p:PK->Prop} (h:∀t,t<i->t<l.length->p (l.getD t pk0)):∀z ∈ l.take i,p z:=fun z hz=>by
 obtain⟨t,a,rfl⟩:=mem_at hz;rw [List.length_take] at a;rw [getD_take (by omega)];exact h t (by omega) (by omega)
theorem all_drop {l:List PK} {i:Nat} {p:PK->Prop} (h:∀t,i<=t->t<l.length->p (l.getD t pk0)):∀z ∈ l.drop i,p z:=fun z hz=>by
 obtain⟨t,a,rfl⟩:=mem_at hz;rw [List.length_drop] at a;rw [getD_drop];exact h _ (by omega) (by omega)
theorem mrg_one {x:PK} {v1 v2:List PK} (hv:Srt keyK (v1++v2)) (h1:∀z ∈ v1,z.c<x.c) (h2:∀z ∈ v2,x.c<=z.c):mrg keyK [x] (v1++v2)=v1++x::v2:=by
 have h:=mrg_split (key:=keyK) (u1:=[]) (u2:=[x]) hv (fun _ h=>by cases h) (fun a ha y hy=>by rw [List.mem_singleton.1 ha]; exact h1 y hy);rw [List.nil_append] at h;rw [h,mrg_nil (List.pairwise_append.1 hv).1];have b:=mrg_back (key:=keyK) (s:=[x]) (u:=[]) (v:=v2) (fun a ha y hy=>by rw [List.mem_singleton.1 ha]; exact h2 y hy);rw [List.append_nil] at b;rw [b,mrg_nil (List.pairwise_append.1 hv).2.1]; rfl
theorem mrg_last {y:PK} {u1 u2:List PK} (h1:∀z ∈ u1,z.c<=y.c) (h2:∀z ∈ u2,y.c<z.c):mrg keyK (u1++u2) [y]=u1++y::u2:=put_at h1 h2
end SS
theorem Xf (x y:Int):decide (cmpI x y<0)=decide (x<y):=by
 unfold cmpI;by_cases h:x<y
 ·rw [if_pos h,decide_eq_true h]; rfl
 ·rw [if_neg h,decide_eq_false h];split <;> rfl
theorem Tc (ad:Addr) (n c:Nat) (X V Y:List PK) (px:PK) (a m b:Nat) (H:Sp w0 (RowK (.slice (some ad) n c) (X++[px]++V++Y)::L) w) (hn:n=X.length+1+V.length+Y.length) (hl:n<=1000000) (ha:X.length=a) (hm:a+1=m) (hb:m+V.length=b) (hv:SS.Srt keyK V) :
  Calls Tryz.prog 185 #[.slice (some ad) n c,.int .i64 a,.int .i64 m,.int .i64 b,cmpF] w fun e w'=>e=.returned (.tuple #[]) /\
   Sp w0 (RowK (.slice (some ad) n c) (X++SS.mrg keyK [px] V++Y)::L) w':=by
 obtain⟨T,hT⟩:=exq (X++SS.mrg keyK [px] V++Y);rw [hT];have M:=SS.srt_at hv;have y1:(m:Int) - (a:Int)=1:=by omega
 obtain⟨D,B⟩:=exq (X++[px]++V++Y);rw [B] at H;have E:D.length=n:=by rw [<- B]; simp only [List.length_append,List.length_singleton]; omega
 have a0:D.getD a pk0=px:=by
  rw [<- B,show X++[px]++V++Y=X++px::(V++Y) by simp];exact SS.getD_app pk0 _ _ _ ha
 have z:=hid a0;have a1:a<D.length:=by omega
 have Ba:=hid a1;have a2:∀t,t<V.length->D.getD (m+t) pk0=V.getD t pk0:=fun t ht=>by
  rw [<- B,List.append_assoc (X++[px]),List.getD_eq_getElem?_getD,List.getElem?_append_right (by rw [List.length_append,ha,List.length_singleton]; omega),List.getElem?_append_left (by rw [List.length_append,ha,List.length_singleton]; omega),List.getD_eq_getElem?_getD,List.length_append,ha,List.length_singleton,show m+t - (a+1)=t by omega]
 have b4:=hid a2;have N:=hid M;have HV:=hid hv;have HT:=hid hT;have HD:=hid B;have HX:=hid ha;have HB:=hid hb;have HM:=hid hm;have a3:=hid E;have ka:(a:Int)<(n:Int):=by omega
 have c9:b<=n:=by omega
 have b5:m<=b:=by omega
 have d0:a<m:=by omega
 clear M a2 hv hT B a0 a1 ha hb hm E hn;go_enter Tryz.func185,Tryz.ntmps185
 go_wp2_with fail
 go_loopw [10,11] (fun iv jv wr=>∃i j:Nat,iv=.int .i64 i/\jv=.int .i64 j/\m<=i/\i<=j/\j<=b/\Hid (∀t,t+m<i->(V.getD t pk0).c<px.c)/\Hid (∀t,j<=t+m->t<V.length->px.c<=(V.getD t pk0).c)/\Sp w0 (RowK (.slice (some ad) n c) D::L) wr) (fun iv jv _=>(intOf jv).toNat - (intOf iv).toNat)
 case atStart=>exact⟨m,b,rfl,rfl,Nat.le_refl _,b5,Nat.le_refl _,hid (fun t ht=>by omega),hid (fun t h1 h2=>by have:=HB.out; omega),H⟩
 case round =>
  clear H;obtain⟨i,j,rfl,rfl,b6,d1,b7,H1,H2,H⟩:=hrel;by_cases d2:i<j
  ·have q:(i:Int)<(j:Int):=by omega
   obtain⟨h,hh⟩:=exq ((i+j) / 2);have b8:i<=h:=by omega
   have d3:h<j:=by omega
   have y2:((i:Int)+(j:Int)) / 2=(h:Int):=by omega
   clear hh;obtain⟨t,ht⟩:∃t,h=m+t:=⟨h - m,by omega⟩;have Q:t<V.length:=by have:=HB.out; omega
   obtain⟨ph,R⟩:=exq (V.getD t pk0);have O:D.getD h pk0=ph:=by rw [ht,b4.out t Q,R]
   have a4:=hid O;have a5:=hid R;have S:Hid (h=m+t/\t<V.length):=hid ⟨ht,Q⟩;have kh:(h:Int)<(n:Int):=by omega
   have a6:h<D.length:=by have:=a3.out; omega
   have Bh:=hid a6;obtain⟨r,hr⟩:=exq (decide (cmpI ph.c px.c<0));clear ht Q R O a6;go_wp2_with fail
   refine Zb (L:=RowK (.slice (some ad) n c) D::L) [some (cmpF),some (.slice (some ad) n c),some (.int .i64 h),some (.pointer (some (ad.add (h * 3)))),some (ph.val),some (.slice (some ad) n c),some (.int .i64 a),some (.pointer (some (ad.add (a * 3)))),some (px.val),some (.int .i64 (cmpI ph.c px.c)),some (.bool r)] (fun _ _=>True) (fun _ _=>[]) (fun _=>[]) 11 220
    [some 40,some 41,some 42,some 43,some 44,some 45,some 46,some 47,some 48,some 49,some 50]
    [[],[],[],[1,2],[3],[],[],[5,6],[7],[0,4,8],[9]]
    [[],[],[],[1,2],[1,2,3],[],[],[5,6],[5,6,7],[0,1,2,3,4,5,6,7,8],[0,1,2,3,4,5,6,7,8,9]]
    [[],[],[],[],[],[],[],[],[],[],[]] [[],[],[],[],[],[],[],[],[],[],[]] [(0,.slice (some ad) n c),(1,.int .i64 a),(4,cmpF),(12,.int .i64 h)]
    (by kernel_rfl) rfl (by decide) (by rfl) (by decide +kernel) rfl rfl (by simp) (H) ?hstep ?hend
   case hstep =>
    refine⟨?p0,⟨?p1,⟨?p2,⟨?p3,⟨?p4,⟨?p5,⟨?p6,⟨?p7,⟨?p8,⟨?p9,⟨?p10,trivial⟩⟩⟩⟩⟩⟩⟩⟩⟩⟩⟩
    case p0 | p1 | p2 | p3 | p5 | p6 | p7 | p10 =>
     intro x wx A d g o l u H K hK;replace hK:=hid hK;clear l u g;repeat (obtain⟨_,o⟩:=o)
     refine so ?_;go_step;exact hK.out _ _ rfl H
    case p4 =>
     intro x wx A d g o l u H K f;have b9:=tq l 3;have hK:=hid f;clear f o l g;refine so ?_;exact Ze 183 _ rfl _ ph.cells (ev b9) (by rw [<- a4.out]; exact u (fun w=>∀jj vv,(D.getD h pk0).cells[jj]?=some vv->w.cell? ((ad.add (h * 3)).add jj)=some vv) (fun _ _ H=>RowK.rd H 0 rfl h Bh.out) _ _ H) Tryz.isAgg183 Tryz.sizeOf183 (hK.out _ _ rfl H)
    case p8 =>
     intro x wx A d g o l u H K f;have c0:=tq l 7;have hK:=hid f;clear f o l g;refine so ?_;exact Ze 183 _ rfl _ px.cells (ev c0) (by rw [<- z.out]; exact u (fun w=>∀jj vv,(D.getD a pk0).cells[jj]?=some vv->w.cell? ((ad.add (a * 3)).add jj)=some vv) (fun _ _ H=>RowK.rd H 0 rfl a Ba.out) _ _ H) Tryz.isAgg183 Tryz.sizeOf183 (hK.out _ _ rfl H)
    case p9 =>
     intro x wx A d g o l u H K f;have d4:=tq l 0;have d5:=tq l 4;have d6:=tq l 8;have hK:=hid f;clear f o l u g;refine so ?_;unfold cmpF at *;go_wp2_with fail
     refine(Yz ph px H).mono ?_;rintro _ w9 ⟨rfl,H9⟩;exact hK.out _ _ rfl H9
   case hend =>
    intro x wx A hA l H;replace H:Sp w0 (_::L) wx:=H;have a7:x 10=.bool r:=l 10 (by decide);clear l;simp only [putAll,Act.put,List.setIfInBounds_toArray,List.set_cons_succ,List.set_cons_zero,Nat.reduceAdd] at hA;subst hA;rw [a7];clear a7;rw [Xf] at hr;cases r
    ·have c1:px.c<=ph.c:=by have:=of_decide_eq_false hr; omega
     clear hr;go_wp2_with fail
     go_roundw
     case rel =>
      refine⟨i,h,rfl,rfl,b6,b8,by omega,H1,hid (fun s h1 h2=>?_),H⟩;have:=N.out t s (by have:=S.out; omega) h2;rw [a5.out] at this;exact Int.le_trans c1 this
     case measure=>first | (simp [intOf]; omega) | simp [intOf]
    ·have a8:ph.c<px.c:=of_decide_eq_true hr;clear hr;go_wp2_with fail
     go_roundw
     case rel =>
      refine⟨h+1,j,by go_num,rfl,by omega,by omega,b7,hid (fun s h1=>?_),H2,H⟩;have:=N.out s t (by have:=S.out; omega) S.out.2;rw [a5.out] at this;exact Int.lt_of_le_of_lt this a8
     case measure=>first | (simp [intOf]; omega) | simp [intOf]
  ·have q:¬ (i:Int)<(j:Int):=by omega
   obtain rfl:i=j:=by omega
   obtain⟨t,ht⟩:∃t,i=m+t:=⟨i - m,by omega⟩;obtain⟨V1,F⟩:=exq (V.take t);obtain⟨V2,U⟩:=exq (V.drop t);have G:V1++V2=V:=by rw [<- F,<- U,List.take_append_drop]
   have a9:V1.length=t:=by rw [<- F,List.length_take]; have:=HB.out; omega
   have y:SS.mrg keyK [px] V=V1++px::V2:=by
    rw [<- G];refine SS.mrg_one (by rw [G]; exact HV.out) ?_ ?_
    ·rw [<- F];exact SS.all_take fun s h1 h2=>H1.out s (by omega)
    ·rw [<- U];exact SS.all_drop fun s h1 h2=>H2.out s (by omega) h2
   have HR:Hid (X++V1++px::V2++Y=T):=hid (by rw [<- HT.out,y]; simp);have W:Hid (V1.length=t/\i=m+t/\m=a+1):=hid ⟨a9,ht,HM.out.symm⟩;have b0:D=X++[]++px::V1++(V2++Y):=by rw [<- HD.out,<- G]; simp
   rw [b0] at H;have y3:(i:Int) - 1=((a+t:Nat):Int):=by have:=HM.out; omega
   obtain⟨e,he⟩:=exq (a+t);rw [he] at y3;have I:=hid he;clear F U G a9 y b0 ht he;clear z Ba a3 HD;go_wp2_with fail
   go_loopw [13] (fun kv wr=>∃(k:Nat) (W1 W2:List PK),kv=.int .i64 k/\Hid (k=a+W1.length/\W1++W2=V1)/\k<=e/\Sp w0 (RowK (.slice (some ad) n c) (X++W1++px::W2++(V2++Y))::L) wr) (fun kv _=>e - (intOf kv).toNat)
   case atStart=>exact⟨a,[],V1,rfl,hid ⟨rfl,rfl⟩,by have:=I.out; omega,H⟩
   case round =>
    clear H H1 H2;obtain⟨k,W1,W2,rfl,P,d7,H⟩:=hrel;by_cases hk:k<e
    ·have k2:(k:Int)<(e:Int):=by omega
     obtain⟨py,W3,rfl⟩:∃p W3,W2=p::W3:=by
      cases W2 with
      | nil =>
       have h1:=congrArg List.length P.out.2;rw [List.append_nil,W.out.1] at h1;have:=P.out.1; have:=I.out; omega
      | cons p W3=>exact⟨p,W3,rfl⟩
     obtain⟨D,B⟩:=exq (X++W1++px::py::W3++(V2++Y));rw [B] at H;obtain⟨q,J⟩:=exq (k+1);have C:(X++W1).length=k:=by rw [List.length_append,HX.out,<- P.out.1]
     have hx:D.getD k pk0=px:=by
      rw [<- B,show X++W1++px::py::W3++(V2++Y)=(X++W1)++px::(py::W3++(V2++Y)) by simp];exact SS.getD_app pk0 _ _ _ C
     have hy:D.getD q pk0=py:=by
      rw [<- B,show X++W1++px::py::W3++(V2++Y)=(X++W1++[px])++py::(W3++(V2++Y)) by simp];exact SS.getD_app pk0 _ _ _ (by rw [List.length_append,C]; exact J)
     have E:q<D.length:=by
      rw [<- B]; simp only [List.length_append,List.length_cons] at C ⊢; omega
     have d8:q<n:=by have:=W.out; have:=I.out; omega
     have z:=hid hx;have b1:=hid hy;have b2:k<D.length:=by omega
     have Bk:=hid b2;have b3:=hid E;have y4:(k:Int)+1=(q:Int):=by omega
     have kk:(k:Int)<(n:Int):=by omega
     have d9:(q:Int)<(n:Int):=by omega
     have y:(D.set k py).set q px=X++(W1++[py])++px::W3++(V2++Y):=by
      have h1:=SS.sw_app pk0 (X++W1) [] (W3++(V2++Y)) px py C (j:=q) (by rw [C]; exact J);have e0:X++W1++px::[]++py::(W3++(V2++Y))=D:=by rw [<- B]; simp
      rw [e0] at h1;unfold SS.sw at h1;rw [hx,hy] at h1;rw [h1]; simp
     have c2:=hid y;have e1:=hid J;clear y hx hy E b2 B J C;go_wp2_with fail
     refine Zb (L:=L) [some (.slice (some ad) n c),some (.int .i64 k),some (.slice (some ad) n c),some (.int .i64 k),some (.int .i64 q),some (.slice (some ad) n c),some (.int .i64 k),some (.int .i64 q),some (.pointer (some (ad.add (q * 3)))),some (py.val),some (.slice (some ad) n c),some (.int .i64 k),some (.pointer (some (ad.add (k * 3)))),some (px.val),some (.pointer (some (ad.add (k * 3)))),none,some (.pointer (some (ad.add (q * 3)))),none] (fun _ _=>True) (fun ix vx=>match ix with | 15=>(fun _=>[RowK (.slice (some ad) n c) (D.set k py)]) vx | 17=>(fun _=>[RowK (.slice (some ad) n c) ((D.set k py).set q px)]) vx | _=>[]) (fun ix=>match ix with | 15=>[RowK (.slice (some ad) n c) D] | _=>[]) 18 220
      [some 61,some 62,some 63,some 64,some 65,some 66,some 67,some 68,some 69,some 70,some 71,some 72,some 73,some 74,some 75,none,some 76,none]
      [[],[],[],[],[3],[],[],[6],[5,7],[8],[],[],[10,11],[12],[0,1,0,1,5,6,7,8,9,13],[14,9,0,1,5,6,7,8,9,13],[2,4,0,1,2,3,4,5,6,7,8,9,10,11,12,13,14,15],[16,13,15,0,1,2,3,4,5,6,7,8,9,10,11,12,13,14,15]]
      [[],[],[],[],[3],[],[],[6],[5,6,7],[5,6,7,8],[],[],[10,11],[10,11,12],[0,1,5,6,7,8,9,10,11,12,13],[0,1,5,6,7,8,9,10,11,12,13,14],[0,1,2,3,4,5,6,7,8,9,10,11,12,13,14,15],[0,1,2,3,4,5,6,7,8,9,10,11,12,13,14,15,16]]
      [[],[],[],[],[],[],[],[],[],[],[],[],[],[],[],[],[],[15]] [[],[],[],[],[],[],[],[],[],[15],[],[],[],[15],[],[],[],[]] [(0,.slice (some ad) n c),(13,.int .i64 k)]
      (by kernel_rfl) rfl (by decide) (by rfl) (by decide +kernel) rfl rfl (by simp) (H) ?hstep ?hend
     case hstep =>
      refine⟨?p0,⟨?p1,⟨?p2,⟨?p3,⟨?p4,⟨?p5,⟨?p6,⟨?p7,⟨?p8,⟨?p9,⟨?p10,⟨?p11,⟨?p12,⟨?p13,⟨?p14,⟨?p15,⟨?p16,⟨?p17,trivial⟩⟩⟩⟩⟩⟩⟩⟩⟩⟩⟩⟩⟩⟩⟩⟩⟩⟩
      case p0 | p1 | p2 | p3 | p4 | p5 | p6 | p7 | p8 | p10 | p11 | p12 | p14 | p16 =>
       intro x wx A d g o l u H K hK;replace hK:=hid hK;clear l u g;repeat (obtain⟨_,o⟩:=o)
       refine so ?_;go_step;exact hK.out _ _ rfl H
      case p9 =>
       intro x wx A d g o l u H K f;have c3:=tq l 8;replace H:Sp w0 (_::d) wx:=H;have hK:=hid f;clear f o l u g;refine so ?_;exact Ze 183 _ rfl _ py.cells (ev c3) (by rw [<- b1.out]; exact RowK.rd H 0 rfl q b3.out) Tryz.isAgg183 Tryz.sizeOf183 (hK.out _ _ rfl H)
      case p13 =>
       intro x wx A d g o l u H K f;have c4:=tq l 12;replace H:Sp w0 (_::d) wx:=H;have hK:=hid f;clear f o l u g;refine so ?_;exact Ze 183 _ rfl _ px.cells (ev c4) (by rw [<- z.out]; exact RowK.rd H 0 rfl k Bk.out) Tryz.isAgg183 Tryz.sizeOf183 (hK.out _ _ rfl H)
      case p15 =>
       intro x wx A d g o l u H K f;have c5:=tq l 14;have c6:=tq l 9;replace H:Sp w0 (_::d) wx:=H;have hK:Hid (∀(v:Value) (w' : World),(True)->Sp w0 ((RowK (.slice (some ad) n c) (D.set k py))::d) w'->K (A.put none v) w'):=hid f;clear f o l u g;obtain⟨w9,Z,H9⟩:=RowK.store (i:=k) py H Bk.out;refine so ?_;exact Zm 183 _ _ rfl _ py.cells (ev c5) (ev c6) Z Tryz.sizeOf183 (hK.out undef _ trivial H9)
      case p17 =>
       intro x wx A d g o l u H K f;have c7:=tq l 16;have c8:=tq l 13;replace H:Sp w0 (_::d) wx:=H;have hK:Hid (∀(v:Value) (w' : World),(True)->Sp w0 ((RowK (.slice (some ad) n c) ((D.set k py).set q px))::d) w'->K (A.put none v) w'):=hid f;clear f o l u g;obtain⟨w9,Z,H9⟩:=RowK.store (i:=q) px H (by rw [List.length_set]; exact b3.out);refine so ?_;exact Zm 183 _ _ rfl _ px.cells (ev c7) (ev c8) Z Tryz.sizeOf183 (hK.out undef _ trivial H9)
     case hend =>
      intro x wx A hA l H;replace H:Sp w0 (_::L) wx:=H;clear l;simp only [putAll,Act.put,List.setIfInBounds_toArray,List.set_cons_succ,List.set_cons_zero,Nat.reduceAdd] at hA;subst hA;go_wp2_with fail
      go_roundw
      case rel =>
       refine⟨k+1,W1++[py],W3,by go_num,hid ⟨by rw [List.length_append,P.out.1]; rfl,by rw [<- P.out.2]; simp⟩,by omega,?_⟩;rw [<- c2.out];exact H
      case measure=>first | (simp [intOf]; omega) | simp [intOf]
    ·have k2:¬ (k:Int)<(e:Int):=by omega
     go_wp2_with fail
     refine bodyPost_ret (results_none rfl _ _ _) rfl ?_;refine⟨rfl,?_⟩;have h1:=congrArg List.length P.out.2;rw [List.length_append,W.out.1] at h1;have h0:W2=[]:=List.eq_nil_of_length_eq_zero (by have:=P.out.1; have:=I.out; omega);subst h0;have h2:W1=V1:=by have:=P.out.2; rwa [List.append_nil] at this
     subst h2;rw [show X++W1++[px]++(V2++Y)=X++W1++px::V2++Y by simp,HR.out] at H;exact H
theorem Td (ad:Addr) (n c:Nat) (X U Y:List PK) (py:PK) (a m b:Nat) (H:Sp w0 (RowK (.slice (some ad) n c) (X++U++[py]++Y)::L) w) (hn:n=X.length+U.length+1+Y.length) (hl:n<=1000000) (ha:X.length=a) (hm:a+U.length=m) (hb:m+1=b) (hu2:2<=U.length) (hv:SS.Srt keyK U) :
  Calls Tryz.prog 185 #[.slice (some ad) n c,.int .i64 a,.int .i64 m,.int .i64 b,cmpF] w fun e w'=>e=.returned (.tuple #[]) /\
   Sp w0 (RowK (.slice (some ad) n c) (X++SS.mrg keyK U [py]++Y)::L) w':=by
 obtain⟨T,hT⟩:=exq (X++SS.mrg keyK U [py]++Y);rw [hT];have O:=SS.srt_at hv;obtain⟨d,hd⟩:=exq (m - a);have y0:(m:Int) - (a:Int)=(d:Int):=by omega
 have kd:((d:Int) == 1)=false:=by rw [beq_eq_false_iff_ne]; omega
 have y1:(b:Int) - (m:Int)=1:=by omega
 obtain⟨D,C⟩:=exq (X++U++[py]++Y);rw [C] at H;have G:D.length=n:=by rw [<- C]; simp only [List.length_append,List.length_singleton]; omega
 have a0:D.getD m pk0=py:=by
  rw [<- C,show X++U++[py]++Y=(X++U)++py::Y by simp];exact SS.getD_app pk0 _ _ _ (by rw [List.length_append,ha]; exact hm)
 have B:=hid a0;have a1:m<D.length:=by omega
 have Bm:=hid a1;have a2:∀t,t<U.length->D.getD (a+t) pk0=U.getD t pk0:=fun t ht=>by
  rw [<- C,show X++U++[py]++Y=X++(U++([py]++Y)) by simp,List.getD_eq_getElem?_getD,List.getElem?_append_right (by omega),List.getElem?_append_left (by omega),List.getD_eq_getElem?_getD,ha,show a+t - a=t by omega]
 have a3:=hid a2;have I:=hid O;have HT:=hid hT;have HD:=hid C;have HX:=hid ha;have HM:=hid hm;have a4:=hid G;have km:(m:Int)<(n:Int):=by omega
 have d3:m<n:=by omega
 have c4:a<=m:=by omega
 clear O a2 hT C a0 a1 ha hb hm G hn hd hv;go_enter Tryz.func185,Tryz.ntmps185
 go_wp2_with fail
 go_loopw [14,15] (fun iv jv wr=>∃i j:Nat,iv=.int .i64 i/\jv=.int .i64 j/\a<=i/\i<=j/\j<=m/\Hid (∀t,t+a<i->(U.getD t pk0).c<=py.c)/\Hid (∀t,j<=t+a->t<U.length->py.c<(U.getD t pk0).c)/\Sp w0 (RowK (.slice (some ad) n c) D::L) wr) (fun iv jv _=>(intOf jv).toNat - (intOf iv).toNat)
 case atStart=>exact⟨a,m,rfl,rfl,Nat.le_refl _,c4,Nat.le_refl _,hid (fun t ht=>by omega),hid (fun t h1 h2=>by have:=HM.out; omega),H⟩
 case round =>
  clear H;obtain⟨i,j,rfl,rfl,c5,d4,c6,H1,H2,H⟩:=hrel;by_cases d5:i<j
  ·have k1:(i:Int)<(j:Int):=by omega
   obtain⟨h,hh⟩:=exq ((i+j) / 2);have c7:i<=h:=by omega
   have d6:h<j:=by omega
   have y2:((i:Int)+(j:Int)) / 2=(h:Int):=by omega
   clear hh;obtain⟨t,ht⟩:∃t,h=a+t:=⟨h - a,by omega⟩;have Q:t<U.length:=by have:=HM.out; omega
   obtain⟨ph,R⟩:=exq (U.getD t pk0);have P:D.getD h pk0=ph:=by rw [ht,a3.out t Q,R]
   have a5:=hid P;have a6:=hid R;have S:Hid (h=a+t/\t<U.length):=hid ⟨ht,Q⟩;have kh:(h:Int)<(n:Int):=by omega
   have a7:h<D.length:=by have:=a4.out; omega
   have Bh:=hid a7;obtain⟨r,hr⟩:=exq (decide (cmpI py.c ph.c<0));clear ht Q R P a7;go_wp2_with fail
   refine Zb (L:=RowK (.slice (some ad) n c) D::L) [some (cmpF),some (.slice (some ad) n c),some (.int .i64 m),some (.pointer (some (ad.add (m * 3)))),some (py.val),some (.slice (some ad) n c),some (.int .i64 h),some (.pointer (some (ad.add (h * 3)))),some (ph.val),some (.int .i64 (cmpI py.c ph.c)),some (.bool r),some (.bool (!r))] (fun _ _=>True) (fun _ _=>[]) (fun _=>[]) 12 220
    [some 92,some 93,some 94,some 95,some 96,some 97,some 98,some 99,some 100,some 101,some 102,some 103]
    [[],[],[],[1,2],[3],[],[],[5,6],[7],[0,4,8],[9],[10]]
    [[],[],[],[1,2],[1,2,3],[],[],[5,6],[5,6,7],[0,1,2,3,4,5,6,7,8],[0,1,2,3,4,5,6,7,8,9],[0,1,2,3,4,5,6,7,8,9,10]]
    [[],[],[],[],[],[],[],[],[],[],[],[]] [[],[],[],[],[],[],[],[],[],[],[],[]] [(0,.slice (some ad) n c),(2,.int .i64 m),(4,cmpF),(16,.int .i64 h)]
    (by kernel_rfl) rfl (by decide) (by rfl) (by decide +kernel) rfl rfl (by simp) (H) ?hstep ?hend
   case hstep =>
    refine⟨?p0,⟨?p1,⟨?p2,⟨?p3,⟨?p4,⟨?p5,⟨?p6,⟨?p7,⟨?p8,⟨?p9,⟨?p10,⟨?p11,trivial⟩⟩⟩⟩⟩⟩⟩⟩⟩⟩⟩⟩
    case p0 | p1 | p2 | p3 | p5 | p6 | p7 | p10 | p11 =>
     intro x wx A f l q o u H K hK;replace hK:=hid hK;clear o u l;repeat (obtain⟨_,q⟩:=q)
     refine so ?_;go_step;exact hK.out _ _ rfl H
    case p4 =>
     intro x wx A f l q o u H K g;have c8:=tq o 3;have hK:=hid g;clear g q o l;refine so ?_;exact Ze 183 _ rfl _ py.cells (ev c8) (by rw [<- B.out]; exact u (fun w=>∀jj vv,(D.getD m pk0).cells[jj]?=some vv->w.cell? ((ad.add (m * 3)).add jj)=some vv) (fun _ _ H=>RowK.rd H 0 rfl m Bm.out) _ _ H) Tryz.isAgg183 Tryz.sizeOf183 (hK.out _ _ rfl H)
    case p8 =>
     intro x wx A f l q o u H K g;have c9:=tq o 7;have hK:=hid g;clear g q o l;refine so ?_;exact Ze 183 _ rfl _ ph.cells (ev c9) (by rw [<- a5.out]; exact u (fun w=>∀jj vv,(D.getD h pk0).cells[jj]?=some vv->w.cell? ((ad.add (h * 3)).add jj)=some vv) (fun _ _ H=>RowK.rd H 0 rfl h Bh.out) _ _ H) Tryz.isAgg183 Tryz.sizeOf183 (hK.out _ _ rfl H)
    case p9 =>
     intro x wx A f l q o u H K g;have d7:=tq o 0;have d8:=tq o 4;have d2:=tq o 8;have hK:=hid g;clear g q o u l;refine so ?_;unfold cmpF at *;go_wp2_with fail
     refine(Yz py ph H).mono ?_;rintro _ w9 ⟨rfl,H9⟩;exact hK.out _ _ rfl H9
   case hend =>
    intro x wx A hA o H;replace H:Sp w0 (_::L) wx:=H;have a8:x 11=.bool (!r):=o 11 (by decide);clear o;simp only [putAll,Act.put,List.setIfInBounds_toArray,List.set_cons_succ,List.set_cons_zero,Nat.reduceAdd] at hA;subst hA;rw [a8];clear a8;rw [Xf] at hr;cases r
    ·have d0:ph.c<=py.c:=by have:=of_decide_eq_false hr; omega
     clear hr;go_wp2_with fail
     go_roundw
     case rel =>
      refine⟨h+1,j,by go_num,rfl,by omega,by omega,c6,hid (fun s h1=>?_),H2,H⟩;have:=I.out s t (by have:=S.out; omega) S.out.2;rw [a6.out] at this;exact Int.le_trans this d0
     case measure=>first | (simp [intOf]; omega) | simp [intOf]
    ·have a9:py.c<ph.c:=of_decide_eq_true hr;clear hr;go_wp2_with fail
     go_roundw
     case rel =>
      refine⟨i,h,rfl,rfl,c5,c7,by omega,H1,hid (fun s h1 h2=>?_),H⟩;have:=I.out t s (by have:=S.out; omega) h2;rw [a6.out] at this;exact Int.lt_of_lt_of_le a9 this
     case measure=>first | (simp [intOf]; omega) | simp [intOf]
  ·have k1:¬ (i:Int)<(j:Int):=by omega
   obtain rfl:i=j:=by omega
   obtain⟨t,ht⟩:∃t,i=a+t:=⟨i - a,by omega⟩;obtain⟨z,J⟩:=exq (U.take t);obtain⟨U2,M⟩:=exq (U.drop t);have V:z++U2=U:=by rw [<- J,<- M,List.take_append_drop]
   have b0:z.length=t:=by rw [<- J,List.length_take]; have:=HM.out; omega
   have b1:i+U2.length=m:=by rw [<- M,List.length_drop]; have:=HM.out; omega
   have y:SS.mrg keyK U [py]=z++py::U2:=by
    rw [<- V];refine SS.mrg_last ?_ ?_
    ·rw [<- J];exact SS.all_take fun s h1 h2=>H1.out s (by omega)
    ·rw [<- M];exact SS.all_drop fun s h1 h2=>H2.out s (by omega) h2
   have HR:Hid (X++z++py::U2++Y=T):=hid (by rw [<- HT.out,y]; simp);have W:Hid (z.length=t/\i=a+t/\i+U2.length=m):=hid ⟨b0,ht,b1⟩;have b2:D=X++z++U2++py::[]++Y:=by rw [<- HD.out,<- V]; simp
   rw [b2] at H;clear J M V b0 y b2 ht b1;clear B Bm a4 HD a3 I;go_wp2_with fail
   go_loopw [17] (fun kv wr=>∃(k:Nat) (W1 W2:List PK),kv=.int .i64 k/\Hid (k=i+W1.length/\W1++W2=U2)/\k<=m/\Sp w0 (RowK (.slice (some ad) n c) (X++z++W1++py::W2++Y)::L) wr) (fun kv _=>(intOf kv).toNat)
   case atStart=>exact⟨m,U2,[],rfl,hid ⟨W.out.2.2.symm,List.append_nil _⟩,Nat.le_refl _,H⟩
   case round =>
    clear H H1 H2;obtain⟨k,W1,W2,rfl,HW,d9,H⟩:=hrel;by_cases hk:i<k
    ·have k2:(i:Int)<(k:Int):=by omega
     obtain⟨F,px,rfl⟩:∃F p,W1=F++[p]:=⟨W1.dropLast,W1.getLast (by rintro rfl; have:=HW.out.1; simp at this; omega),(List.dropLast_concat_getLast _).symm⟩;obtain⟨k1,N⟩:∃k1,k=k1+1:=⟨k - 1,by omega⟩;obtain⟨D,C⟩:=exq (X++z++(F++[px])++py::W2++Y);rw [C] at H;have E:(X++z++F).length=k1:=by
      have h1:=HW.out.1;rw [List.length_append,List.length_singleton] at h1;rw [List.length_append,List.length_append,HX.out,W.out.1]; have:=W.out.2.1; omega
     have hx:D.getD k1 pk0=px:=by
      rw [<- C,show X++z++(F++[px])++py::W2++Y=(X++z++F)++px::(py::W2++Y) by simp];exact SS.getD_app pk0 _ _ _ E
     have hy:D.getD k pk0=py:=by
      rw [<- C,show X++z++(F++[px])++py::W2++Y=(X++z++F++[px])++py::(W2++Y) by simp];exact SS.getD_app pk0 _ _ _ (by rw [List.length_append,E]; exact N.symm)
     have G:k<D.length:=by
      rw [<- C]; simp only [List.length_append,List.length_cons,List.length_nil] at E ⊢; omega
     have e1:k<n:=by omega
     have b3:=hid hx;have B:=hid hy;have b4:k1<D.length:=by omega
     have Bk:=hid G;have b5:=hid b4;have y4:(k:Int) - 1=(k1:Int):=by omega
     have kk:(k:Int)<(n:Int):=by omega
     have e2:(k1:Int)<(n:Int):=by omega
     have y:(D.set k px).set k1 py=X++z++F++py::(px::W2)++Y:=by
      have h1:=SS.sw_app pk0 (X++z++F) [] (W2++Y) px py E (j:=k) (by rw [E]; exact N.symm);have e0:X++z++F++px::[]++py::(W2++Y)=D:=by rw [<- C]; simp
      rw [e0,SS.sw_comm pk0 D k1 k (by omega)] at h1;unfold SS.sw at h1;rw [hx,hy] at h1;rw [h1]; simp
     have d1:=hid y;have b6:=hid N;have b7:k1<=m:=by omega
     clear y hx hy G b4 C N E;go_wp2_with fail
     refine Zb (L:=L) [some (.slice (some ad) n c),some (.int .i64 k),some (.slice (some ad) n c),some (.int .i64 k),some (.int .i64 k1),some (.slice (some ad) n c),some (.int .i64 k),some (.int .i64 k1),some (.pointer (some (ad.add (k1 * 3)))),some (px.val),some (.slice (some ad) n c),some (.int .i64 k),some (.pointer (some (ad.add (k * 3)))),some (py.val),some (.pointer (some (ad.add (k * 3)))),none,some (.pointer (some (ad.add (k1 * 3)))),none] (fun _ _=>True) (fun ix vx=>match ix with | 15=>(fun _=>[RowK (.slice (some ad) n c) (D.set k px)]) vx | 17=>(fun _=>[RowK (.slice (some ad) n c) ((D.set k px).set k1 py)]) vx | _=>[]) (fun ix=>match ix with | 15=>[RowK (.slice (some ad) n c) D] | _=>[]) 18 220
      [some 113,some 114,some 115,some 116,some 117,some 118,some 119,some 120,some 121,some 122,some 123,some 124,some 125,some 126,some 127,none,some 128,none]
      [[],[],[],[],[3],[],[],[6],[5,7],[8],[],[],[10,11],[12],[0,1,0,1,5,6,7,8,9,13],[14,9,0,1,5,6,7,8,9,13],[2,4,0,1,2,3,4,5,6,7,8,9,10,11,12,13,14,15],[16,13,15,0,1,2,3,4,5,6,7,8,9,10,11,12,13,14,15]]
      [[],[],[],[],[3],[],[],[6],[5,6,7],[5,6,7,8],[],[],[10,11],[10,11,12],[0,1,5,6,7,8,9,10,11,12,13],[0,1,5,6,7,8,9,10,11,12,13,14],[0,1,2,3,4,5,6,7,8,9,10,11,12,13,14,15],[0,1,2,3,4,5,6,7,8,9,10,11,12,13,14,15,16]]
      [[],[],[],[],[],[],[],[],[],[],[],[],[],[],[],[],[],[15]] [[],[],[],[],[],[],[],[],[],[15],[],[],[],[15],[],[],[],[]] [(0,.slice (some ad) n c),(17,.int .i64 k)]
      (by kernel_rfl) rfl (by decide) (by rfl) (by decide +kernel) rfl rfl (by simp) (H) ?hstep ?hend
     case hstep =>
      refine⟨?p0,⟨?p1,⟨?p2,⟨?p3,⟨?p4,⟨?p5,⟨?p6,⟨?p7,⟨?p8,⟨?p9,⟨?p10,⟨?p11,⟨?p12,⟨?p13,⟨?p14,⟨?p15,⟨?p16,⟨?p17,trivial⟩⟩⟩⟩⟩⟩⟩⟩⟩⟩⟩⟩⟩⟩⟩⟩⟩⟩
      case p0 | p1 | p2 | p3 | p4 | p5 | p6 | p7 | p8 | p10 | p11 | p12 | p14 | p16 =>
       intro x wx A f l q o u H K hK;replace hK:=hid hK;clear o u l;repeat (obtain⟨_,q⟩:=q)
       refine so ?_;go_step;exact hK.out _ _ rfl H
      case p9 =>
       intro x wx A f l q o u H K g;have b8:=tq o 8;replace H:Sp w0 (_::f) wx:=H;have hK:=hid g;clear g q o u l;refine so ?_;exact Ze 183 _ rfl _ px.cells (ev b8) (by rw [<- b3.out]; exact RowK.rd H 0 rfl k1 b5.out) Tryz.isAgg183 Tryz.sizeOf183 (hK.out _ _ rfl H)
      case p13 =>
       intro x wx A f l q o u H K g;have b9:=tq o 12;replace H:Sp w0 (_::f) wx:=H;have hK:=hid g;clear g q o u l;refine so ?_;exact Ze 183 _ rfl _ py.cells (ev b9) (by rw [<- B.out]; exact RowK.rd H 0 rfl k Bk.out) Tryz.isAgg183 Tryz.sizeOf183 (hK.out _ _ rfl H)
      case p15 =>
       intro x wx A f l q o u H K g;have c0:=tq o 14;have c1:=tq o 9;replace H:Sp w0 (_::f) wx:=H;have hK:Hid (∀(v:Value) (w' : World),(True)->Sp w0 ((RowK (.slice (some ad) n c) (D.set k px))::f) w'->K (A.put none v) w'):=hid g;clear g q o u l;obtain⟨w9,Z,H9⟩:=RowK.store (i:=k) px H Bk.out;refine so ?_;exact Zm 183 _ _ rfl _ px.cells (ev c0) (ev c1) Z Tryz.sizeOf183 (hK.out undef _ trivial H9)
      case p17 =>
       intro x wx A f l q o u H K g;have c2:=tq o 16;have c3:=tq o 13;replace H:Sp w0 (_::f) wx:=H;have hK:Hid (∀(v:Value) (w' : World),(True)->Sp w0 ((RowK (.slice (some ad) n c) ((D.set k px).set k1 py))::f) w'->K (A.put none v) w'):=hid g;clear g q o u l;obtain⟨w9,Z,H9⟩:=RowK.store (i:=k1) py H (by rw [List.length_set]; exact b5.out);refine so ?_;exact Zm 183 _ _ rfl _ py.cells (ev c2) (ev c3) Z Tryz.sizeOf183 (hK.out undef _ trivial H9)
     case hend =>
      intro x wx A hA o H;replace H:Sp w0 (_::L) wx:=H;clear o;simp only [putAll,Act.put,List.setIfInBounds_toArray,List.set_cons_succ,List.set_cons_zero,Nat.reduceAdd] at hA;subst hA;go_wp2_with fail
      go_roundw
      case rel =>
       refine⟨k1,F,px::W2,by go_num,hid ⟨?_,by rw [<- HW.out.2]; simp⟩,b7,?_⟩
       ·have h1:=HW.out.1;rw [List.length_append,List.length_singleton] at h1;have:=b6.out; omega
       rw [<- d1.out];exact H
      case measure =>
       have:=b6.out;first | (simp [intOf]; omega) | simp [intOf]
    ·have k2:¬ (i:Int)<(k:Int):=by omega
     go_wp2_with fail
     refine bodyPost_ret (results_none rfl _ _ _) rfl ?_;refine⟨rfl,?_⟩;have h0:W1=[]:=List.eq_nil_of_length_eq_zero (by have:=HW.out.1; omega);subst h0;have h2:W2=U2:=HW.out.2;subst h2;rw [List.append_nil,HR.out] at H;exact H
end Go.Proofs.YtnjpnmpemhldcaaGreatDoor

