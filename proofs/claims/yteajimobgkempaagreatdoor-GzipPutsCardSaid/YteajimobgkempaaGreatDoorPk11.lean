/- A pack. -/
import Derived.Test.YteajimobgkempaaGreatDoorPk10
set_option linter.all false
set_option maxRecDepth 100000
set_option maxHeartbeats 8000000
namespace Go.Proofs.YteajimobgkempaaGreatDoor
variable {w0 w:World} {L:List Pr}
open Go.RowKit
namespace SS
theorem srt_at {l:List PK} (h:Srt keyK l) (s t:Nat) (hst:s<=t) (ht:t<l.length):(l.getD s pk0).c<=(l.getD t pk0).c:=by
 rcases Nat.lt_or_eq_of_le hst with h1 | rfl
 ·have:=List.pairwise_iff_getElem.1 h s t (by omega) ht h1;rw [List.getD_eq_getElem?_getD,List.getD_eq_getElem?_getD,List.getElem?_eq_getElem ht,List.getElem?_eq_getElem (by omega)];exact this
 ·exact Int.le_refl _
theorem mem_at {l:List PK} {x:PK} (h:x ∈ l):∃t,t<l.length/\l.getD t pk0=x:=by
 obtain⟨t,a,e⟩:=List.getElem_of_mem h;exact⟨t,a,by rw [List.getD_eq_getElem?_getD,List.getElem?_eq_getElem a,e]; rfl⟩
theorem getD_take {l:List PK} {i t:Nat} (h:t<i):(l.take i).getD t pk0=l.getD t pk0:=by
 rw [List.getD_eq_getElem?_getD,List.getD_eq_getElem?_getD,List.getElem?_take_of_lt h]
theorem getD_drop {l:List PK} {i t:Nat} : (l.drop i).getD t pk0=l.getD (i+t) pk0:=by
 rw [List.getD_eq_getElem?_getD,List.getD_eq_getElem?_getD,List.getElem?_drop]
theorem all_take {l:List PK} {i:Nat} {p:PK->Prop} (h:∀t,t<i->t<l.length->p (l.getD t pk0)):∀z ∈ l.take i,p z:=fun z hz=>by
 obtain⟨t,a,rfl⟩:=mem_at hz;rw [List.length_take] at a;rw [getD_take (by omega)];exact h t (by omega) (by omega)
theorem all_drop {l:List PK} {i:Nat} {p:PK->Prop} (h:∀t,i<=t->t<l.length->p (l.getD t pk0)):∀z ∈ l.drop i,p z:=fun z hz=>by
 obtain⟨t,a,rfl⟩:=mem_at hz;rw [List.length_drop] at a;rw [getD_drop];exact h _ (by omega) (by omega)
theorem mrg_one {x:PK} {v1 v2:List PK} (hv:Srt keyK (v1++v2)) (h1:∀z ∈ v1,z.c<x.c) (h2:∀z ∈ v2,x.c<=z.c):mrg keyK [x] (v1++v2)=v1++x::v2:=by
 have h:=mrg_split (key:=keyK) (u1:=[]) (u2:=[x]) hv (fun _ h=>by cases h) (fun a ha y hy=>by rw [List.mem_singleton.1 ha]; exact h1 y hy);rw [List.nil_append] at h;rw [h,mrg_nil (List.pairwise_append.1 hv).1];have b:=mrg_back (key:=keyK) (s:=[x]) (u:=[]) (v:=v2) (fun a ha y hy=>by rw [List.mem_singleton.1 ha]; exact h2 y hy);rw [List.append_nil] at b;rw [b,mrg_nil (List.pairwise_append.1 hv).2.1]; rfl
theorem mrg_last {y:PK} {u1 u2:List PK} (h1:∀z ∈ u1,z.c<=y.c) (h2:∀z ∈ u2,y.c<z.c):mrg keyK (u1++u2) [y]=u1++y::u2:=put_at h1 h2
end SS
theorem Xm (x y:Int):decide (cmpI x y<0)=decide (x<y):=by
 unfold cmpI;by_cases h:x<y
 ·rw [if_pos h,decide_eq_true h]; rfl
 ·rw [if_neg h,decide_eq_false h];split <;> rfl
theorem Td (ad:Addr) (n c:Nat) (X V Y:List PK) (px:PK) (a m b:Nat) (H:Sp w0 (RowK (.slice (some ad) n c) (X++[px]++V++Y)::L) w) (hn:n=X.length+1+V.length+Y.length) (hl:n<=1000000) (ha:X.length=a) (hm:a+1=m) (hb:m+V.length=b) (hv:SS.Srt keyK V) :
  Calls Tryz.prog 156 #[.slice (some ad) n c,.int .i64 a,.int .i64 m,.int .i64 b,cmpF] w fun e w'=>e=.returned (.tuple #[]) /\
   Sp w0 (RowK (.slice (some ad) n c) (X++SS.mrg keyK [px] V++Y)::L) w':=by
 obtain⟨T,hT⟩:=exq (X++SS.mrg keyK [px] V++Y);rw [hT];have N:=SS.srt_at hv;have y1:(m:Int) - (a:Int)=1:=by omega
 obtain⟨D,C⟩:=exq (X++[px]++V++Y);rw [C] at H;have F:D.length=n:=by rw [<- C]; simp only [List.length_append,List.length_singleton]; omega
 have a1:D.getD a pk0=px:=by
  rw [<- C,show X++[px]++V++Y=X++px::(V++Y) by simp];exact SS.getD_app pk0 _ _ _ ha
 have B:=hid a1;have a2:a<D.length:=by omega
 have Ba:=hid a2;have a3:∀t,t<V.length->D.getD (m+t) pk0=V.getD t pk0:=fun t ht=>by
  rw [<- C,List.append_assoc (X++[px]),List.getD_eq_getElem?_getD,List.getElem?_append_right (by rw [List.length_append,ha,List.length_singleton]; omega),List.getElem?_append_left (by rw [List.length_append,ha,List.length_singleton]; omega),List.getD_eq_getElem?_getD,List.length_append,ha,List.length_singleton,show m+t - (a+1)=t by omega]
 have b5:=hid a3;have O:=hid N;have HV:=hid hv;have HT:=hid hT;have HD:=hid C;have HX:=hid ha;have HB:=hid hb;have HM:=hid hm;have a4:=hid F;have ka:(a:Int)<(n:Int):=by omega
 have d0:b<=n:=by omega
 have b6:m<=b:=by omega
 have d1:a<m:=by omega
 clear N a3 hv hT C a1 a2 ha hb hm F hn;go_enter Tryz.func156,Tryz.ntmps156
 go_wp2_with fail
 go_loopw [10,11] (fun iv jv wr=>∃i j:Nat,iv=.int .i64 i/\jv=.int .i64 j/\m<=i/\i<=j/\j<=b/\Hid (∀t,t+m<i->(V.getD t pk0).c<px.c)/\Hid (∀t,j<=t+m->t<V.length->px.c<=(V.getD t pk0).c)/\Sp w0 (RowK (.slice (some ad) n c) D::L) wr) (fun iv jv _=>(intOf jv).toNat - (intOf iv).toNat)
 case atStart=>exact⟨m,b,rfl,rfl,Nat.le_refl _,b6,Nat.le_refl _,hid (fun t ht=>by omega),hid (fun t h1 h2=>by have:=HB.out; omega),H⟩
 case round =>
  clear H;obtain⟨i,j,rfl,rfl,b7,d2,b8,H1,H2,H⟩:=hrel;by_cases d3:i<j
  ·have u:(i:Int)<(j:Int):=by omega
   obtain⟨h,hh⟩:=exq ((i+j) / 2);have b9:i<=h:=by omega
   have d4:h<j:=by omega
   have y2:((i:Int)+(j:Int)) / 2=(h:Int):=by omega
   clear hh;obtain⟨t,ht⟩:∃t,h=m+t:=⟨h - m,by omega⟩;have R:t<V.length:=by have:=HB.out; omega
   obtain⟨ph,S⟩:=exq (V.getD t pk0);have P:D.getD h pk0=ph:=by rw [ht,b5.out t R,S]
   have a5:=hid P;have a6:=hid S;have U:Hid (h=m+t/\t<V.length):=hid ⟨ht,R⟩;have kh:(h:Int)<(n:Int):=by omega
   have a7:h<D.length:=by have:=a4.out; omega
   have Bh:=hid a7;obtain⟨r,hr⟩:=exq (decide (cmpI ph.c px.c<0));clear ht R S P a7;go_wp2_with fail
   refine Zb (L:=RowK (.slice (some ad) n c) D::L) [some (cmpF),some (.slice (some ad) n c),some (.int .i64 h),some (.pointer (some (ad.add (h * 3)))),some (ph.val),some (.slice (some ad) n c),some (.int .i64 a),some (.pointer (some (ad.add (a * 3)))),some (px.val),some (.int .i64 (cmpI ph.c px.c)),some (.bool r)] (fun _ _=>True) (fun _ _=>[]) (fun _=>[]) 11 220
    [some 40,some 41,some 42,some 43,some 44,some 45,some 46,some 47,some 48,some 49,some 50]
    [[],[],[],[1,2],[3],[],[],[5,6],[7],[0,4,8],[9]]
    [[],[],[],[1,2],[1,2,3],[],[],[5,6],[5,6,7],[0,1,2,3,4,5,6,7,8],[0,1,2,3,4,5,6,7,8,9]]
    [[],[],[],[],[],[],[],[],[],[],[]] [[],[],[],[],[],[],[],[],[],[],[]] [(0,.slice (some ad) n c),(1,.int .i64 a),(4,cmpF),(12,.int .i64 h)]
    (by kernel_rfl) rfl (by decide) (by rfl) (by decide +kernel) rfl rfl (by simp) (H) ?hstep ?hend
   case hstep =>
    refine⟨?p0,⟨?p1,⟨?p2,⟨?p3,⟨?p4,⟨?p5,⟨?p6,⟨?p7,⟨?p8,⟨?p9,⟨?p10,trivial⟩⟩⟩⟩⟩⟩⟩⟩⟩⟩⟩
    case p0 | p1 | p2 | p3 | p5 | p6 | p7 | p10 =>
     intro x wx A d g q l y H K o;replace o:=hid o;clear l y g;repeat (obtain⟨_,q⟩:=q)
     refine so ?_;go_step;exact o.out _ _ rfl H
    case p4 =>
     intro x wx A d g q l y H K f;have c0:=tq l 3;have o:=hid f;clear f q l g;refine so ?_;exact Zc 143 _ rfl _ ph.cells (ev c0) (by rw [<- a5.out]; exact y (fun w=>∀jj vv,(D.getD h pk0).cells[jj]?=some vv->w.cell? ((ad.add (h * 3)).add jj)=some vv) (fun _ _ H=>RowK.rd H 0 rfl h Bh.out) _ _ H) Tryz.isAgg143 Tryz.sizeOf143 (o.out _ _ rfl H)
    case p8 =>
     intro x wx A d g q l y H K f;have c1:=tq l 7;have o:=hid f;clear f q l g;refine so ?_;exact Zc 143 _ rfl _ px.cells (ev c1) (by rw [<- B.out]; exact y (fun w=>∀jj vv,(D.getD a pk0).cells[jj]?=some vv->w.cell? ((ad.add (a * 3)).add jj)=some vv) (fun _ _ H=>RowK.rd H 0 rfl a Ba.out) _ _ H) Tryz.isAgg143 Tryz.sizeOf143 (o.out _ _ rfl H)
    case p9 =>
     intro x wx A d g q l y H K f;have d5:=tq l 0;have d6:=tq l 4;have d7:=tq l 8;have o:=hid f;clear f q l y g;refine so ?_;unfold cmpF at *;go_wp2_with fail
     refine(YN ph px H).mono ?_;rintro _ w9 ⟨rfl,H9⟩;exact o.out _ _ rfl H9
   case hend =>
    intro x wx A hA l H;replace H:Sp w0 (_::L) wx:=H;have a8:x 10=.bool r:=l 10 (by decide);clear l;simp only [putAll,Act.put,List.setIfInBounds_toArray,List.set_cons_succ,List.set_cons_zero,Nat.reduceAdd] at hA;subst hA;rw [a8];clear a8;rw [Xm] at hr;cases r
    ·have c2:px.c<=ph.c:=by have:=of_decide_eq_false hr; omega
     clear hr;go_wp2_with fail
     go_roundw
     case rel =>
      refine⟨i,h,rfl,rfl,b7,b9,by omega,H1,hid (fun s h1 h2=>?_),H⟩;have:=O.out t s (by have:=U.out; omega) h2;rw [a6.out] at this;exact Int.le_trans c2 this
     case measure=>first | (simp [intOf]; omega) | simp [intOf]
    ·have a9:ph.c<px.c:=of_decide_eq_true hr;clear hr;go_wp2_with fail
     go_roundw
     case rel =>
      refine⟨h+1,j,by go_num,rfl,by omega,by omega,b8,hid (fun s h1=>?_),H2,H⟩;have:=O.out s t (by have:=U.out; omega) U.out.2;rw [a6.out] at this;exact Int.lt_of_le_of_lt this a9
     case measure=>first | (simp [intOf]; omega) | simp [intOf]
  ·have u:¬ (i:Int)<(j:Int):=by omega
   obtain rfl:i=j:=by omega
   obtain⟨t,ht⟩:∃t,i=m+t:=⟨i - m,by omega⟩;obtain⟨V1,G⟩:=exq (V.take t);obtain⟨V2,W⟩:=exq (V.drop t);have I:V1++V2=V:=by rw [<- G,<- W,List.take_append_drop]
   have b0:V1.length=t:=by rw [<- G,List.length_take]; have:=HB.out; omega
   have z:SS.mrg keyK [px] V=V1++px::V2:=by
    rw [<- I];refine SS.mrg_one (by rw [I]; exact HV.out) ?_ ?_
    ·rw [<- G];exact SS.all_take fun s h1 h2=>H1.out s (by omega)
    ·rw [<- W];exact SS.all_drop fun s h1 h2=>H2.out s (by omega) h2
   have HR:Hid (X++V1++px::V2++Y=T):=hid (by rw [<- HT.out,z]; simp);have Z:Hid (V1.length=t/\i=m+t/\m=a+1):=hid ⟨b0,ht,HM.out.symm⟩;have b1:D=X++[]++px::V1++(V2++Y):=by rw [<- HD.out,<- I]; simp
   rw [b1] at H;have y3:(i:Int) - 1=((a+t:Nat):Int):=by have:=HM.out; omega
   obtain⟨e,he⟩:=exq (a+t);rw [he] at y3;have J:=hid he;clear G W I b0 z b1 ht he;clear B Ba a4 HD;go_wp2_with fail
   go_loopw [13] (fun kv wr=>∃(k:Nat) (W1 W2:List PK),kv=.int .i64 k/\Hid (k=a+W1.length/\W1++W2=V1)/\k<=e/\Sp w0 (RowK (.slice (some ad) n c) (X++W1++px::W2++(V2++Y))::L) wr) (fun kv _=>e - (intOf kv).toNat)
   case atStart=>exact⟨a,[],V1,rfl,hid ⟨rfl,rfl⟩,by have:=J.out; omega,H⟩
   case round =>
    clear H H1 H2;obtain⟨k,W1,W2,rfl,Q,d8,H⟩:=hrel;by_cases hk:k<e
    ·have k2:(k:Int)<(e:Int):=by omega
     obtain⟨py,W3,rfl⟩:∃p W3,W2=p::W3:=by
      cases W2 with
      | nil =>
       have h1:=congrArg List.length Q.out.2;rw [List.append_nil,Z.out.1] at h1;have:=Q.out.1; have:=J.out; omega
      | cons p W3=>exact⟨p,W3,rfl⟩
     obtain⟨D,C⟩:=exq (X++W1++px::py::W3++(V2++Y));rw [C] at H;obtain⟨u,M⟩:=exq (k+1);have E:(X++W1).length=k:=by rw [List.length_append,HX.out,<- Q.out.1]
     have hx:D.getD k pk0=px:=by
      rw [<- C,show X++W1++px::py::W3++(V2++Y)=(X++W1)++px::(py::W3++(V2++Y)) by simp];exact SS.getD_app pk0 _ _ _ E
     have hy:D.getD u pk0=py:=by
      rw [<- C,show X++W1++px::py::W3++(V2++Y)=(X++W1++[px])++py::(W3++(V2++Y)) by simp];exact SS.getD_app pk0 _ _ _ (by rw [List.length_append,E]; exact M)
     have F:u<D.length:=by
      rw [<- C]; simp only [List.length_append,List.length_cons] at E ⊢; omega
     have d9:u<n:=by have:=Z.out; have:=J.out; omega
     have B:=hid hx;have b2:=hid hy;have b3:k<D.length:=by omega
     have Bk:=hid b3;have b4:=hid F;have y4:(k:Int)+1=(u:Int):=by omega
     have kk:(k:Int)<(n:Int):=by omega
     have e1:(u:Int)<(n:Int):=by omega
     have z:(D.set k py).set u px=X++(W1++[py])++px::W3++(V2++Y):=by
      have h1:=SS.sw_app pk0 (X++W1) [] (W3++(V2++Y)) px py E (j:=u) (by rw [E]; exact M);have e0:X++W1++px::[]++py::(W3++(V2++Y))=D:=by rw [<- C]; simp
      rw [e0] at h1;unfold SS.sw at h1;rw [hx,hy] at h1;rw [h1]; simp
     have c3:=hid z;have e2:=hid M;clear z hx hy F b3 C M E;go_wp2_with fail
     refine Zb (L:=L) [some (.slice (some ad) n c),some (.int .i64 k),some (.slice (some ad) n c),some (.int .i64 k),some (.int .i64 u),some (.slice (some ad) n c),some (.int .i64 k),some (.int .i64 u),some (.pointer (some (ad.add (u * 3)))),some (py.val),some (.slice (some ad) n c),some (.int .i64 k),some (.pointer (some (ad.add (k * 3)))),some (px.val),some (.pointer (some (ad.add (k * 3)))),none,some (.pointer (some (ad.add (u * 3)))),none] (fun _ _=>True) (fun ix vx=>match ix with | 15=>(fun _=>[RowK (.slice (some ad) n c) (D.set k py)]) vx | 17=>(fun _=>[RowK (.slice (some ad) n c) ((D.set k py).set u px)]) vx | _=>[]) (fun ix=>match ix with | 15=>[RowK (.slice (some ad) n c) D] | _=>[]) 18 220
      [some 61,some 62,some 63,some 64,some 65,some 66,some 67,some 68,some 69,some 70,some 71,some 72,some 73,some 74,some 75,none,some 76,none]
      [[],[],[],[],[3],[],[],[6],[5,7],[8],[],[],[10,11],[12],[0,1,0,1,5,6,7,8,9,13],[14,9,0,1,5,6,7,8,9,13],[2,4,0,1,2,3,4,5,6,7,8,9,10,11,12,13,14,15],[16,13,15,0,1,2,3,4,5,6,7,8,9,10,11,12,13,14,15]]
      [[],[],[],[],[3],[],[],[6],[5,6,7],[5,6,7,8],[],[],[10,11],[10,11,12],[0,1,5,6,7,8,9,10,11,12,13],[0,1,5,6,7,8,9,10,11,12,13,14],[0,1,2,3,4,5,6,7,8,9,10,11,12,13,14,15],[0,1,2,3,4,5,6,7,8,9,10,11,12,13,14,15,16]]
      [[],[],[],[],[],[],[],[],[],[],[],[],[],[],[],[],[],[15]] [[],[],[],[],[],[],[],[],[],[15],[],[],[],[15],[],[],[],[]] [(0,.slice (some ad) n c),(13,.int .i64 k)]
      (by kernel_rfl) rfl (by decide) (by rfl) (by decide +kernel) rfl rfl (by simp) (H) ?hstep ?hend
     case hstep =>
      refine⟨?p0,⟨?p1,⟨?p2,⟨?p3,⟨?p4,⟨?p5,⟨?p6,⟨?p7,⟨?p8,⟨?p9,⟨?p10,⟨?p11,⟨?p12,⟨?p13,⟨?p14,⟨?p15,⟨?p16,⟨?p17,trivial⟩⟩⟩⟩⟩⟩⟩⟩⟩⟩⟩⟩⟩⟩⟩⟩⟩⟩
      case p0 | p1 | p2 | p3 | p4 | p5 | p6 | p7 | p8 | p10 | p11 | p12 | p14 | p16 =>
       intro x wx A d g q l y H K o;replace o:=hid o;clear l y g;repeat (obtain⟨_,q⟩:=q)
       refine so ?_;go_step;exact o.out _ _ rfl H
      case p9 =>
       intro x wx A d g q l y H K f;have c4:=tq l 8;replace H:Sp w0 (_::d) wx:=H;have o:=hid f;clear f q l y g;refine so ?_;exact Zc 143 _ rfl _ py.cells (ev c4) (by rw [<- b2.out]; exact RowK.rd H 0 rfl u b4.out) Tryz.isAgg143 Tryz.sizeOf143 (o.out _ _ rfl H)
      case p13 =>
       intro x wx A d g q l y H K f;have c5:=tq l 12;replace H:Sp w0 (_::d) wx:=H;have o:=hid f;clear f q l y g;refine so ?_;exact Zc 143 _ rfl _ px.cells (ev c5) (by rw [<- B.out]; exact RowK.rd H 0 rfl k Bk.out) Tryz.isAgg143 Tryz.sizeOf143 (o.out _ _ rfl H)
      case p15 =>
       intro x wx A d g q l y H K f;have c6:=tq l 14;have c7:=tq l 9;replace H:Sp w0 (_::d) wx:=H;have o:Hid (∀(v:Value) (w' : World),(True)->Sp w0 ((RowK (.slice (some ad) n c) (D.set k py))::d) w'->K (A.put none v) w'):=hid f;clear f q l y g;obtain⟨w9,a0,H9⟩:=RowK.store (i:=k) py H Bk.out;refine so ?_;exact Zl 143 _ _ rfl _ py.cells (ev c6) (ev c7) a0 Tryz.sizeOf143 (o.out undef _ trivial H9)
      case p17 =>
       intro x wx A d g q l y H K f;have c8:=tq l 16;have c9:=tq l 13;replace H:Sp w0 (_::d) wx:=H;have o:Hid (∀(v:Value) (w' : World),(True)->Sp w0 ((RowK (.slice (some ad) n c) ((D.set k py).set u px))::d) w'->K (A.put none v) w'):=hid f;clear f q l y g;obtain⟨w9,a0,H9⟩:=RowK.store (i:=u) px H (by rw [List.length_set]; exact b4.out);refine so ?_;exact Zl 143 _ _ rfl _ px.cells (ev c8) (ev c9) a0 Tryz.sizeOf143 (o.out undef _ trivial H9)
     case hend =>
      intro x wx A hA l H;replace H:Sp w0 (_::L) wx:=H;clear l;simp only [putAll,Act.put,List.setIfInBounds_toArray,List.set_cons_succ,List.set_cons_zero,Nat.reduceAdd] at hA;subst hA;go_wp2_with fail
      go_roundw
      case rel =>
       refine⟨k+1,W1++[py],W3,by go_num,hid ⟨by rw [List.length_append,Q.out.1]; rfl,by rw [<- Q.out.2]; simp⟩,by omega,?_⟩;rw [<- c3.out];exact H
      case measure=>first | (simp [intOf]; omega) | simp [intOf]
    ·have k2:¬ (k:Int)<(e:Int):=by omega
     go_wp2_with fail
     refine bodyPost_ret (results_none rfl _ _ _) rfl ?_;refine⟨rfl,?_⟩;have h1:=congrArg List.length Q.out.2;rw [List.length_append,Z.out.1] at h1;have h0:W2=[]:=List.eq_nil_of_length_eq_zero (by have:=Q.out.1; have:=J.out; omega);subst h0;have h2:W1=V1:=by have:=Q.out.2; rwa [List.append_nil] at this
     subst h2;rw [show X++W1++[px]++(V2++Y)=X++W1++px::V2++Y by simp,HR.out] at H;exact H
theorem Te (ad:Addr) (n c:Nat) (X U Y:List PK) (py:PK) (a m b:Nat) (H:Sp w0 (RowK (.slice (some ad) n c) (X++U++[py]++Y)::L) w) (hn:n=X.length+U.length+1+Y.length) (hl:n<=1000000) (ha:X.length=a) (hm:a+U.length=m) (hb:m+1=b) (hu2:2<=U.length) (hv:SS.Srt keyK U) :
  Calls Tryz.prog 156 #[.slice (some ad) n c,.int .i64 a,.int .i64 m,.int .i64 b,cmpF] w fun e w'=>e=.returned (.tuple #[]) /\
   Sp w0 (RowK (.slice (some ad) n c) (X++SS.mrg keyK U [py]++Y)::L) w':=by
 obtain⟨T,hT⟩:=exq (X++SS.mrg keyK U [py]++Y);rw [hT];have P:=SS.srt_at hv;obtain⟨d,hd⟩:=exq (m - a);have y0:(m:Int) - (a:Int)=(d:Int):=by omega
 have kd:((d:Int) == 1)=false:=by rw [beq_eq_false_iff_ne]; omega
 have y1:(b:Int) - (m:Int)=1:=by omega
 obtain⟨D,E⟩:=exq (X++U++[py]++Y);rw [E] at H;have I:D.length=n:=by rw [<- E]; simp only [List.length_append,List.length_singleton]; omega
 have a1:D.getD m pk0=py:=by
  rw [<- E,show X++U++[py]++Y=(X++U)++py::Y by simp];exact SS.getD_app pk0 _ _ _ (by rw [List.length_append,ha]; exact hm)
 have C:=hid a1;have a2:m<D.length:=by omega
 have Bm:=hid a2;have a3:∀t,t<U.length->D.getD (a+t) pk0=U.getD t pk0:=fun t ht=>by
  rw [<- E,show X++U++[py]++Y=X++(U++([py]++Y)) by simp,List.getD_eq_getElem?_getD,List.getElem?_append_right (by omega),List.getElem?_append_left (by omega),List.getD_eq_getElem?_getD,ha,show a+t - a=t by omega]
 have a4:=hid a3;have J:=hid P;have HT:=hid hT;have HD:=hid E;have HX:=hid ha;have HM:=hid hm;have a5:=hid I;have km:(m:Int)<(n:Int):=by omega
 have d4:m<n:=by omega
 have c5:a<=m:=by omega
 clear P a3 hT E a1 a2 ha hb hm I hn hd hv;go_enter Tryz.func156,Tryz.ntmps156
 go_wp2_with fail
 go_loopw [14,15] (fun iv jv wr=>∃i j:Nat,iv=.int .i64 i/\jv=.int .i64 j/\a<=i/\i<=j/\j<=m/\Hid (∀t,t+a<i->(U.getD t pk0).c<=py.c)/\Hid (∀t,j<=t+a->t<U.length->py.c<(U.getD t pk0).c)/\Sp w0 (RowK (.slice (some ad) n c) D::L) wr) (fun iv jv _=>(intOf jv).toNat - (intOf iv).toNat)
 case atStart=>exact⟨a,m,rfl,rfl,Nat.le_refl _,c5,Nat.le_refl _,hid (fun t ht=>by omega),hid (fun t h1 h2=>by have:=HM.out; omega),H⟩
 case round =>
  clear H;obtain⟨i,j,rfl,rfl,c6,d5,c7,H1,H2,H⟩:=hrel;by_cases d6:i<j
  ·have k1:(i:Int)<(j:Int):=by omega
   obtain⟨h,hh⟩:=exq ((i+j) / 2);have c8:i<=h:=by omega
   have d7:h<j:=by omega
   have y2:((i:Int)+(j:Int)) / 2=(h:Int):=by omega
   clear hh;obtain⟨t,ht⟩:∃t,h=a+t:=⟨h - a,by omega⟩;have R:t<U.length:=by have:=HM.out; omega
   obtain⟨ph,S⟩:=exq (U.getD t pk0);have Q:D.getD h pk0=ph:=by rw [ht,a4.out t R,S]
   have a6:=hid Q;have a7:=hid S;have V:Hid (h=a+t/\t<U.length):=hid ⟨ht,R⟩;have kh:(h:Int)<(n:Int):=by omega
   have a8:h<D.length:=by have:=a5.out; omega
   have Bh:=hid a8;obtain⟨r,hr⟩:=exq (decide (cmpI py.c ph.c<0));clear ht R S Q a8;go_wp2_with fail
   refine Zb (L:=RowK (.slice (some ad) n c) D::L) [some (cmpF),some (.slice (some ad) n c),some (.int .i64 m),some (.pointer (some (ad.add (m * 3)))),some (py.val),some (.slice (some ad) n c),some (.int .i64 h),some (.pointer (some (ad.add (h * 3)))),some (ph.val),some (.int .i64 (cmpI py.c ph.c)),some (.bool r),some (.bool (!r))] (fun _ _=>True) (fun _ _=>[]) (fun _=>[]) 12 220
    [some 92,some 93,some 94,some 95,some 96,some 97,some 98,some 99,some 100,some 101,some 102,some 103]
    [[],[],[],[1,2],[3],[],[],[5,6],[7],[0,4,8],[9],[10]]
    [[],[],[],[1,2],[1,2,3],[],[],[5,6],[5,6,7],[0,1,2,3,4,5,6,7,8],[0,1,2,3,4,5,6,7,8,9],[0,1,2,3,4,5,6,7,8,9,10]]
    [[],[],[],[],[],[],[],[],[],[],[],[]] [[],[],[],[],[],[],[],[],[],[],[],[]] [(0,.slice (some ad) n c),(2,.int .i64 m),(4,cmpF),(16,.int .i64 h)]
    (by kernel_rfl) rfl (by decide) (by rfl) (by decide +kernel) rfl rfl (by simp) (H) ?hstep ?hend
   case hstep =>
    refine⟨?p0,⟨?p1,⟨?p2,⟨?p3,⟨?p4,⟨?p5,⟨?p6,⟨?p7,⟨?p8,⟨?p9,⟨?p10,⟨?p11,trivial⟩⟩⟩⟩⟩⟩⟩⟩⟩⟩⟩⟩
    case p0 | p1 | p2 | p3 | p5 | p6 | p7 | p10 | p11 =>
     intro x wx A f l u o y H K q;replace q:=hid q;clear o y l;repeat (obtain⟨_,u⟩:=u)
     refine so ?_;go_step;exact q.out _ _ rfl H
    case p4 =>
     intro x wx A f l u o y H K g;have c9:=tq o 3;have q:=hid g;clear g u o l;refine so ?_;exact Zc 143 _ rfl _ py.cells (ev c9) (by rw [<- C.out]; exact y (fun w=>∀jj vv,(D.getD m pk0).cells[jj]?=some vv->w.cell? ((ad.add (m * 3)).add jj)=some vv) (fun _ _ H=>RowK.rd H 0 rfl m Bm.out) _ _ H) Tryz.isAgg143 Tryz.sizeOf143 (q.out _ _ rfl H)
    case p8 =>
     intro x wx A f l u o y H K g;have d0:=tq o 7;have q:=hid g;clear g u o l;refine so ?_;exact Zc 143 _ rfl _ ph.cells (ev d0) (by rw [<- a6.out]; exact y (fun w=>∀jj vv,(D.getD h pk0).cells[jj]?=some vv->w.cell? ((ad.add (h * 3)).add jj)=some vv) (fun _ _ H=>RowK.rd H 0 rfl h Bh.out) _ _ H) Tryz.isAgg143 Tryz.sizeOf143 (q.out _ _ rfl H)
    case p9 =>
     intro x wx A f l u o y H K g;have d8:=tq o 0;have d9:=tq o 4;have d3:=tq o 8;have q:=hid g;clear g u o y l;refine so ?_;unfold cmpF at *;go_wp2_with fail
     refine(YN py ph H).mono ?_;rintro _ w9 ⟨rfl,H9⟩;exact q.out _ _ rfl H9
   case hend =>
    intro x wx A hA o H;replace H:Sp w0 (_::L) wx:=H;have a9:x 11=.bool (!r):=o 11 (by decide);clear o;simp only [putAll,Act.put,List.setIfInBounds_toArray,List.set_cons_succ,List.set_cons_zero,Nat.reduceAdd] at hA;subst hA;rw [a9];clear a9;rw [Xm] at hr;cases r
    ·have d1:ph.c<=py.c:=by have:=of_decide_eq_false hr; omega
     clear hr;go_wp2_with fail
     go_roundw
     case rel =>
      refine⟨h+1,j,by go_num,rfl,by omega,by omega,c7,hid (fun s h1=>?_),H2,H⟩;have:=J.out s t (by have:=V.out; omega) V.out.2;rw [a7.out] at this;exact Int.le_trans this d1
     case measure=>first | (simp [intOf]; omega) | simp [intOf]
    ·have b0:py.c<ph.c:=of_decide_eq_true hr;clear hr;go_wp2_with fail
     go_roundw
     case rel =>
      refine⟨i,h,rfl,rfl,c6,c8,by omega,H1,hid (fun s h1 h2=>?_),H⟩;have:=J.out t s (by have:=V.out; omega) h2;rw [a7.out] at this;exact Int.lt_of_lt_of_le b0 this
     case measure=>first | (simp [intOf]; omega) | simp [intOf]
  ·have k1:¬ (i:Int)<(j:Int):=by omega
   obtain rfl:i=j:=by omega
   obtain⟨t,ht⟩:∃t,i=a+t:=⟨i - a,by omega⟩;obtain⟨B,M⟩:=exq (U.take t);obtain⟨U2,N⟩:=exq (U.drop t);have W:B++U2=U:=by rw [<- M,<- N,List.take_append_drop]
   have b1:B.length=t:=by rw [<- M,List.length_take]; have:=HM.out; omega
   have b2:i+U2.length=m:=by rw [<- N,List.length_drop]; have:=HM.out; omega
   have z:SS.mrg keyK U [py]=B++py::U2:=by
    rw [<- W];refine SS.mrg_last ?_ ?_
    ·rw [<- M];exact SS.all_take fun s h1 h2=>H1.out s (by omega)
    ·rw [<- N];exact SS.all_drop fun s h1 h2=>H2.out s (by omega) h2
   have HR:Hid (X++B++py::U2++Y=T):=hid (by rw [<- HT.out,z]; simp);have Z:Hid (B.length=t/\i=a+t/\i+U2.length=m):=hid ⟨b1,ht,b2⟩;have b3:D=X++B++U2++py::[]++Y:=by rw [<- HD.out,<- W]; simp
   rw [b3] at H;clear M N W b1 z b3 ht b2;clear C Bm a5 HD a4 J;go_wp2_with fail
   go_loopw [17] (fun kv wr=>∃(k:Nat) (W1 W2:List PK),kv=.int .i64 k/\Hid (k=i+W1.length/\W1++W2=U2)/\k<=m/\Sp w0 (RowK (.slice (some ad) n c) (X++B++W1++py::W2++Y)::L) wr) (fun kv _=>(intOf kv).toNat)
   case atStart=>exact⟨m,U2,[],rfl,hid ⟨Z.out.2.2.symm,List.append_nil _⟩,Nat.le_refl _,H⟩
   case round =>
    clear H H1 H2;obtain⟨k,W1,W2,rfl,HW,e1,H⟩:=hrel;by_cases hk:i<k
    ·have k2:(i:Int)<(k:Int):=by omega
     obtain⟨G,px,rfl⟩:∃G p,W1=G++[p]:=⟨W1.dropLast,W1.getLast (by rintro rfl; have:=HW.out.1; simp at this; omega),(List.dropLast_concat_getLast _).symm⟩;obtain⟨k1,O⟩:∃k1,k=k1+1:=⟨k - 1,by omega⟩;obtain⟨D,E⟩:=exq (X++B++(G++[px])++py::W2++Y);rw [E] at H;have F:(X++B++G).length=k1:=by
      have h1:=HW.out.1;rw [List.length_append,List.length_singleton] at h1;rw [List.length_append,List.length_append,HX.out,Z.out.1]; have:=Z.out.2.1; omega
     have hx:D.getD k1 pk0=px:=by
      rw [<- E,show X++B++(G++[px])++py::W2++Y=(X++B++G)++px::(py::W2++Y) by simp];exact SS.getD_app pk0 _ _ _ F
     have hy:D.getD k pk0=py:=by
      rw [<- E,show X++B++(G++[px])++py::W2++Y=(X++B++G++[px])++py::(W2++Y) by simp];exact SS.getD_app pk0 _ _ _ (by rw [List.length_append,F]; exact O.symm)
     have I:k<D.length:=by
      rw [<- E]; simp only [List.length_append,List.length_cons,List.length_nil] at F ⊢; omega
     have e2:k<n:=by omega
     have b4:=hid hx;have C:=hid hy;have b5:k1<D.length:=by omega
     have Bk:=hid I;have b6:=hid b5;have y4:(k:Int) - 1=(k1:Int):=by omega
     have kk:(k:Int)<(n:Int):=by omega
     have e3:(k1:Int)<(n:Int):=by omega
     have z:(D.set k px).set k1 py=X++B++G++py::(px::W2)++Y:=by
      have h1:=SS.sw_app pk0 (X++B++G) [] (W2++Y) px py F (j:=k) (by rw [F]; exact O.symm);have e0:X++B++G++px::[]++py::(W2++Y)=D:=by rw [<- E]; simp
      rw [e0,SS.sw_comm pk0 D k1 k (by omega)] at h1;unfold SS.sw at h1;rw [hx,hy] at h1;rw [h1]; simp
     have d2:=hid z;have b7:=hid O;have b8:k1<=m:=by omega
     clear z hx hy I b5 E O F;go_wp2_with fail
     refine Zb (L:=L) [some (.slice (some ad) n c),some (.int .i64 k),some (.slice (some ad) n c),some (.int .i64 k),some (.int .i64 k1),some (.slice (some ad) n c),some (.int .i64 k),some (.int .i64 k1),some (.pointer (some (ad.add (k1 * 3)))),some (px.val),some (.slice (some ad) n c),some (.int .i64 k),some (.pointer (some (ad.add (k * 3)))),some (py.val),some (.pointer (some (ad.add (k * 3)))),none,some (.pointer (some (ad.add (k1 * 3)))),none] (fun _ _=>True) (fun ix vx=>match ix with | 15=>(fun _=>[RowK (.slice (some ad) n c) (D.set k px)]) vx | 17=>(fun _=>[RowK (.slice (some ad) n c) ((D.set k px).set k1 py)]) vx | _=>[]) (fun ix=>match ix with | 15=>[RowK (.slice (some ad) n c) D] | _=>[]) 18 220
      [some 113,some 114,some 115,some 116,some 117,some 118,some 119,some 120,some 121,some 122,some 123,some 124,some 125,some 126,some 127,none,some 128,none]
      [[],[],[],[],[3],[],[],[6],[5,7],[8],[],[],[10,11],[12],[0,1,0,1,5,6,7,8,9,13],[14,9,0,1,5,6,7,8,9,13],[2,4,0,1,2,3,4,5,6,7,8,9,10,11,12,13,14,15],[16,13,15,0,1,2,3,4,5,6,7,8,9,10,11,12,13,14,15]]
      [[],[],[],[],[3],[],[],[6],[5,6,7],[5,6,7,8],[],[],[10,11],[10,11,12],[0,1,5,6,7,8,9,10,11,12,13],[0,1,5,6,7,8,9,10,11,12,13,14],[0,1,2,3,4,5,6,7,8,9,10,11,12,13,14,15],[0,1,2,3,4,5,6,7,8,9,10,11,12,13,14,15,16]]
      [[],[],[],[],[],[],[],[],[],[],[],[],[],[],[],[],[],[15]] [[],[],[],[],[],[],[],[],[],[15],[],[],[],[15],[],[],[],[]] [(0,.slice (some ad) n c),(17,.int .i64 k)]
      (by kernel_rfl) rfl (by decide) (by rfl) (by decide +kernel) rfl rfl (by simp) (H) ?hstep ?hend
     case hstep =>
      refine⟨?p0,⟨?p1,⟨?p2,⟨?p3,⟨?p4,⟨?p5,⟨?p6,⟨?p7,⟨?p8,⟨?p9,⟨?p10,⟨?p11,⟨?p12,⟨?p13,⟨?p14,⟨?p15,⟨?p16,⟨?p17,trivial⟩⟩⟩⟩⟩⟩⟩⟩⟩⟩⟩⟩⟩⟩⟩⟩⟩⟩
      case p0 | p1 | p2 | p3 | p4 | p5 | p6 | p7 | p8 | p10 | p11 | p12 | p14 | p16 =>
       intro x wx A f l u o y H K q;replace q:=hid q;clear o y l;repeat (obtain⟨_,u⟩:=u)
       refine so ?_;go_step;exact q.out _ _ rfl H
      case p9 =>
       intro x wx A f l u o y H K g;have b9:=tq o 8;replace H:Sp w0 (_::f) wx:=H;have q:=hid g;clear g u o y l;refine so ?_;exact Zc 143 _ rfl _ px.cells (ev b9) (by rw [<- b4.out]; exact RowK.rd H 0 rfl k1 b6.out) Tryz.isAgg143 Tryz.sizeOf143 (q.out _ _ rfl H)
      case p13 =>
       intro x wx A f l u o y H K g;have c0:=tq o 12;replace H:Sp w0 (_::f) wx:=H;have q:=hid g;clear g u o y l;refine so ?_;exact Zc 143 _ rfl _ py.cells (ev c0) (by rw [<- C.out]; exact RowK.rd H 0 rfl k Bk.out) Tryz.isAgg143 Tryz.sizeOf143 (q.out _ _ rfl H)
      case p15 =>
       intro x wx A f l u o y H K g;have c1:=tq o 14;have c2:=tq o 9;replace H:Sp w0 (_::f) wx:=H;have q:Hid (∀(v:Value) (w' : World),(True)->Sp w0 ((RowK (.slice (some ad) n c) (D.set k px))::f) w'->K (A.put none v) w'):=hid g;clear g u o y l;obtain⟨w9,a0,H9⟩:=RowK.store (i:=k) px H Bk.out;refine so ?_;exact Zl 143 _ _ rfl _ px.cells (ev c1) (ev c2) a0 Tryz.sizeOf143 (q.out undef _ trivial H9)
      case p17 =>
       intro x wx A f l u o y H K g;have c3:=tq o 16;have c4:=tq o 13;replace H:Sp w0 (_::f) wx:=H;have q:Hid (∀(v:Value) (w' : World),(True)->Sp w0 ((RowK (.slice (some ad) n c) ((D.set k px).set k1 py))::f) w'->K (A.put none v) w'):=hid g;clear g u o y l;obtain⟨w9,a0,H9⟩:=RowK.store (i:=k1) py H (by rw [List.length_set]; exact b6.out);refine so ?_;exact Zl 143 _ _ rfl _ py.cells (ev c3) (ev c4) a0 Tryz.sizeOf143 (q.out undef _ trivial H9)
     case hend =>
      intro x wx A hA o H;replace H:Sp w0 (_::L) wx:=H;clear o;simp only [putAll,Act.put,List.setIfInBounds_toArray,List.set_cons_succ,List.set_cons_zero,Nat.reduceAdd] at hA;subst hA;go_wp2_with fail
      go_roundw
      case rel =>
       refine⟨k1,G,px::W2,by go_num,hid ⟨?_,by rw [<- HW.out.2]; simp⟩,b8,?_⟩
       ·have h1:=HW.out.1;rw [List.length_append,List.length_singleton] at h1;have:=b7.out; omega
       rw [<- d2.out];exact H
      case measure =>
       have:=b7.out;first | (simp [intOf]; omega) | simp [intOf]
    ·have k2:¬ (i:Int)<(k:Int):=by omega
     go_wp2_with fail
     refine bodyPost_ret (results_none rfl _ _ _) rfl ?_;refine⟨rfl,?_⟩;have h0:W1=[]:=List.eq_nil_of_length_eq_zero (by have:=HW.out.1; omega);subst h0;have h2:W2=U2:=HW.out.2;subst h2;rw [List.append_nil,HR.out] at H;exact H
end Go.Proofs.YteajimobgkempaaGreatDoor

