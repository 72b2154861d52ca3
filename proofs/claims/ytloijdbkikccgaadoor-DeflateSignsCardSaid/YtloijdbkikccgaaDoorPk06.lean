/- A pack of texts: SortD. -/
import Derived.Test.YtloijdbkikccgaaDoorPk05
namespace Go.Proofs.YtloijdbkikccgaaDoor
open Go.RowKit
namespace SS
theorem srt_at {l:List PK} (h:Srt keyK l) (s t:Nat) (hst:s<=t) (ht:t<l.length):(l.getD s pk0).c<=(l.getD t pk0).c:=by
 rcases Nat.lt_or_eq_of_le hst with h1 | rfl
 ·have:=List.pairwise_iff_getElem.1 h s t (by omega) ht h1
  rw [List.getD_eq_getElem?_getD,List.getD_eq_getElem?_getD,List.getElem?_eq_getElem ht,List.getElem?_eq_getElem (by omega)]
  exact this
 ·exact Int.le_refl _
theorem mem_at {l:List PK} {x:PK} (h:x ∈ l):∃t,t<l.length/\l.getD t pk0=x:=by
 obtain⟨t,ht,e⟩:=List.getElem_of_mem h
 exact⟨t,ht,by rw [List.getD_eq_getElem?_getD,List.getElem?_eq_getElem ht,e]; rfl⟩
theorem getD_take {l:List PK} {i t:Nat} (h:t<i):(l.take i).getD t pk0=l.getD t pk0:=by
 rw [List.getD_eq_getElem?_getD,List.getD_eq_getElem?_getD,List.getElem?_take_of_lt h]
theorem getD_drop {l:List PK} {i t:Nat} : (l.drop i).getD t pk0=l.getD (i+t) pk0:=by
 rw [List.getD_eq_getElem?_getD,List.getD_eq_getElem?_getD,List.getElem?_drop]
theorem all_take {l:List PK} {i:Nat} {p:PK->Prop} (h:∀t,t<i->t<l.length->p (l.getD t pk0)):∀z ∈ l.take i,p z:=fun z hz=>by
 obtain⟨t,ht,rfl⟩:=mem_at hz
 rw [List.length_take] at ht
 rw [getD_take (by omega)]
 exact h t (by omega) (by omega)
theorem all_drop {l:List PK} {i:Nat} {p:PK->Prop} (h:∀t,i<=t->t<l.length->p (l.getD t pk0)):∀z ∈ l.drop i,p z:=fun z hz=>by
 obtain⟨t,ht,rfl⟩:=mem_at hz
 rw [List.length_drop] at ht
 rw [getD_drop]
 exact h _ (by omega) (by omega)
theorem mrg_one {x:PK} {v1 v2:List PK} (hv:Srt keyK (v1++v2)) (h1:∀z ∈ v1,z.c<x.c) (h2:∀z ∈ v2,x.c<=z.c):mrg keyK [x] (v1++v2)=v1++x::v2:=by
 have h:=mrg_split (key:=keyK) (u1:=[]) (u2:=[x]) hv (fun _ h=>by cases h) (fun a ha y hy=>by rw [List.mem_singleton.1 ha]; exact h1 y hy)
 rw [List.nil_append] at h
 rw [h,mrg_nil (List.pairwise_append.1 hv).1]
 have h3:=mrg_back (key:=keyK) (s:=[x]) (u:=[]) (v:=v2) (fun a ha y hy=>by rw [List.mem_singleton.1 ha]; exact h2 y hy)
 rw [List.append_nil] at h3
 rw [h3,mrg_nil (List.pairwise_append.1 hv).2.1]; rfl
theorem mrg_last {y:PK} {u1 u2:List PK} (h1:∀z ∈ u1,z.c<=y.c) (h2:∀z ∈ u2,y.c<z.c):mrg keyK (u1++u2) [y]=u1++y::u2:=put_at h1 h2
end SS
theorem cmpI_lt (x y:Int):decide (cmpI x y<0)=decide (x<y):=by
 unfold cmpI
 by_cases h:x<y
 ·rw [if_pos h,decide_eq_true h]; rfl
 ·rw [if_neg h,decide_eq_false h]
  split <;> rfl
set_option maxRecDepth 100000 in
set_option maxHeartbeats 4000000 in
theorem sym1_ok (ad:Addr) (n c:Nat) (X V Y:List PK) (px:PK) (a m b:Nat) {w0 w:World} {L:List Pr} (H:Sp w0 (RowK (.slice (some ad) n c) (X++[px]++V++Y)::L) w) (hn:n=X.length+1+V.length+Y.length) (hl:n<=1000000) (ha:X.length=a) (hm:a+1=m) (hb:m+V.length=b) (hv:SS.Srt keyK V) :
  Calls Tryd.prog 159 #[.slice (some ad) n c,.int .i64 (a:Int),.int .i64 (m:Int),.int .i64 (b:Int),cmpF] w fun e w'=>e=.returned (.tuple #[]) /\
   Sp w0 (RowK (.slice (some ad) n c) (X++SS.mrg keyK [px] V++Y)::L) w':=by
 obtain⟨T,hT⟩:∃T,X++SS.mrg keyK [px] V++Y=T:=⟨_,rfl⟩
 rw [hT]
 have hsrt:=SS.srt_at hv
 have y1:(m:Int) - (a:Int)=1:=by omega
 obtain⟨D,hD⟩:∃D,X++[px]++V++Y=D:=⟨_,rfl⟩
 rw [hD] at H
 have hDl:D.length=n:=by rw [<- hD]; simp only [List.length_append,List.length_singleton]; omega
 have hpx:D.getD a pk0=px:=by
  rw [<- hD,show X++[px]++V++Y=X++px::(V++Y) by simp]
  exact SS.getD_app pk0 _ _ _ ha
 have HEpx:=Lib.hid hpx
 have hba:a<D.length:=by omega
 have Ba:=Lib.hid hba
 have hDV:∀t,t<V.length->D.getD (m+t) pk0=V.getD t pk0:=fun t ht=>by
  rw [<- hD,List.append_assoc (X++[px]),List.getD_eq_getElem?_getD,List.getElem?_append_right (by rw [List.length_append,ha,List.length_singleton]; omega),List.getElem?_append_left (by rw [List.length_append,ha,List.length_singleton]; omega),List.getD_eq_getElem?_getD,List.length_append,ha,List.length_singleton,show m+t - (a+1)=t by omega]
 have HDV:=Lib.hid hDV
 have HSRT:=Lib.hid hsrt
 have HV:=Lib.hid hv
 have HT:=Lib.hid hT
 have HD:=Lib.hid hD
 have HX:=Lib.hid ha
 have HB:=Lib.hid hb
 have HM:=Lib.hid hm
 have HDL:=Lib.hid hDl
 have ka:(a:Int)<(n:Int):=by omega
 have hbn:b<=n:=by omega
 have hmb:m<=b:=by omega
 have ham:a<m:=by omega
 clear hsrt hDV hv hT hD hpx hba ha hb hm hDl hn
 go_enter Tryd.func159,Tryd.ntmps159
 go_wp2_with fail
 go_loopw [10,11] (fun iv jv wr=>∃i j:Nat,iv=.int .i64 (i:Int)/\jv=.int .i64 (j:Int)/\m<=i/\i<=j/\j<=b/\Hid (∀t,t+m<i->(V.getD t pk0).c<px.c)/\Hid (∀t,j<=t+m->t<V.length->px.c<=(V.getD t pk0).c)/\Sp w0 (RowK (.slice (some ad) n c) D::L) wr) (fun iv jv _=>(intOf jv).toNat - (intOf iv).toNat)
 case atStart=>exact⟨m,b,rfl,rfl,Nat.le_refl _,hmb,Nat.le_refl _,Lib.hid (fun t ht=>by omega),Lib.hid (fun t h1 h2=>by have:=HB.out; omega),H⟩
 case round =>
  clear H
  obtain⟨i,j,rfl,rfl,hmi,hij,hjb,H1,H2,H⟩:=hrel
  by_cases hlt:i<j
  ·have k1:(i:Int)<(j:Int):=by omega
   obtain⟨h,hh⟩:∃h,(i+j) / 2=h:=⟨_,rfl⟩
   have hih:i<=h:=by omega
   have hhj:h<j:=by omega
   have y2:((i:Int)+(j:Int)) / 2=(h:Int):=by omega
   clear hh
   obtain⟨t,ht⟩:∃t,h=m+t:=⟨h - m,by omega⟩
   have htl:t<V.length:=by have:=HB.out; omega
   obtain⟨ph,hph⟩:∃ph,V.getD t pk0=ph:=⟨_,rfl⟩
   have hph2:D.getD h pk0=ph:=by rw [ht,HDV.out t htl,hph]
   have HEph:=Lib.hid hph2
   have HPH:=Lib.hid hph
   have HTT:Hid (h=m+t/\t<V.length):=Lib.hid ⟨ht,htl⟩
   have kh:(h:Int)<(n:Int):=by omega
   have hbh:h<D.length:=by have:=HDL.out; omega
   have Bh:=Lib.hid hbh
   obtain⟨r,hr⟩:∃r,decide (cmpI ph.c px.c<0)=r:=⟨_,rfl⟩
   clear ht htl hph hph2 hbh
   go_wp2_with fail
   refine wp_region_sp (L:=RowK (.slice (some ad) n c) D::L) (fun ix vx=>([(·=cmpF),(·=.slice (some ad) n c),(·=.int .i64 (h:Int)),(·=.pointer (some (ad.add (h * 3)))),(·=ph.val),(·=.slice (some ad) n c),(·=.int .i64 (a:Int)),(·=.pointer (some (ad.add (a * 3)))),(·=px.val),(·=.int .i64 (cmpI ph.c px.c)),(·=.bool r)]:List (Value->Prop)).getD ix (fun _=>True) vx)
    (fun ix vx=>([fun _=>[],fun _=>[],fun _=>[],fun _=>[],fun _=>[],fun _=>[],fun _=>[],fun _=>[],fun _=>[],fun _=>[],fun _=>[]]:List (Value->List Pr)).getD ix (fun _=>[]) vx) (fun ix=>([[],[],[],[],[],[],[],[],[],[],[]]:List (List Pr)).getD ix []) 11 220
    [some 40,some 41,some 42,some 43,some 44,some 45,some 46,some 47,some 48,some 49,some 50]
    [[],[],[],[1,2],[3],[],[],[5,6],[7],[0,4,8],[9]]
    [[],[],[],[1,2],[1,2,3],[],[],[5,6],[5,6,7],[0,1,2,3,4,5,6,7,8],[0,1,2,3,4,5,6,7,8,9]]
    [[],[],[],[],[],[],[],[],[],[],[]]
    [[],[],[],[],[],[],[],[],[],[],[]]
    [(0,.slice (some ad) n c),(1,.int .i64 (a:Int)),(4,cmpF),(12,.int .i64 (h:Int))]
    (by kernel_rfl) rfl (by decide) (by rfl) rfl (by decide +kernel) (by decide +kernel) (by rfl) rfl rfl (by decide) (by simp) (by rfl) (H) ?hstep ?hend
   case hstep =>
    refine⟨?_,⟨?_,⟨?_,⟨?_,⟨?_,⟨?_,⟨?_,⟨?_,⟨?_,⟨?_,⟨?_,trivial⟩⟩⟩⟩⟩⟩⟩⟩⟩⟩⟩
    ·intro x wx A rest hN hS hE H K hK0
     have e4:A.tmps[4]?.getD undef=cmpF:=hN (4,cmpF) (by simp)
     replace H:Sp w0 (rest) wx:=H
     have hK:Hid (∀(v:Value) (w' : World),v=cmpF->Sp w0 (rest) w'->K (A.put (some 40) v) w'):=Lib.hid hK0
     clear hK0 hN hS hE
     change Oper.wp _ _ A wx K _
     go_step
     exact hK.out _ _ rfl (H)
    ·intro x wx A rest hN hS hE H K hK0
     have e0:A.tmps[0]?.getD undef=.slice (some ad) n c:=hN (0,.slice (some ad) n c) (by simp)
     replace H:Sp w0 (rest) wx:=H
     have hK:Hid (∀(v:Value) (w' : World),v=.slice (some ad) n c->Sp w0 (rest) w'->K (A.put (some 41) v) w'):=Lib.hid hK0
     clear hK0 hN hS hE
     change Oper.wp _ _ A wx K _
     go_step
     exact hK.out _ _ rfl (H)
    ·intro x wx A rest hN hS hE H K hK0
     have e12:A.tmps[12]?.getD undef=.int .i64 (h:Int):=hN (12,.int .i64 (h:Int)) (by simp)
     replace H:Sp w0 (rest) wx:=H
     have hK:Hid (∀(v:Value) (w' : World),v=.int .i64 (h:Int)->Sp w0 (rest) w'->K (A.put (some 42) v) w'):=Lib.hid hK0
     clear hK0 hN hS hE
     change Oper.wp _ _ A wx K _
     go_step
     exact hK.out _ _ rfl (H)
    ·intro x wx A rest hN hS hE H K hK0
     have e41:A.tmps[41]?.getD undef=.slice (some ad) n c:=((hS 1 (by decide)).2 41 rfl).trans (hS 1 (by decide)).1
     have e42:A.tmps[42]?.getD undef=.int .i64 (h:Int):=((hS 2 (by decide)).2 42 rfl).trans (hS 2 (by decide)).1
     replace H:Sp w0 (rest) wx:=H
     have hK:Hid (∀(v:Value) (w' : World),v=.pointer (some (ad.add (h * 3)))->Sp w0 (rest) w'->K (A.put (some 43) v) w'):=Lib.hid hK0
     clear hK0 hN hS hE
     change Oper.wp _ _ A wx K _
     go_step
     exact hK.out _ _ rfl (H)
    ·intro x wx A rest hN hS hE H K hK0
     have e43:A.tmps[43]?.getD undef=.pointer (some (ad.add (h * 3))):=((hS 3 (by decide)).2 43 rfl).trans (hS 3 (by decide)).1
     replace H:Sp w0 (rest) wx:=H
     have hK:Hid (∀(v:Value) (w' : World),v=ph.val->Sp w0 (rest) w'->K (A.put (some 44) v) w'):=Lib.hid hK0
     clear hK0 hN hS
     change Oper.wp _ _ A wx K _
     exact wp_load_agg 141 _ rfl _ ph.cells (ev e43) (by rw [<- HEph.out]; exact hE (fun w=>∀jj vv,(D.getD h pk0).cells[jj]?=some vv->w.cell? ((ad.add (h * 3)).add jj)=some vv) (fun _ _ H=>RowK.rd H 0 rfl h Bh.out) _ _ H) Tryd.isAgg141 Tryd.sizeOf141 (hK.out _ _ rfl H)
    ·intro x wx A rest hN hS hE H K hK0
     have e0:A.tmps[0]?.getD undef=.slice (some ad) n c:=hN (0,.slice (some ad) n c) (by simp)
     replace H:Sp w0 (rest) wx:=H
     have hK:Hid (∀(v:Value) (w' : World),v=.slice (some ad) n c->Sp w0 (rest) w'->K (A.put (some 45) v) w'):=Lib.hid hK0
     clear hK0 hN hS hE
     change Oper.wp _ _ A wx K _
     go_step
     exact hK.out _ _ rfl (H)
    ·intro x wx A rest hN hS hE H K hK0
     have e1:A.tmps[1]?.getD undef=.int .i64 (a:Int):=hN (1,.int .i64 (a:Int)) (by simp)
     replace H:Sp w0 (rest) wx:=H
     have hK:Hid (∀(v:Value) (w' : World),v=.int .i64 (a:Int)->Sp w0 (rest) w'->K (A.put (some 46) v) w'):=Lib.hid hK0
     clear hK0 hN hS hE
     change Oper.wp _ _ A wx K _
     go_step
     exact hK.out _ _ rfl (H)
    ·intro x wx A rest hN hS hE H K hK0
     have e45:A.tmps[45]?.getD undef=.slice (some ad) n c:=((hS 5 (by decide)).2 45 rfl).trans (hS 5 (by decide)).1
     have e46:A.tmps[46]?.getD undef=.int .i64 (a:Int):=((hS 6 (by decide)).2 46 rfl).trans (hS 6 (by decide)).1
     replace H:Sp w0 (rest) wx:=H
     have hK:Hid (∀(v:Value) (w' : World),v=.pointer (some (ad.add (a * 3)))->Sp w0 (rest) w'->K (A.put (some 47) v) w'):=Lib.hid hK0
     clear hK0 hN hS hE
     change Oper.wp _ _ A wx K _
     go_step
     exact hK.out _ _ rfl (H)
    ·intro x wx A rest hN hS hE H K hK0
     have e47:A.tmps[47]?.getD undef=.pointer (some (ad.add (a * 3))):=((hS 7 (by decide)).2 47 rfl).trans (hS 7 (by decide)).1
     replace H:Sp w0 (rest) wx:=H
     have hK:Hid (∀(v:Value) (w' : World),v=px.val->Sp w0 (rest) w'->K (A.put (some 48) v) w'):=Lib.hid hK0
     clear hK0 hN hS
     change Oper.wp _ _ A wx K _
     exact wp_load_agg 141 _ rfl _ px.cells (ev e47) (by rw [<- HEpx.out]; exact hE (fun w=>∀jj vv,(D.getD a pk0).cells[jj]?=some vv->w.cell? ((ad.add (a * 3)).add jj)=some vv) (fun _ _ H=>RowK.rd H 0 rfl a Ba.out) _ _ H) Tryd.isAgg141 Tryd.sizeOf141 (hK.out _ _ rfl H)
    ·intro x wx A rest hN hS hE H K hK0
     have e40:A.tmps[40]?.getD undef=cmpF:=((hS 0 (by decide)).2 40 rfl).trans (hS 0 (by decide)).1
     have e44:A.tmps[44]?.getD undef=ph.val:=((hS 4 (by decide)).2 44 rfl).trans (hS 4 (by decide)).1
     have e48:A.tmps[48]?.getD undef=px.val:=((hS 8 (by decide)).2 48 rfl).trans (hS 8 (by decide)).1
     replace H:Sp w0 (rest) wx:=H
     have hK:Hid (∀(v:Value) (w' : World),v=.int .i64 (cmpI ph.c px.c)->Sp w0 (rest) w'->K (A.put (some 49) v) w'):=Lib.hid hK0
     clear hK0 hN hS hE
     change Oper.wp _ _ A wx K _
     unfold cmpF at *
     go_wp2_with fail
     refine(cmpK_ok ph px H).mono ?_
     rintro _ w9 ⟨rfl,H9⟩
     exact hK.out _ _ rfl H9
    ·intro x wx A rest hN hS hE H K hK0
     have e49:A.tmps[49]?.getD undef=.int .i64 (cmpI ph.c px.c):=((hS 9 (by decide)).2 49 rfl).trans (hS 9 (by decide)).1
     replace H:Sp w0 (rest) wx:=H
     have hK:Hid (∀(v:Value) (w' : World),v=.bool r->Sp w0 (rest) w'->K (A.put (some 50) v) w'):=Lib.hid hK0
     clear hK0 hN hS hE
     change Oper.wp _ _ A wx K _
     go_step
     exact hK.out _ _ rfl (H)
   case hend =>
    intro x wx A hA hS H
    replace H:Sp w0 (RowK (.slice (some ad) n c) D::L) wx:=H
    have y10:x 10=.bool r:=hS 10 (by decide)
    clear hS
    simp only [putAll,Act.put,List.setIfInBounds_toArray,List.set_cons_succ,List.set_cons_zero,Nat.reduceAdd] at hA
    subst hA
    rw [y10]
    clear y10
    rw [cmpI_lt] at hr
    cases r
    ·have hle:px.c<=ph.c:=by have:=of_decide_eq_false hr; omega
     clear hr
     go_wp2_with fail
     go_roundw
     case rel =>
      refine⟨i,h,rfl,rfl,hmi,hih,by omega,H1,Lib.hid (fun s h1 h2=>?_),H⟩
      have:=HSRT.out t s (by have:=HTT.out; omega) h2
      rw [HPH.out] at this
      exact Int.le_trans hle this
     case measure=>first | (simp [intOf]; omega) | simp [intOf]
    ·have hlt2:ph.c<px.c:=of_decide_eq_true hr
     clear hr
     go_wp2_with fail
     go_roundw
     case rel =>
      refine⟨h+1,j,by go_num,rfl,by omega,by omega,hjb,Lib.hid (fun s h1=>?_),H2,H⟩
      have:=HSRT.out s t (by have:=HTT.out; omega) HTT.out.2
      rw [HPH.out] at this
      exact Int.lt_of_le_of_lt this hlt2
     case measure=>first | (simp [intOf]; omega) | simp [intOf]
  ·have k1:¬ (i:Int)<(j:Int):=by omega
   obtain rfl:i=j:=by omega
   obtain⟨t,ht⟩:∃t,i=m+t:=⟨i - m,by omega⟩
   obtain⟨V1,hV1⟩:∃V1,V.take t=V1:=⟨_,rfl⟩
   obtain⟨V2,hV2⟩:∃V2,V.drop t=V2:=⟨_,rfl⟩
   have hsp:V1++V2=V:=by rw [<- hV1,<- hV2,List.take_append_drop]
   have hl1:V1.length=t:=by rw [<- hV1,List.length_take]; have:=HB.out; omega
   have hres:SS.mrg keyK [px] V=V1++px::V2:=by
    rw [<- hsp]
    refine SS.mrg_one (by rw [hsp]; exact HV.out) ?_ ?_
    ·rw [<- hV1]
     exact SS.all_take fun s h1 h2=>H1.out s (by omega)
    ·rw [<- hV2]
     exact SS.all_drop fun s h1 h2=>H2.out s (by omega) h2
   have HR:Hid (X++V1++px::V2++Y=T):=Lib.hid (by rw [<- HT.out,hres]; simp)
   have HLL:Hid (V1.length=t/\i=m+t/\m=a+1):=Lib.hid ⟨hl1,ht,HM.out.symm⟩
   have hD2:D=X++[]++px::V1++(V2++Y):=by rw [<- HD.out,<- hsp]; simp
   rw [hD2] at H
   have y3:(i:Int) - 1=((a+t:Nat):Int):=by have:=HM.out; omega
   obtain⟨e,he⟩:∃e,a+t=e:=⟨_,rfl⟩
   rw [he] at y3
   have HEE:=Lib.hid he
   clear hV1 hV2 hsp hl1 hres hD2 ht he
   clear HEpx Ba HDL HD
   go_wp2_with fail
   go_loopw [13] (fun kv wr=>∃(k:Nat) (W1 W2:List PK),kv=.int .i64 (k:Int)/\Hid (k=a+W1.length/\W1++W2=V1)/\k<=e/\Sp w0 (RowK (.slice (some ad) n c) (X++W1++px::W2++(V2++Y))::L) wr) (fun kv _=>e - (intOf kv).toNat)
   case atStart=>exact⟨a,[],V1,rfl,Lib.hid ⟨rfl,rfl⟩,by have:=HEE.out; omega,H⟩
   case round =>
    clear H H1 H2
    obtain⟨k,W1,W2,rfl,HW,hke,H⟩:=hrel
    by_cases hk:k<e
    ·have k2:(k:Int)<(e:Int):=by omega
     obtain⟨py,W3,rfl⟩:∃p W3,W2=p::W3:=by
      cases W2 with
      | nil =>
       have h1:=congrArg List.length HW.out.2
       rw [List.append_nil,HLL.out.1] at h1
       have:=HW.out.1; have:=HEE.out; omega
      | cons p W3=>exact⟨p,W3,rfl⟩
     obtain⟨D,hD⟩:∃D,X++W1++px::py::W3++(V2++Y)=D:=⟨_,rfl⟩
     rw [hD] at H
     obtain⟨k1,hk1⟩:∃k1,k+1=k1:=⟨_,rfl⟩
     have hlk:(X++W1).length=k:=by rw [List.length_append,HX.out,<- HW.out.1]
     have hx:D.getD k pk0=px:=by
      rw [<- hD,show X++W1++px::py::W3++(V2++Y)=(X++W1)++px::(py::W3++(V2++Y)) by simp]
      exact SS.getD_app pk0 _ _ _ hlk
     have hy:D.getD k1 pk0=py:=by
      rw [<- hD,show X++W1++px::py::W3++(V2++Y)=(X++W1++[px])++py::(W3++(V2++Y)) by simp]
      exact SS.getD_app pk0 _ _ _ (by rw [List.length_append,hlk]; exact hk1)
     have hDl:k1<D.length:=by
      rw [<- hD]; simp only [List.length_append,List.length_cons] at hlk ⊢; omega
     have hkn:k1<n:=by have:=HLL.out; have:=HEE.out; omega
     have HEpx:=Lib.hid hx
     have HEpy:=Lib.hid hy
     have hbk:k<D.length:=by omega
     have Bk:=Lib.hid hbk
     have Bk1:=Lib.hid hDl
     have y4:(k:Int)+1=(k1:Int):=by omega
     have kk:(k:Int)<(n:Int):=by omega
     have kk1:(k1:Int)<(n:Int):=by omega
     have hres:(D.set k py).set k1 px=X++(W1++[py])++px::W3++(V2++Y):=by
      have h1:=SS.sw_app pk0 (X++W1) [] (W3++(V2++Y)) px py hlk (j:=k1) (by rw [hlk]; exact hk1)
      have e0:X++W1++px::[]++py::(W3++(V2++Y))=D:=by rw [<- hD]; simp
      rw [e0] at h1
      unfold SS.sw at h1
      rw [hx,hy] at h1
      rw [h1]; simp
     have HRS:=Lib.hid hres
     have HK1:=Lib.hid hk1
     clear hres hx hy hDl hbk hD hk1 hlk
     go_wp2_with fail
     refine wp_region_sp (L:=L) (fun ix vx=>([(·=.slice (some ad) n c),(·=.int .i64 (k:Int)),(·=.slice (some ad) n c),(·=.int .i64 (k:Int)),(·=.int .i64 (k1:Int)),(·=.slice (some ad) n c),(·=.int .i64 (k:Int)),(·=.int .i64 (k1:Int)),(·=.pointer (some (ad.add (k1 * 3)))),(·=py.val),(·=.slice (some ad) n c),(·=.int .i64 (k:Int)),(·=.pointer (some (ad.add (k * 3)))),(·=px.val),(·=.pointer (some (ad.add (k * 3)))),(fun _=>True),(·=.pointer (some (ad.add (k1 * 3)))),(fun _=>True)]:List (Value->Prop)).getD ix (fun _=>True) vx)
      (fun ix vx=>([fun _=>[],fun _=>[],fun _=>[],fun _=>[],fun _=>[],fun _=>[],fun _=>[],fun _=>[],fun _=>[],fun _=>[],fun _=>[],fun _=>[],fun _=>[],fun _=>[],fun _=>[],fun _=>[RowK (.slice (some ad) n c) (D.set k py)],fun _=>[],fun _=>[RowK (.slice (some ad) n c) ((D.set k py).set k1 px)]]:List (Value->List Pr)).getD ix (fun _=>[]) vx) (fun ix=>([[],[],[],[],[],[],[],[],[],[],[],[],[],[],[],[RowK (.slice (some ad) n c) D],[],[]]:List (List Pr)).getD ix []) 18 220
      [some 61,some 62,some 63,some 64,some 65,some 66,some 67,some 68,some 69,some 70,some 71,some 72,some 73,some 74,some 75,none,some 76,none]
      [[],[],[],[],[3],[],[],[6],[5,7],[8],[],[],[10,11],[12],[0,1,0,1,5,6,7,8,9,13],[14,9,0,1,5,6,7,8,9,13],[2,4,0,1,2,3,4,5,6,7,8,9,10,11,12,13,14,15],[16,13,15,0,1,2,3,4,5,6,7,8,9,10,11,12,13,14,15]]
      [[],[],[],[],[3],[],[],[6],[5,6,7],[5,6,7,8],[],[],[10,11],[10,11,12],[0,1,5,6,7,8,9,10,11,12,13],[0,1,5,6,7,8,9,10,11,12,13,14],[0,1,2,3,4,5,6,7,8,9,10,11,12,13,14,15],[0,1,2,3,4,5,6,7,8,9,10,11,12,13,14,15,16]]
      [[],[],[],[],[],[],[],[],[],[],[],[],[],[],[],[],[],[15]]
      [[],[],[],[],[],[],[],[],[],[15],[],[],[],[15],[],[],[],[]]
      [(0,.slice (some ad) n c),(13,.int .i64 (k:Int))]
      (by kernel_rfl) rfl (by decide) (by rfl) rfl (by decide +kernel) (by decide +kernel) (by rfl) rfl rfl (by decide) (by simp) (by rfl) (H) ?hstep ?hend
     case hstep =>
      refine⟨?_,⟨?_,⟨?_,⟨?_,⟨?_,⟨?_,⟨?_,⟨?_,⟨?_,⟨?_,⟨?_,⟨?_,⟨?_,⟨?_,⟨?_,⟨?_,⟨?_,⟨?_,trivial⟩⟩⟩⟩⟩⟩⟩⟩⟩⟩⟩⟩⟩⟩⟩⟩⟩⟩
      ·intro x wx A rest hN hS hE H K hK0
       have e0:A.tmps[0]?.getD undef=.slice (some ad) n c:=hN (0,.slice (some ad) n c) (by simp)
       replace H:Sp w0 (rest) wx:=H
       have hK:Hid (∀(v:Value) (w' : World),v=.slice (some ad) n c->Sp w0 (rest) w'->K (A.put (some 61) v) w'):=Lib.hid hK0
       clear hK0 hN hS hE
       change Oper.wp _ _ A wx K _
       go_step
       exact hK.out _ _ rfl (H)
      ·intro x wx A rest hN hS hE H K hK0
       have e13:A.tmps[13]?.getD undef=.int .i64 (k:Int):=hN (13,.int .i64 (k:Int)) (by simp)
       replace H:Sp w0 (rest) wx:=H
       have hK:Hid (∀(v:Value) (w' : World),v=.int .i64 (k:Int)->Sp w0 (rest) w'->K (A.put (some 62) v) w'):=Lib.hid hK0
       clear hK0 hN hS hE
       change Oper.wp _ _ A wx K _
       go_step
       exact hK.out _ _ rfl (H)
      ·intro x wx A rest hN hS hE H K hK0
       have e0:A.tmps[0]?.getD undef=.slice (some ad) n c:=hN (0,.slice (some ad) n c) (by simp)
       replace H:Sp w0 (rest) wx:=H
       have hK:Hid (∀(v:Value) (w' : World),v=.slice (some ad) n c->Sp w0 (rest) w'->K (A.put (some 63) v) w'):=Lib.hid hK0
       clear hK0 hN hS hE
       change Oper.wp _ _ A wx K _
       go_step
       exact hK.out _ _ rfl (H)
      ·intro x wx A rest hN hS hE H K hK0
       have e13:A.tmps[13]?.getD undef=.int .i64 (k:Int):=hN (13,.int .i64 (k:Int)) (by simp)
       replace H:Sp w0 (rest) wx:=H
       have hK:Hid (∀(v:Value) (w' : World),v=.int .i64 (k:Int)->Sp w0 (rest) w'->K (A.put (some 64) v) w'):=Lib.hid hK0
       clear hK0 hN hS hE
       change Oper.wp _ _ A wx K _
       go_step
       exact hK.out _ _ rfl (H)
      ·intro x wx A rest hN hS hE H K hK0
       have e64:A.tmps[64]?.getD undef=.int .i64 (k:Int):=((hS 3 (by decide)).2 64 rfl).trans (hS 3 (by decide)).1
       replace H:Sp w0 (rest) wx:=H
       have hK:Hid (∀(v:Value) (w' : World),v=.int .i64 (k1:Int)->Sp w0 (rest) w'->K (A.put (some 65) v) w'):=Lib.hid hK0
       clear hK0 hN hS hE
       change Oper.wp _ _ A wx K _
       go_step
       exact hK.out _ _ rfl (H)
      ·intro x wx A rest hN hS hE H K hK0
       have e0:A.tmps[0]?.getD undef=.slice (some ad) n c:=hN (0,.slice (some ad) n c) (by simp)
       replace H:Sp w0 (rest) wx:=H
       have hK:Hid (∀(v:Value) (w' : World),v=.slice (some ad) n c->Sp w0 (rest) w'->K (A.put (some 66) v) w'):=Lib.hid hK0
       clear hK0 hN hS hE
       change Oper.wp _ _ A wx K _
       go_step
       exact hK.out _ _ rfl (H)
      ·intro x wx A rest hN hS hE H K hK0
       have e13:A.tmps[13]?.getD undef=.int .i64 (k:Int):=hN (13,.int .i64 (k:Int)) (by simp)
       replace H:Sp w0 (rest) wx:=H
       have hK:Hid (∀(v:Value) (w' : World),v=.int .i64 (k:Int)->Sp w0 (rest) w'->K (A.put (some 67) v) w'):=Lib.hid hK0
       clear hK0 hN hS hE
       change Oper.wp _ _ A wx K _
       go_step
       exact hK.out _ _ rfl (H)
      ·intro x wx A rest hN hS hE H K hK0
       have e67:A.tmps[67]?.getD undef=.int .i64 (k:Int):=((hS 6 (by decide)).2 67 rfl).trans (hS 6 (by decide)).1
       replace H:Sp w0 (rest) wx:=H
       have hK:Hid (∀(v:Value) (w' : World),v=.int .i64 (k1:Int)->Sp w0 (rest) w'->K (A.put (some 68) v) w'):=Lib.hid hK0
       clear hK0 hN hS hE
       change Oper.wp _ _ A wx K _
       go_step
       exact hK.out _ _ rfl (H)
      ·intro x wx A rest hN hS hE H K hK0
       have e66:A.tmps[66]?.getD undef=.slice (some ad) n c:=((hS 5 (by decide)).2 66 rfl).trans (hS 5 (by decide)).1
       have e68:A.tmps[68]?.getD undef=.int .i64 (k1:Int):=((hS 7 (by decide)).2 68 rfl).trans (hS 7 (by decide)).1
       replace H:Sp w0 (rest) wx:=H
       have hK:Hid (∀(v:Value) (w' : World),v=.pointer (some (ad.add (k1 * 3)))->Sp w0 (rest) w'->K (A.put (some 69) v) w'):=Lib.hid hK0
       clear hK0 hN hS hE
       change Oper.wp _ _ A wx K _
       go_step
       exact hK.out _ _ rfl (H)
      ·intro x wx A rest hN hS hE H K hK0
       have e69:A.tmps[69]?.getD undef=.pointer (some (ad.add (k1 * 3))):=((hS 8 (by decide)).2 69 rfl).trans (hS 8 (by decide)).1
       replace H:Sp w0 ((RowK (.slice (some ad) n c) D)::rest) wx:=H
       have hK:Hid (∀(v:Value) (w' : World),v=py.val->Sp w0 ((RowK (.slice (some ad) n c) D)::rest) w'->K (A.put (some 70) v) w'):=Lib.hid hK0
       clear hK0 hN hS hE
       change Oper.wp _ _ A wx K _
       exact wp_load_agg 141 _ rfl _ py.cells (ev e69) (by rw [<- HEpy.out]; exact RowK.rd H 0 rfl k1 Bk1.out) Tryd.isAgg141 Tryd.sizeOf141 (hK.out _ _ rfl H)
      ·intro x wx A rest hN hS hE H K hK0
       have e0:A.tmps[0]?.getD undef=.slice (some ad) n c:=hN (0,.slice (some ad) n c) (by simp)
       replace H:Sp w0 (rest) wx:=H
       have hK:Hid (∀(v:Value) (w' : World),v=.slice (some ad) n c->Sp w0 (rest) w'->K (A.put (some 71) v) w'):=Lib.hid hK0
       clear hK0 hN hS hE
       change Oper.wp _ _ A wx K _
       go_step
       exact hK.out _ _ rfl (H)
      ·intro x wx A rest hN hS hE H K hK0
       have e13:A.tmps[13]?.getD undef=.int .i64 (k:Int):=hN (13,.int .i64 (k:Int)) (by simp)
       replace H:Sp w0 (rest) wx:=H
       have hK:Hid (∀(v:Value) (w' : World),v=.int .i64 (k:Int)->Sp w0 (rest) w'->K (A.put (some 72) v) w'):=Lib.hid hK0
       clear hK0 hN hS hE
       change Oper.wp _ _ A wx K _
       go_step
       exact hK.out _ _ rfl (H)
      ·intro x wx A rest hN hS hE H K hK0
       have e71:A.tmps[71]?.getD undef=.slice (some ad) n c:=((hS 10 (by decide)).2 71 rfl).trans (hS 10 (by decide)).1
       have e72:A.tmps[72]?.getD undef=.int .i64 (k:Int):=((hS 11 (by decide)).2 72 rfl).trans (hS 11 (by decide)).1
       replace H:Sp w0 (rest) wx:=H
       have hK:Hid (∀(v:Value) (w' : World),v=.pointer (some (ad.add (k * 3)))->Sp w0 (rest) w'->K (A.put (some 73) v) w'):=Lib.hid hK0
       clear hK0 hN hS hE
       change Oper.wp _ _ A wx K _
       go_step
       exact hK.out _ _ rfl (H)
      ·intro x wx A rest hN hS hE H K hK0
       have e73:A.tmps[73]?.getD undef=.pointer (some (ad.add (k * 3))):=((hS 12 (by decide)).2 73 rfl).trans (hS 12 (by decide)).1
       replace H:Sp w0 ((RowK (.slice (some ad) n c) D)::rest) wx:=H
       have hK:Hid (∀(v:Value) (w' : World),v=px.val->Sp w0 ((RowK (.slice (some ad) n c) D)::rest) w'->K (A.put (some 74) v) w'):=Lib.hid hK0
       clear hK0 hN hS hE
       change Oper.wp _ _ A wx K _
       exact wp_load_agg 141 _ rfl _ px.cells (ev e73) (by rw [<- HEpx.out]; exact RowK.rd H 0 rfl k Bk.out) Tryd.isAgg141 Tryd.sizeOf141 (hK.out _ _ rfl H)
      ·intro x wx A rest hN hS hE H K hK0
       have e61:A.tmps[61]?.getD undef=.slice (some ad) n c:=((hS 0 (by decide)).2 61 rfl).trans (hS 0 (by decide)).1
       have e62:A.tmps[62]?.getD undef=.int .i64 (k:Int):=((hS 1 (by decide)).2 62 rfl).trans (hS 1 (by decide)).1
       replace H:Sp w0 (rest) wx:=H
       have hK:Hid (∀(v:Value) (w' : World),v=.pointer (some (ad.add (k * 3)))->Sp w0 (rest) w'->K (A.put (some 75) v) w'):=Lib.hid hK0
       clear hK0 hN hS hE
       change Oper.wp _ _ A wx K _
       go_step
       exact hK.out _ _ rfl (H)
      ·intro x wx A rest hN hS hE H K hK0
       have e75:A.tmps[75]?.getD undef=.pointer (some (ad.add (k * 3))):=((hS 14 (by decide)).2 75 rfl).trans (hS 14 (by decide)).1
       have e70:A.tmps[70]?.getD undef=py.val:=((hS 9 (by decide)).2 70 rfl).trans (hS 9 (by decide)).1
       replace H:Sp w0 ((RowK (.slice (some ad) n c) D)::rest) wx:=H
       have hK:Hid (∀(v:Value) (w' : World),True->Sp w0 ((RowK (.slice (some ad) n c) (D.set k py))::rest) w'->K (A.put none v) w'):=Lib.hid hK0
       clear hK0 hN hS hE
       obtain⟨w9,hst,H9⟩:=RowK.store (i:=k) py H Bk.out
       change Oper.wp _ _ A wx K _
       exact wp_store_agg 141 _ _ rfl _ py.cells (ev e75) (ev e70) hst Tryd.sizeOf141 (hK.out undef _ trivial H9)
      ·intro x wx A rest hN hS hE H K hK0
       have e63:A.tmps[63]?.getD undef=.slice (some ad) n c:=((hS 2 (by decide)).2 63 rfl).trans (hS 2 (by decide)).1
       have e65:A.tmps[65]?.getD undef=.int .i64 (k1:Int):=((hS 4 (by decide)).2 65 rfl).trans (hS 4 (by decide)).1
       replace H:Sp w0 (rest) wx:=H
       have hK:Hid (∀(v:Value) (w' : World),v=.pointer (some (ad.add (k1 * 3)))->Sp w0 (rest) w'->K (A.put (some 76) v) w'):=Lib.hid hK0
       clear hK0 hN hS hE
       change Oper.wp _ _ A wx K _
       go_step
       exact hK.out _ _ rfl (H)
      ·intro x wx A rest hN hS hE H K hK0
       have e76:A.tmps[76]?.getD undef=.pointer (some (ad.add (k1 * 3))):=((hS 16 (by decide)).2 76 rfl).trans (hS 16 (by decide)).1
       have e74:A.tmps[74]?.getD undef=px.val:=((hS 13 (by decide)).2 74 rfl).trans (hS 13 (by decide)).1
       replace H:Sp w0 ((RowK (.slice (some ad) n c) (D.set k py))::rest) wx:=H
       have hK:Hid (∀(v:Value) (w' : World),True->Sp w0 ((RowK (.slice (some ad) n c) ((D.set k py).set k1 px))::rest) w'->K (A.put none v) w'):=Lib.hid hK0
       clear hK0 hN hS hE
       obtain⟨w9,hst,H9⟩:=RowK.store (i:=k1) px H (by rw [List.length_set]; exact Bk1.out)
       change Oper.wp _ _ A wx K _
       exact wp_store_agg 141 _ _ rfl _ px.cells (ev e76) (ev e74) hst Tryd.sizeOf141 (hK.out undef _ trivial H9)
     case hend =>
      intro x wx A hA hS H
      replace H:Sp w0 ((RowK (.slice (some ad) n c) ((D.set k py).set k1 px))::L) wx:=H
      clear hS
      simp only [putAll,Act.put,List.setIfInBounds_toArray,List.set_cons_succ,List.set_cons_zero,Nat.reduceAdd] at hA
      subst hA
      go_wp2_with fail
      go_roundw
      case rel =>
       refine⟨k+1,W1++[py],W3,by go_num,Lib.hid ⟨by rw [List.length_append,HW.out.1]; rfl,by rw [<- HW.out.2]; simp⟩,by omega,?_⟩
       rw [<- HRS.out]
       exact H
      case measure=>first | (simp [intOf]; omega) | simp [intOf]
    ·have k2:¬ (k:Int)<(e:Int):=by omega
     go_wp2_with fail
     refine bodyPost_ret (results_none rfl _ _ _) rfl ?_
     refine⟨rfl,?_⟩
     have h1:=congrArg List.length HW.out.2
     rw [List.length_append,HLL.out.1] at h1
     have h0:W2=[]:=List.eq_nil_of_length_eq_zero (by have:=HW.out.1; have:=HEE.out; omega)
     subst h0
     have h2:W1=V1:=by have:=HW.out.2; rwa [List.append_nil] at this
     subst h2
     rw [show X++W1++[px]++(V2++Y)=X++W1++px::V2++Y by simp,HR.out] at H
     exact H
set_option maxRecDepth 100000 in
set_option maxHeartbeats 4000000 in
theorem sym2_ok (ad:Addr) (n c:Nat) (X U Y:List PK) (py:PK) (a m b:Nat) {w0 w:World} {L:List Pr} (H:Sp w0 (RowK (.slice (some ad) n c) (X++U++[py]++Y)::L) w) (hn:n=X.length+U.length+1+Y.length) (hl:n<=1000000) (ha:X.length=a) (hm:a+U.length=m) (hb:m+1=b) (hu2:2<=U.length) (hv:SS.Srt keyK U) :
  Calls Tryd.prog 159 #[.slice (some ad) n c,.int .i64 (a:Int),.int .i64 (m:Int),.int .i64 (b:Int),cmpF] w fun e w'=>e=.returned (.tuple #[]) /\
   Sp w0 (RowK (.slice (some ad) n c) (X++SS.mrg keyK U [py]++Y)::L) w':=by
 obtain⟨T,hT⟩:∃T,X++SS.mrg keyK U [py]++Y=T:=⟨_,rfl⟩
 rw [hT]
 have hsrt:=SS.srt_at hv
 obtain⟨d,hd⟩:∃d,m - a=d:=⟨_,rfl⟩
 have y0:(m:Int) - (a:Int)=(d:Int):=by omega
 have kd:((d:Int) == 1)=false:=by rw [beq_eq_false_iff_ne]; omega
 have y1:(b:Int) - (m:Int)=1:=by omega
 obtain⟨D,hD⟩:∃D,X++U++[py]++Y=D:=⟨_,rfl⟩
 rw [hD] at H
 have hDl:D.length=n:=by rw [<- hD]; simp only [List.length_append,List.length_singleton]; omega
 have hpy:D.getD m pk0=py:=by
  rw [<- hD,show X++U++[py]++Y=(X++U)++py::Y by simp]
  exact SS.getD_app pk0 _ _ _ (by rw [List.length_append,ha]; exact hm)
 have HEpy:=Lib.hid hpy
 have hbm:m<D.length:=by omega
 have Bm:=Lib.hid hbm
 have hDU:∀t,t<U.length->D.getD (a+t) pk0=U.getD t pk0:=fun t ht=>by
  rw [<- hD,show X++U++[py]++Y=X++(U++([py]++Y)) by simp,List.getD_eq_getElem?_getD,List.getElem?_append_right (by omega),List.getElem?_append_left (by omega),List.getD_eq_getElem?_getD,ha,show a+t - a=t by omega]
 have HDU:=Lib.hid hDU
 have HSRT:=Lib.hid hsrt
 have HT:=Lib.hid hT
 have HD:=Lib.hid hD
 have HX:=Lib.hid ha
 have HM:=Lib.hid hm
 have HDL:=Lib.hid hDl
 have km:(m:Int)<(n:Int):=by omega
 have hmn:m<n:=by omega
 have ham:a<=m:=by omega
 clear hsrt hDU hT hD hpy hbm ha hb hm hDl hn hd hv
 go_enter Tryd.func159,Tryd.ntmps159
 go_wp2_with fail
 go_loopw [14,15] (fun iv jv wr=>∃i j:Nat,iv=.int .i64 (i:Int)/\jv=.int .i64 (j:Int)/\a<=i/\i<=j/\j<=m/\Hid (∀t,t+a<i->(U.getD t pk0).c<=py.c)/\Hid (∀t,j<=t+a->t<U.length->py.c<(U.getD t pk0).c)/\Sp w0 (RowK (.slice (some ad) n c) D::L) wr) (fun iv jv _=>(intOf jv).toNat - (intOf iv).toNat)
 case atStart=>exact⟨a,m,rfl,rfl,Nat.le_refl _,ham,Nat.le_refl _,Lib.hid (fun t ht=>by omega),Lib.hid (fun t h1 h2=>by have:=HM.out; omega),H⟩
 case round =>
  clear H
  obtain⟨i,j,rfl,rfl,hmi,hij,hjb,H1,H2,H⟩:=hrel
  by_cases hlt:i<j
  ·have k1:(i:Int)<(j:Int):=by omega
   obtain⟨h,hh⟩:∃h,(i+j) / 2=h:=⟨_,rfl⟩
   have hih:i<=h:=by omega
   have hhj:h<j:=by omega
   have y2:((i:Int)+(j:Int)) / 2=(h:Int):=by omega
   clear hh
   obtain⟨t,ht⟩:∃t,h=a+t:=⟨h - a,by omega⟩
   have htl:t<U.length:=by have:=HM.out; omega
   obtain⟨ph,hph⟩:∃ph,U.getD t pk0=ph:=⟨_,rfl⟩
   have hph2:D.getD h pk0=ph:=by rw [ht,HDU.out t htl,hph]
   have HEph:=Lib.hid hph2
   have HPH:=Lib.hid hph
   have HTT:Hid (h=a+t/\t<U.length):=Lib.hid ⟨ht,htl⟩
   have kh:(h:Int)<(n:Int):=by omega
   have hbh:h<D.length:=by have:=HDL.out; omega
   have Bh:=Lib.hid hbh
   obtain⟨r,hr⟩:∃r,decide (cmpI py.c ph.c<0)=r:=⟨_,rfl⟩
   clear ht htl hph hph2 hbh
   go_wp2_with fail
   refine wp_region_sp (L:=RowK (.slice (some ad) n c) D::L) (fun ix vx=>([(·=cmpF),(·=.slice (some ad) n c),(·=.int .i64 (m:Int)),(·=.pointer (some (ad.add (m * 3)))),(·=py.val),(·=.slice (some ad) n c),(·=.int .i64 (h:Int)),(·=.pointer (some (ad.add (h * 3)))),(·=ph.val),(·=.int .i64 (cmpI py.c ph.c)),(·=.bool r),(·=.bool (!r))]:List (Value->Prop)).getD ix (fun _=>True) vx)
    (fun ix vx=>([fun _=>[],fun _=>[],fun _=>[],fun _=>[],fun _=>[],fun _=>[],fun _=>[],fun _=>[],fun _=>[],fun _=>[],fun _=>[],fun _=>[]]:List (Value->List Pr)).getD ix (fun _=>[]) vx) (fun ix=>([[],[],[],[],[],[],[],[],[],[],[],[]]:List (List Pr)).getD ix []) 12 220
    [some 92,some 93,some 94,some 95,some 96,some 97,some 98,some 99,some 100,some 101,some 102,some 103]
    [[],[],[],[1,2],[3],[],[],[5,6],[7],[0,4,8],[9],[10]]
    [[],[],[],[1,2],[1,2,3],[],[],[5,6],[5,6,7],[0,1,2,3,4,5,6,7,8],[0,1,2,3,4,5,6,7,8,9],[0,1,2,3,4,5,6,7,8,9,10]]
    [[],[],[],[],[],[],[],[],[],[],[],[]]
    [[],[],[],[],[],[],[],[],[],[],[],[]]
    [(0,.slice (some ad) n c),(2,.int .i64 (m:Int)),(4,cmpF),(16,.int .i64 (h:Int))]
    (by kernel_rfl) rfl (by decide) (by rfl) rfl (by decide +kernel) (by decide +kernel) (by rfl) rfl rfl (by decide) (by simp) (by rfl) (H) ?hstep ?hend
   case hstep =>
    refine⟨?_,⟨?_,⟨?_,⟨?_,⟨?_,⟨?_,⟨?_,⟨?_,⟨?_,⟨?_,⟨?_,⟨?_,trivial⟩⟩⟩⟩⟩⟩⟩⟩⟩⟩⟩⟩
    ·intro x wx A rest hN hS hE H K hK0
     have e4:A.tmps[4]?.getD undef=cmpF:=hN (4,cmpF) (by simp)
     replace H:Sp w0 (rest) wx:=H
     have hK:Hid (∀(v:Value) (w' : World),v=cmpF->Sp w0 (rest) w'->K (A.put (some 92) v) w'):=Lib.hid hK0
     clear hK0 hN hS hE
     change Oper.wp _ _ A wx K _
     go_step
     exact hK.out _ _ rfl (H)
    ·intro x wx A rest hN hS hE H K hK0
     have e0:A.tmps[0]?.getD undef=.slice (some ad) n c:=hN (0,.slice (some ad) n c) (by simp)
     replace H:Sp w0 (rest) wx:=H
     have hK:Hid (∀(v:Value) (w' : World),v=.slice (some ad) n c->Sp w0 (rest) w'->K (A.put (some 93) v) w'):=Lib.hid hK0
     clear hK0 hN hS hE
     change Oper.wp _ _ A wx K _
     go_step
     exact hK.out _ _ rfl (H)
    ·intro x wx A rest hN hS hE H K hK0
     have e2:A.tmps[2]?.getD undef=.int .i64 (m:Int):=hN (2,.int .i64 (m:Int)) (by simp)
     replace H:Sp w0 (rest) wx:=H
     have hK:Hid (∀(v:Value) (w' : World),v=.int .i64 (m:Int)->Sp w0 (rest) w'->K (A.put (some 94) v) w'):=Lib.hid hK0
     clear hK0 hN hS hE
     change Oper.wp _ _ A wx K _
     go_step
     exact hK.out _ _ rfl (H)
    ·intro x wx A rest hN hS hE H K hK0
     have e93:A.tmps[93]?.getD undef=.slice (some ad) n c:=((hS 1 (by decide)).2 93 rfl).trans (hS 1 (by decide)).1
     have e94:A.tmps[94]?.getD undef=.int .i64 (m:Int):=((hS 2 (by decide)).2 94 rfl).trans (hS 2 (by decide)).1
     replace H:Sp w0 (rest) wx:=H
     have hK:Hid (∀(v:Value) (w' : World),v=.pointer (some (ad.add (m * 3)))->Sp w0 (rest) w'->K (A.put (some 95) v) w'):=Lib.hid hK0
     clear hK0 hN hS hE
     change Oper.wp _ _ A wx K _
     go_step
     exact hK.out _ _ rfl (H)
    ·intro x wx A rest hN hS hE H K hK0
     have e95:A.tmps[95]?.getD undef=.pointer (some (ad.add (m * 3))):=((hS 3 (by decide)).2 95 rfl).trans (hS 3 (by decide)).1
     replace H:Sp w0 (rest) wx:=H
     have hK:Hid (∀(v:Value) (w' : World),v=py.val->Sp w0 (rest) w'->K (A.put (some 96) v) w'):=Lib.hid hK0
     clear hK0 hN hS
     change Oper.wp _ _ A wx K _
     exact wp_load_agg 141 _ rfl _ py.cells (ev e95) (by rw [<- HEpy.out]; exact hE (fun w=>∀jj vv,(D.getD m pk0).cells[jj]?=some vv->w.cell? ((ad.add (m * 3)).add jj)=some vv) (fun _ _ H=>RowK.rd H 0 rfl m Bm.out) _ _ H) Tryd.isAgg141 Tryd.sizeOf141 (hK.out _ _ rfl H)
    ·intro x wx A rest hN hS hE H K hK0
     have e0:A.tmps[0]?.getD undef=.slice (some ad) n c:=hN (0,.slice (some ad) n c) (by simp)
     replace H:Sp w0 (rest) wx:=H
     have hK:Hid (∀(v:Value) (w' : World),v=.slice (some ad) n c->Sp w0 (rest) w'->K (A.put (some 97) v) w'):=Lib.hid hK0
     clear hK0 hN hS hE
     change Oper.wp _ _ A wx K _
     go_step
     exact hK.out _ _ rfl (H)
    ·intro x wx A rest hN hS hE H K hK0
     have e16:A.tmps[16]?.getD undef=.int .i64 (h:Int):=hN (16,.int .i64 (h:Int)) (by simp)
     replace H:Sp w0 (rest) wx:=H
     have hK:Hid (∀(v:Value) (w' : World),v=.int .i64 (h:Int)->Sp w0 (rest) w'->K (A.put (some 98) v) w'):=Lib.hid hK0
     clear hK0 hN hS hE
     change Oper.wp _ _ A wx K _
     go_step
     exact hK.out _ _ rfl (H)
    ·intro x wx A rest hN hS hE H K hK0
     have e97:A.tmps[97]?.getD undef=.slice (some ad) n c:=((hS 5 (by decide)).2 97 rfl).trans (hS 5 (by decide)).1
     have e98:A.tmps[98]?.getD undef=.int .i64 (h:Int):=((hS 6 (by decide)).2 98 rfl).trans (hS 6 (by decide)).1
     replace H:Sp w0 (rest) wx:=H
     have hK:Hid (∀(v:Value) (w' : World),v=.pointer (some (ad.add (h * 3)))->Sp w0 (rest) w'->K (A.put (some 99) v) w'):=Lib.hid hK0
     clear hK0 hN hS hE
     change Oper.wp _ _ A wx K _
     go_step
     exact hK.out _ _ rfl (H)
    ·intro x wx A rest hN hS hE H K hK0
     have e99:A.tmps[99]?.getD undef=.pointer (some (ad.add (h * 3))):=((hS 7 (by decide)).2 99 rfl).trans (hS 7 (by decide)).1
     replace H:Sp w0 (rest) wx:=H
     have hK:Hid (∀(v:Value) (w' : World),v=ph.val->Sp w0 (rest) w'->K (A.put (some 100) v) w'):=Lib.hid hK0
     clear hK0 hN hS
     change Oper.wp _ _ A wx K _
     exact wp_load_agg 141 _ rfl _ ph.cells (ev e99) (by rw [<- HEph.out]; exact hE (fun w=>∀jj vv,(D.getD h pk0).cells[jj]?=some vv->w.cell? ((ad.add (h * 3)).add jj)=some vv) (fun _ _ H=>RowK.rd H 0 rfl h Bh.out) _ _ H) Tryd.isAgg141 Tryd.sizeOf141 (hK.out _ _ rfl H)
    ·intro x wx A rest hN hS hE H K hK0
     have e92:A.tmps[92]?.getD undef=cmpF:=((hS 0 (by decide)).2 92 rfl).trans (hS 0 (by decide)).1
     have e96:A.tmps[96]?.getD undef=py.val:=((hS 4 (by decide)).2 96 rfl).trans (hS 4 (by decide)).1
     have e100:A.tmps[100]?.getD undef=ph.val:=((hS 8 (by decide)).2 100 rfl).trans (hS 8 (by decide)).1
     replace H:Sp w0 (rest) wx:=H
     have hK:Hid (∀(v:Value) (w' : World),v=.int .i64 (cmpI py.c ph.c)->Sp w0 (rest) w'->K (A.put (some 101) v) w'):=Lib.hid hK0
     clear hK0 hN hS hE
     change Oper.wp _ _ A wx K _
     unfold cmpF at *
     go_wp2_with fail
     refine(cmpK_ok py ph H).mono ?_
     rintro _ w9 ⟨rfl,H9⟩
     exact hK.out _ _ rfl H9
    ·intro x wx A rest hN hS hE H K hK0
     have e101:A.tmps[101]?.getD undef=.int .i64 (cmpI py.c ph.c):=((hS 9 (by decide)).2 101 rfl).trans (hS 9 (by decide)).1
     replace H:Sp w0 (rest) wx:=H
     have hK:Hid (∀(v:Value) (w' : World),v=.bool r->Sp w0 (rest) w'->K (A.put (some 102) v) w'):=Lib.hid hK0
     clear hK0 hN hS hE
     change Oper.wp _ _ A wx K _
     go_step
     exact hK.out _ _ rfl (H)
    ·intro x wx A rest hN hS hE H K hK0
     have e102:A.tmps[102]?.getD undef=.bool r:=((hS 10 (by decide)).2 102 rfl).trans (hS 10 (by decide)).1
     replace H:Sp w0 (rest) wx:=H
     have hK:Hid (∀(v:Value) (w' : World),v=.bool (!r)->Sp w0 (rest) w'->K (A.put (some 103) v) w'):=Lib.hid hK0
     clear hK0 hN hS hE
     change Oper.wp _ _ A wx K _
     go_step
     exact hK.out _ _ rfl (H)
   case hend =>
    intro x wx A hA hS H
    replace H:Sp w0 (RowK (.slice (some ad) n c) D::L) wx:=H
    have y11:x 11=.bool (!r):=hS 11 (by decide)
    clear hS
    simp only [putAll,Act.put,List.setIfInBounds_toArray,List.set_cons_succ,List.set_cons_zero,Nat.reduceAdd] at hA
    subst hA
    rw [y11]
    clear y11
    rw [cmpI_lt] at hr
    cases r
    ·have hle:ph.c<=py.c:=by have:=of_decide_eq_false hr; omega
     clear hr
     go_wp2_with fail
     go_roundw
     case rel =>
      refine⟨h+1,j,by go_num,rfl,by omega,by omega,hjb,Lib.hid (fun s h1=>?_),H2,H⟩
      have:=HSRT.out s t (by have:=HTT.out; omega) HTT.out.2
      rw [HPH.out] at this
      exact Int.le_trans this hle
     case measure=>first | (simp [intOf]; omega) | simp [intOf]
    ·have hlt2:py.c<ph.c:=of_decide_eq_true hr
     clear hr
     go_wp2_with fail
     go_roundw
     case rel =>
      refine⟨i,h,rfl,rfl,hmi,hih,by omega,H1,Lib.hid (fun s h1 h2=>?_),H⟩
      have:=HSRT.out t s (by have:=HTT.out; omega) h2
      rw [HPH.out] at this
      exact Int.lt_of_lt_of_le hlt2 this
     case measure=>first | (simp [intOf]; omega) | simp [intOf]
  ·have k1:¬ (i:Int)<(j:Int):=by omega
   obtain rfl:i=j:=by omega
   obtain⟨t,ht⟩:∃t,i=a+t:=⟨i - a,by omega⟩
   obtain⟨U1,hU1⟩:∃V1,U.take t=V1:=⟨_,rfl⟩
   obtain⟨U2,hU2⟩:∃V2,U.drop t=V2:=⟨_,rfl⟩
   have hsp:U1++U2=U:=by rw [<- hU1,<- hU2,List.take_append_drop]
   have hl1:U1.length=t:=by rw [<- hU1,List.length_take]; have:=HM.out; omega
   have hl2:i+U2.length=m:=by rw [<- hU2,List.length_drop]; have:=HM.out; omega
   have hres:SS.mrg keyK U [py]=U1++py::U2:=by
    rw [<- hsp]
    refine SS.mrg_last ?_ ?_
    ·rw [<- hU1]
     exact SS.all_take fun s h1 h2=>H1.out s (by omega)
    ·rw [<- hU2]
     exact SS.all_drop fun s h1 h2=>H2.out s (by omega) h2
   have HR:Hid (X++U1++py::U2++Y=T):=Lib.hid (by rw [<- HT.out,hres]; simp)
   have HLL:Hid (U1.length=t/\i=a+t/\i+U2.length=m):=Lib.hid ⟨hl1,ht,hl2⟩
   have hD2:D=X++U1++U2++py::[]++Y:=by rw [<- HD.out,<- hsp]; simp
   rw [hD2] at H
   clear hU1 hU2 hsp hl1 hres hD2 ht hl2
   clear HEpy Bm HDL HD HDU HSRT
   go_wp2_with fail
   go_loopw [17] (fun kv wr=>∃(k:Nat) (W1 W2:List PK),kv=.int .i64 (k:Int)/\Hid (k=i+W1.length/\W1++W2=U2)/\k<=m/\Sp w0 (RowK (.slice (some ad) n c) (X++U1++W1++py::W2++Y)::L) wr) (fun kv _=>(intOf kv).toNat)
   case atStart=>exact⟨m,U2,[],rfl,Lib.hid ⟨HLL.out.2.2.symm,List.append_nil _⟩,Nat.le_refl _,H⟩
   case round =>
    clear H H1 H2
    obtain⟨k,W1,W2,rfl,HW,hke,H⟩:=hrel
    by_cases hk:i<k
    ·have k2:(i:Int)<(k:Int):=by omega
     obtain⟨W3,px,rfl⟩:∃W3 p,W1=W3++[p]:=⟨W1.dropLast,W1.getLast (by rintro rfl; have:=HW.out.1; simp at this; omega),(List.dropLast_concat_getLast _).symm⟩
     obtain⟨k1,hk1⟩:∃k1,k=k1+1:=⟨k - 1,by omega⟩
     obtain⟨D,hD⟩:∃D,X++U1++(W3++[px])++py::W2++Y=D:=⟨_,rfl⟩
     rw [hD] at H
     have hlk:(X++U1++W3).length=k1:=by
      have h1:=HW.out.1
      rw [List.length_append,List.length_singleton] at h1
      rw [List.length_append,List.length_append,HX.out,HLL.out.1]; have:=HLL.out.2.1; omega
     have hx:D.getD k1 pk0=px:=by
      rw [<- hD,show X++U1++(W3++[px])++py::W2++Y=(X++U1++W3)++px::(py::W2++Y) by simp]
      exact SS.getD_app pk0 _ _ _ hlk
     have hy:D.getD k pk0=py:=by
      rw [<- hD,show X++U1++(W3++[px])++py::W2++Y=(X++U1++W3++[px])++py::(W2++Y) by simp]
      exact SS.getD_app pk0 _ _ _ (by rw [List.length_append,hlk]; exact hk1.symm)
     have hDl:k<D.length:=by
      rw [<- hD]; simp only [List.length_append,List.length_cons,List.length_nil] at hlk ⊢; omega
     have hkn:k<n:=by omega
     have HEpx:=Lib.hid hx
     have HEpy:=Lib.hid hy
     have hbk:k1<D.length:=by omega
     have Bk:=Lib.hid hDl
     have Bk1:=Lib.hid hbk
     have y4:(k:Int) - 1=(k1:Int):=by omega
     have kk:(k:Int)<(n:Int):=by omega
     have kk1:(k1:Int)<(n:Int):=by omega
     have hres:(D.set k px).set k1 py=X++U1++W3++py::(px::W2)++Y:=by
      have h1:=SS.sw_app pk0 (X++U1++W3) [] (W2++Y) px py hlk (j:=k) (by rw [hlk]; exact hk1.symm)
      have e0:X++U1++W3++px::[]++py::(W2++Y)=D:=by rw [<- hD]; simp
      rw [e0,SS.sw_comm pk0 D k1 k (by omega)] at h1
      unfold SS.sw at h1
      rw [hx,hy] at h1
      rw [h1]; simp
     have HRS:=Lib.hid hres
     have HK1:=Lib.hid hk1
     have hk1m:k1<=m:=by omega
     clear hres hx hy hDl hbk hD hk1 hlk
     go_wp2_with fail
     refine wp_region_sp (L:=L) (fun ix vx=>([(·=.slice (some ad) n c),(·=.int .i64 (k:Int)),(·=.slice (some ad) n c),(·=.int .i64 (k:Int)),(·=.int .i64 (k1:Int)),(·=.slice (some ad) n c),(·=.int .i64 (k:Int)),(·=.int .i64 (k1:Int)),(·=.pointer (some (ad.add (k1 * 3)))),(·=px.val),(·=.slice (some ad) n c),(·=.int .i64 (k:Int)),(·=.pointer (some (ad.add (k * 3)))),(·=py.val),(·=.pointer (some (ad.add (k * 3)))),(fun _=>True),(·=.pointer (some (ad.add (k1 * 3)))),(fun _=>True)]:List (Value->Prop)).getD ix (fun _=>True) vx)
      (fun ix vx=>([fun _=>[],fun _=>[],fun _=>[],fun _=>[],fun _=>[],fun _=>[],fun _=>[],fun _=>[],fun _=>[],fun _=>[],fun _=>[],fun _=>[],fun _=>[],fun _=>[],fun _=>[],fun _=>[RowK (.slice (some ad) n c) (D.set k px)],fun _=>[],fun _=>[RowK (.slice (some ad) n c) ((D.set k px).set k1 py)]]:List (Value->List Pr)).getD ix (fun _=>[]) vx) (fun ix=>([[],[],[],[],[],[],[],[],[],[],[],[],[],[],[],[RowK (.slice (some ad) n c) D],[],[]]:List (List Pr)).getD ix []) 18 220
      [some 113,some 114,some 115,some 116,some 117,some 118,some 119,some 120,some 121,some 122,some 123,some 124,some 125,some 126,some 127,none,some 128,none]
      [[],[],[],[],[3],[],[],[6],[5,7],[8],[],[],[10,11],[12],[0,1,0,1,5,6,7,8,9,13],[14,9,0,1,5,6,7,8,9,13],[2,4,0,1,2,3,4,5,6,7,8,9,10,11,12,13,14,15],[16,13,15,0,1,2,3,4,5,6,7,8,9,10,11,12,13,14,15]]
      [[],[],[],[],[3],[],[],[6],[5,6,7],[5,6,7,8],[],[],[10,11],[10,11,12],[0,1,5,6,7,8,9,10,11,12,13],[0,1,5,6,7,8,9,10,11,12,13,14],[0,1,2,3,4,5,6,7,8,9,10,11,12,13,14,15],[0,1,2,3,4,5,6,7,8,9,10,11,12,13,14,15,16]]
      [[],[],[],[],[],[],[],[],[],[],[],[],[],[],[],[],[],[15]]
      [[],[],[],[],[],[],[],[],[],[15],[],[],[],[15],[],[],[],[]]
      [(0,.slice (some ad) n c),(17,.int .i64 (k:Int))]
      (by kernel_rfl) rfl (by decide) (by rfl) rfl (by decide +kernel) (by decide +kernel) (by rfl) rfl rfl (by decide) (by simp) (by rfl) (H) ?hstep ?hend
     case hstep =>
      refine⟨?_,⟨?_,⟨?_,⟨?_,⟨?_,⟨?_,⟨?_,⟨?_,⟨?_,⟨?_,⟨?_,⟨?_,⟨?_,⟨?_,⟨?_,⟨?_,⟨?_,⟨?_,trivial⟩⟩⟩⟩⟩⟩⟩⟩⟩⟩⟩⟩⟩⟩⟩⟩⟩⟩
      ·intro x wx A rest hN hS hE H K hK0
       have e0:A.tmps[0]?.getD undef=.slice (some ad) n c:=hN (0,.slice (some ad) n c) (by simp)
       replace H:Sp w0 (rest) wx:=H
       have hK:Hid (∀(v:Value) (w' : World),v=.slice (some ad) n c->Sp w0 (rest) w'->K (A.put (some 113) v) w'):=Lib.hid hK0
       clear hK0 hN hS hE
       change Oper.wp _ _ A wx K _
       go_step
       exact hK.out _ _ rfl (H)
      ·intro x wx A rest hN hS hE H K hK0
       have e17:A.tmps[17]?.getD undef=.int .i64 (k:Int):=hN (17,.int .i64 (k:Int)) (by simp)
       replace H:Sp w0 (rest) wx:=H
       have hK:Hid (∀(v:Value) (w' : World),v=.int .i64 (k:Int)->Sp w0 (rest) w'->K (A.put (some 114) v) w'):=Lib.hid hK0
       clear hK0 hN hS hE
       change Oper.wp _ _ A wx K _
       go_step
       exact hK.out _ _ rfl (H)
      ·intro x wx A rest hN hS hE H K hK0
       have e0:A.tmps[0]?.getD undef=.slice (some ad) n c:=hN (0,.slice (some ad) n c) (by simp)
       replace H:Sp w0 (rest) wx:=H
       have hK:Hid (∀(v:Value) (w' : World),v=.slice (some ad) n c->Sp w0 (rest) w'->K (A.put (some 115) v) w'):=Lib.hid hK0
       clear hK0 hN hS hE
       change Oper.wp _ _ A wx K _
       go_step
       exact hK.out _ _ rfl (H)
      ·intro x wx A rest hN hS hE H K hK0
       have e17:A.tmps[17]?.getD undef=.int .i64 (k:Int):=hN (17,.int .i64 (k:Int)) (by simp)
       replace H:Sp w0 (rest) wx:=H
       have hK:Hid (∀(v:Value) (w' : World),v=.int .i64 (k:Int)->Sp w0 (rest) w'->K (A.put (some 116) v) w'):=Lib.hid hK0
       clear hK0 hN hS hE
       change Oper.wp _ _ A wx K _
       go_step
       exact hK.out _ _ rfl (H)
      ·intro x wx A rest hN hS hE H K hK0
       have e116:A.tmps[116]?.getD undef=.int .i64 (k:Int):=((hS 3 (by decide)).2 116 rfl).trans (hS 3 (by decide)).1
       replace H:Sp w0 (rest) wx:=H
       have hK:Hid (∀(v:Value) (w' : World),v=.int .i64 (k1:Int)->Sp w0 (rest) w'->K (A.put (some 117) v) w'):=Lib.hid hK0
       clear hK0 hN hS hE
       change Oper.wp _ _ A wx K _
       go_step
       exact hK.out _ _ rfl (H)
      ·intro x wx A rest hN hS hE H K hK0
       have e0:A.tmps[0]?.getD undef=.slice (some ad) n c:=hN (0,.slice (some ad) n c) (by simp)
       replace H:Sp w0 (rest) wx:=H
       have hK:Hid (∀(v:Value) (w' : World),v=.slice (some ad) n c->Sp w0 (rest) w'->K (A.put (some 118) v) w'):=Lib.hid hK0
       clear hK0 hN hS hE
       change Oper.wp _ _ A wx K _
       go_step
       exact hK.out _ _ rfl (H)
      ·intro x wx A rest hN hS hE H K hK0
       have e17:A.tmps[17]?.getD undef=.int .i64 (k:Int):=hN (17,.int .i64 (k:Int)) (by simp)
       replace H:Sp w0 (rest) wx:=H
       have hK:Hid (∀(v:Value) (w' : World),v=.int .i64 (k:Int)->Sp w0 (rest) w'->K (A.put (some 119) v) w'):=Lib.hid hK0
       clear hK0 hN hS hE
       change Oper.wp _ _ A wx K _
       go_step
       exact hK.out _ _ rfl (H)
      ·intro x wx A rest hN hS hE H K hK0
       have e119:A.tmps[119]?.getD undef=.int .i64 (k:Int):=((hS 6 (by decide)).2 119 rfl).trans (hS 6 (by decide)).1
       replace H:Sp w0 (rest) wx:=H
       have hK:Hid (∀(v:Value) (w' : World),v=.int .i64 (k1:Int)->Sp w0 (rest) w'->K (A.put (some 120) v) w'):=Lib.hid hK0
       clear hK0 hN hS hE
       change Oper.wp _ _ A wx K _
       go_step
       exact hK.out _ _ rfl (H)
      ·intro x wx A rest hN hS hE H K hK0
       have e118:A.tmps[118]?.getD undef=.slice (some ad) n c:=((hS 5 (by decide)).2 118 rfl).trans (hS 5 (by decide)).1
       have e120:A.tmps[120]?.getD undef=.int .i64 (k1:Int):=((hS 7 (by decide)).2 120 rfl).trans (hS 7 (by decide)).1
       replace H:Sp w0 (rest) wx:=H
       have hK:Hid (∀(v:Value) (w' : World),v=.pointer (some (ad.add (k1 * 3)))->Sp w0 (rest) w'->K (A.put (some 121) v) w'):=Lib.hid hK0
       clear hK0 hN hS hE
       change Oper.wp _ _ A wx K _
       go_step
       exact hK.out _ _ rfl (H)
      ·intro x wx A rest hN hS hE H K hK0
       have e121:A.tmps[121]?.getD undef=.pointer (some (ad.add (k1 * 3))):=((hS 8 (by decide)).2 121 rfl).trans (hS 8 (by decide)).1
       replace H:Sp w0 ((RowK (.slice (some ad) n c) D)::rest) wx:=H
       have hK:Hid (∀(v:Value) (w' : World),v=px.val->Sp w0 ((RowK (.slice (some ad) n c) D)::rest) w'->K (A.put (some 122) v) w'):=Lib.hid hK0
       clear hK0 hN hS hE
       change Oper.wp _ _ A wx K _
       exact wp_load_agg 141 _ rfl _ px.cells (ev e121) (by rw [<- HEpx.out]; exact RowK.rd H 0 rfl k1 Bk1.out) Tryd.isAgg141 Tryd.sizeOf141 (hK.out _ _ rfl H)
      ·intro x wx A rest hN hS hE H K hK0
       have e0:A.tmps[0]?.getD undef=.slice (some ad) n c:=hN (0,.slice (some ad) n c) (by simp)
       replace H:Sp w0 (rest) wx:=H
       have hK:Hid (∀(v:Value) (w' : World),v=.slice (some ad) n c->Sp w0 (rest) w'->K (A.put (some 123) v) w'):=Lib.hid hK0
       clear hK0 hN hS hE
       change Oper.wp _ _ A wx K _
       go_step
       exact hK.out _ _ rfl (H)
      ·intro x wx A rest hN hS hE H K hK0
       have e17:A.tmps[17]?.getD undef=.int .i64 (k:Int):=hN (17,.int .i64 (k:Int)) (by simp)
       replace H:Sp w0 (rest) wx:=H
       have hK:Hid (∀(v:Value) (w' : World),v=.int .i64 (k:Int)->Sp w0 (rest) w'->K (A.put (some 124) v) w'):=Lib.hid hK0
       clear hK0 hN hS hE
       change Oper.wp _ _ A wx K _
       go_step
       exact hK.out _ _ rfl (H)
      ·intro x wx A rest hN hS hE H K hK0
       have e123:A.tmps[123]?.getD undef=.slice (some ad) n c:=((hS 10 (by decide)).2 123 rfl).trans (hS 10 (by decide)).1
       have e124:A.tmps[124]?.getD undef=.int .i64 (k:Int):=((hS 11 (by decide)).2 124 rfl).trans (hS 11 (by decide)).1
       replace H:Sp w0 (rest) wx:=H
       have hK:Hid (∀(v:Value) (w' : World),v=.pointer (some (ad.add (k * 3)))->Sp w0 (rest) w'->K (A.put (some 125) v) w'):=Lib.hid hK0
       clear hK0 hN hS hE
       change Oper.wp _ _ A wx K _
       go_step
       exact hK.out _ _ rfl (H)
      ·intro x wx A rest hN hS hE H K hK0
       have e125:A.tmps[125]?.getD undef=.pointer (some (ad.add (k * 3))):=((hS 12 (by decide)).2 125 rfl).trans (hS 12 (by decide)).1
       replace H:Sp w0 ((RowK (.slice (some ad) n c) D)::rest) wx:=H
       have hK:Hid (∀(v:Value) (w' : World),v=py.val->Sp w0 ((RowK (.slice (some ad) n c) D)::rest) w'->K (A.put (some 126) v) w'):=Lib.hid hK0
       clear hK0 hN hS hE
       change Oper.wp _ _ A wx K _
       exact wp_load_agg 141 _ rfl _ py.cells (ev e125) (by rw [<- HEpy.out]; exact RowK.rd H 0 rfl k Bk.out) Tryd.isAgg141 Tryd.sizeOf141 (hK.out _ _ rfl H)
      ·intro x wx A rest hN hS hE H K hK0
       have e113:A.tmps[113]?.getD undef=.slice (some ad) n c:=((hS 0 (by decide)).2 113 rfl).trans (hS 0 (by decide)).1
       have e114:A.tmps[114]?.getD undef=.int .i64 (k:Int):=((hS 1 (by decide)).2 114 rfl).trans (hS 1 (by decide)).1
       replace H:Sp w0 (rest) wx:=H
       have hK:Hid (∀(v:Value) (w' : World),v=.pointer (some (ad.add (k * 3)))->Sp w0 (rest) w'->K (A.put (some 127) v) w'):=Lib.hid hK0
       clear hK0 hN hS hE
       change Oper.wp _ _ A wx K _
       go_step
       exact hK.out _ _ rfl (H)
      ·intro x wx A rest hN hS hE H K hK0
       have e127:A.tmps[127]?.getD undef=.pointer (some (ad.add (k * 3))):=((hS 14 (by decide)).2 127 rfl).trans (hS 14 (by decide)).1
       have e122:A.tmps[122]?.getD undef=px.val:=((hS 9 (by decide)).2 122 rfl).trans (hS 9 (by decide)).1
       replace H:Sp w0 ((RowK (.slice (some ad) n c) D)::rest) wx:=H
       have hK:Hid (∀(v:Value) (w' : World),True->Sp w0 ((RowK (.slice (some ad) n c) (D.set k px))::rest) w'->K (A.put none v) w'):=Lib.hid hK0
       clear hK0 hN hS hE
       obtain⟨w9,hst,H9⟩:=RowK.store (i:=k) px H Bk.out
       change Oper.wp _ _ A wx K _
       exact wp_store_agg 141 _ _ rfl _ px.cells (ev e127) (ev e122) hst Tryd.sizeOf141 (hK.out undef _ trivial H9)
      ·intro x wx A rest hN hS hE H K hK0
       have e115:A.tmps[115]?.getD undef=.slice (some ad) n c:=((hS 2 (by decide)).2 115 rfl).trans (hS 2 (by decide)).1
       have e117:A.tmps[117]?.getD undef=.int .i64 (k1:Int):=((hS 4 (by decide)).2 117 rfl).trans (hS 4 (by decide)).1
       replace H:Sp w0 (rest) wx:=H
       have hK:Hid (∀(v:Value) (w' : World),v=.pointer (some (ad.add (k1 * 3)))->Sp w0 (rest) w'->K (A.put (some 128) v) w'):=Lib.hid hK0
       clear hK0 hN hS hE
       change Oper.wp _ _ A wx K _
       go_step
       exact hK.out _ _ rfl (H)
      ·intro x wx A rest hN hS hE H K hK0
       have e128:A.tmps[128]?.getD undef=.pointer (some (ad.add (k1 * 3))):=((hS 16 (by decide)).2 128 rfl).trans (hS 16 (by decide)).1
       have e126:A.tmps[126]?.getD undef=py.val:=((hS 13 (by decide)).2 126 rfl).trans (hS 13 (by decide)).1
       replace H:Sp w0 ((RowK (.slice (some ad) n c) (D.set k px))::rest) wx:=H
       have hK:Hid (∀(v:Value) (w' : World),True->Sp w0 ((RowK (.slice (some ad) n c) ((D.set k px).set k1 py))::rest) w'->K (A.put none v) w'):=Lib.hid hK0
       clear hK0 hN hS hE
       obtain⟨w9,hst,H9⟩:=RowK.store (i:=k1) py H (by rw [List.length_set]; exact Bk1.out)
       change Oper.wp _ _ A wx K _
       exact wp_store_agg 141 _ _ rfl _ py.cells (ev e128) (ev e126) hst Tryd.sizeOf141 (hK.out undef _ trivial H9)
     case hend =>
      intro x wx A hA hS H
      replace H:Sp w0 ((RowK (.slice (some ad) n c) ((D.set k px).set k1 py))::L) wx:=H
      clear hS
      simp only [putAll,Act.put,List.setIfInBounds_toArray,List.set_cons_succ,List.set_cons_zero,Nat.reduceAdd] at hA
      subst hA
      go_wp2_with fail
      go_roundw
      case rel =>
       refine⟨k1,W3,px::W2,by go_num,Lib.hid ⟨?_,by rw [<- HW.out.2]; simp⟩,hk1m,?_⟩
       ·have h1:=HW.out.1
        rw [List.length_append,List.length_singleton] at h1
        have:=HK1.out; omega
       rw [<- HRS.out]
       exact H
      case measure =>
       have:=HK1.out
       first | (simp [intOf]; omega) | simp [intOf]
    ·have k2:¬ (i:Int)<(k:Int):=by omega
     go_wp2_with fail
     refine bodyPost_ret (results_none rfl _ _ _) rfl ?_
     refine⟨rfl,?_⟩
     have h0:W1=[]:=List.eq_nil_of_length_eq_zero (by have:=HW.out.1; omega)
     subst h0
     have h2:W2=U2:=HW.out.2
     subst h2
     rw [List.append_nil,HR.out] at H
     exact H
end Go.Proofs.YtloijdbkikccgaaDoor

