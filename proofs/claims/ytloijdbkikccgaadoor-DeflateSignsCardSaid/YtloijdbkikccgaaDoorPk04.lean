/- A pack of texts: SortA SortB. -/
import Derived.Test.YtloijdbkikccgaaDoorPk03
namespace Go.Proofs.YtloijdbkikccgaaDoor
open Go.RowKit
def cmpF:Value:=.func (.func 98) #[] #[]
set_option maxRecDepth 100000 in
theorem cmpK_ok (x y:PK) {w0 w:World} {L:List Pr} (H:Sp w0 L w) :
  Calls Tryd.prog 98 #[x.val,y.val] w fun e w'=>e=.returned (.int .i64 (cmpI x.c y.c))/\Sp w0 L w':=by
 obtain⟨a,b,p⟩:=x
 obtain⟨c,d,q⟩:=y
 unfold PK.val PK.ptr
 simp only
 obtain⟨P,hP⟩:∃P:Option Addr,p.map (fun g=>(⟨g,0,none⟩:Addr))=P:=⟨_,rfl⟩
 obtain⟨Q,hQ⟩:∃P:Option Addr,q.map (fun g=>(⟨g,0,none⟩:Addr))=P:=⟨_,rfl⟩
 rw [hP,hQ]
 clear hP hQ p q
 obtain⟨r,hr⟩:∃r,cmpI a c=r:=⟨_,rfl⟩
 have hc:=fun w=>cmp_ok a c w
 rw [hr] at hc ⊢
 have HC:=Lib.hid hc
 clear hc hr
 have es:(w.alloc (.cells #[.int .i64 a,.int .i64 b,.pointer P] 141)).heap.size=w.heap.size+1:=Array.size_push _
 have H1:=(H.newBk [.int .i64 a,.int .i64 b,.pointer P] 141).newBk [.int .i64 c,.int .i64 d,.pointer Q] 141
 rw [es] at H1
 clear es
 go_enter Tryd.func98,Tryd.ntmps98
 go_wp2_with fail
 generalize w.heap.size+1=g2 at H1 ⊢
 generalize w.heap.size=g1 at H1 ⊢
 generalize (w.alloc _).alloc _=w1 at H1 ⊢
 have c1:=H1.cell 0 rfl 0
 have c2:=H1.cell 1 rfl 0
 simp only [List.getElem?_cons_zero] at c1 c2
 refine(HC.out _).mono ?_
 rintro _ _ ⟨rfl,rfl⟩
 go_wp2_with fail
 go_ret
 exact⟨rfl,H1.pick 2 []⟩
abbrev keyK:PK->Int:=PK.c
set_option maxRecDepth 100000 in
set_option maxHeartbeats 4000000 in
theorem ins_ok (ad:Addr) (n c:Nat) (l:List PK) (a b:Nat) {w0 w:World} {L:List Pr} (H:Sp w0 (RowK (.slice (some ad) n c) l::L) w) (hn:n=l.length) (hl:n<=1000000) (hab:a<=b) (hbn:b<=n) :
  Calls Tryd.prog 158 #[.slice (some ad) n c,.int .i64 (a:Int),.int .i64 (b:Int),cmpF] w fun e w'=>e=.returned (.tuple #[]) /\
   Sp w0 (RowK (.slice (some ad) n c) (l.take a++SS.isort keyK ((l.drop a).take (b - a))++l.drop b)::L) w':=by
 have HN:=Lib.hid hn
 clear hn
 go_enter Tryd.func158,Tryd.ntmps158
 go_wp2_with fail
 go_loopw [8] (fun iv wr=>∃i:Nat,iv=.int .i64 (i:Int)/\a<i/\(i<=b∨i=a+1)/\Sp w0 (RowK (.slice (some ad) n c) (l.take a++SS.isort keyK ((l.drop a).take (i - a))++l.drop i)::L) wr) (fun iv _=>b+1 - (intOf iv).toNat)
 case atStart =>
  refine⟨a+1,by go_num,by omega,.inr rfl,?_⟩
  have e:SS.isort keyK ((l.drop a).take (a+1 - a))=(l.drop a).take 1:=by
   rw [show a+1 - a=1 by omega]
   rcases l.drop a with _ | ⟨x,m⟩
   ·rfl
   ·rfl
  have e2:l.take a++(l.drop a).take 1++l.drop (a+1)=l:=by
   rw [List.append_assoc,<- List.drop_drop,List.take_append_drop,List.take_append_drop]
  rw [e,e2]
  exact H
 case round =>
  obtain⟨i,rfl,hai,hib,H⟩:=hrel
  by_cases hin:i<b
  ·have k1:(i:Int)<(b:Int):=by omega
   obtain⟨P,hP⟩:∃P,l.take a=P:=⟨_,rfl⟩
   obtain⟨S,hS⟩:∃S,SS.isort keyK ((l.drop a).take (i - a))=S:=⟨_,rfl⟩
   have hil:i<l.length:=by rw [<- HN.out]; omega
   obtain⟨px,hx⟩:∃px,l[i]=px:=⟨_,rfl⟩
   have hdi:l.drop i=px::l.drop (i+1):=by rw [List.drop_eq_getElem_cons hil,hx]
   have hnext:SS.isort keyK ((l.drop a).take (i+1 - a))=SS.put keyK S px:=by
    have h1:(l.drop a).take (i+1 - a)=(l.drop a).take (i - a)++[px]:=by
     rw [show i+1 - a=(i - a)+1 by omega,List.take_add_one,List.getElem?_drop,show a+(i - a)=i by omega,List.getElem?_eq_getElem hil,hx]; rfl
    rw [h1,SS.isort_snoc,hS]
   obtain⟨R,hR⟩:∃R,l.drop (i+1)=R:=⟨_,rfl⟩
   have hPl:P.length=a:=by rw [<- hP,List.length_take]; have:=HN.out; omega
   have hSl:S.length=i - a:=by rw [<- hS,SS.len_isort,List.length_take,List.length_drop]; omega
   have hRl:i+1+R.length=n:=by rw [<- hR,List.length_drop]; have:=HN.out; omega
   have hSs:SS.Srt keyK S:=by rw [<- hS]; exact SS.srt_isort _
   rw [hP,hS,hdi,hR] at H
   have HP:=Lib.hid hP
   have HSS:=Lib.hid hSs
   have HNX:=Lib.hid hnext
   have HR:=Lib.hid hR
   clear hP hS hdi hnext hR hSs hx
   go_wp2_with fail
   go_loopw [9] (fun jv wr=>∃(j:Nat) (S1 S2:List PK),jv=.int .i64 (j:Int)/\j=a+S1.length/\Hid (S1++S2=S)/\Hid (∀z ∈ S2,px.c<z.c)/\Sp w0 (RowK (.slice (some ad) n c) (P++S1++px::S2++R)::L) wr) (fun jv _=>(intOf jv).toNat)
   case atStart =>
    refine⟨i,S,[],rfl,by omega,Lib.hid (List.append_nil _),Lib.hid (fun _ h=>by cases h),?_⟩
    rw [List.append_assoc (P++S)]
    exact H
   case round =>
    obtain⟨j,S1,S2,rfl,hj,HS12,HS2,H⟩:=hrel
    have hSl2:S1.length+S2.length=S.length:=by rw [<- HS12.out,List.length_append]
    obtain⟨D,hD⟩:∃D,P++S1++px::S2++R=D:=⟨_,rfl⟩
    have hDl:D.length=n:=by rw [<- hD]; simp only [List.length_append,List.length_cons]; omega
    have hbj:j<D.length:=by omega
    have Bj:=Lib.hid hbj
    have hjx:D.getD j pk0=px:=by
     rw [<- hD,List.append_assoc (P++S1)]
     exact SS.getD_app pk0 (P++S1) (S2++R) px (by rw [List.length_append]; omega)
    have HEpx:=Lib.hid hjx
    have kj:(j:Int)<(n:Int):=by omega
    by_cases hja:a<j
    ·have k2:(a:Int)<(j:Int):=by omega
     obtain⟨j1,hj1⟩:∃j1,j=j1+1:=⟨j - 1,by omega⟩
     have y1:(j:Int) - 1=(j1:Int):=by omega
     have kj1:(j1:Int)<(n:Int):=by omega
     obtain⟨S3,py,rfl⟩:∃S3 py,S1=S3++[py]:=⟨S1.dropLast,S1.getLast (by rintro rfl; simp at hj; omega),(List.dropLast_concat_getLast _).symm⟩
     rw [List.length_append,List.length_singleton] at hj hSl2
     have hjy:D.getD j1 pk0=py:=by
      rw [<- hD,show P++(S3++[py])++px::S2++R=(P++S3)++py::(px::S2++R) by simp]
      exact SS.getD_app pk0 (P++S3) _ py (by rw [List.length_append]; omega)
     have HEpy:=Lib.hid hjy
     have hbj1:j1<D.length:=by omega
     have Bj1:=Lib.hid hbj1
     have HD:=Lib.hid hD
     rw [hD] at H
     obtain⟨r,hr⟩:∃r,decide (cmpI px.c py.c<0)=r:=⟨_,rfl⟩
     have HJ:=Lib.hid hj
     have HJ1:=Lib.hid hj1
     clear hD hjx hjy hbj hbj1 hj hj1
     go_wp2_with fail
     refine wp_region_sp (L:=RowK (.slice (some ad) n c) D::L) (fun ix vx=>([(·=.int .i64 (j:Int)),(·=.int .i64 (a:Int)),(·=.bool true),(·=.bool true),(·=cmpF),(·=.slice (some ad) n c),(·=.int .i64 (j:Int)),(·=.pointer (some (ad.add (j * 3)))),(·=px.val),(·=.slice (some ad) n c),(·=.int .i64 (j:Int)),(·=.int .i64 (j1:Int)),(·=.pointer (some (ad.add (j1 * 3)))),(·=py.val),(·=.int .i64 (cmpI px.c py.c)),(·=.bool r),(·=.bool r)]:List (Value->Prop)).getD ix (fun _=>True) vx)
      (fun ix vx=>([fun _=>[],fun _=>[],fun _=>[],fun _=>[],fun _=>[],fun _=>[],fun _=>[],fun _=>[],fun _=>[],fun _=>[],fun _=>[],fun _=>[],fun _=>[],fun _=>[],fun _=>[],fun _=>[],fun _=>[]]:List (Value->List Pr)).getD ix (fun _=>[]) vx) (fun ix=>([[],[],[],[],[],[],[],[],[],[],[],[],[],[],[],[],[]]:List (List Pr)).getD ix []) 17 53
      [some 18,some 19,some 20,some 21,some 22,some 23,some 24,some 25,some 26,some 27,some 28,some 29,some 30,some 31,some 32,some 33,some 34]
      [[],[],[0,1],[2],[3],[3],[3],[5,6,3],[7,3],[3],[3],[10,3],[9,11,3],[12,3],[4,8,13,3,3],[14,3],[3,15]]
      [[],[],[0,1],[0,1,2],[0,1,2,3],[0,1,2,3],[0,1,2,3],[0,1,2,3,5,6],[0,1,2,3,5,6,7],[0,1,2,3],[0,1,2,3],[0,1,2,3,10],[0,1,2,3,9,10,11],[0,1,2,3,9,10,11,12],[0,1,2,3,4,5,6,7,8,9,10,11,12,13],[0,1,2,3,4,5,6,7,8,9,10,11,12,13,14],[0,1,2,3,4,5,6,7,8,9,10,11,12,13,14,15]]
      [[],[],[],[],[],[],[],[],[],[],[],[],[],[],[],[],[]]
      [[],[],[],[],[],[],[],[],[],[],[],[],[],[],[],[],[]]
      [(0,.slice (some ad) n c),(1,.int .i64 (a:Int)),(3,cmpF),(9,.int .i64 (j:Int))]
      (by kernel_rfl) rfl (by decide) (by rfl) rfl (by decide +kernel) (by decide +kernel) (by rfl) rfl rfl (by decide) (by simp) (by rfl) (H) ?hstep ?hend
     case hstep =>
      refine⟨?_,⟨?_,⟨?_,⟨?_,⟨?_,⟨?_,⟨?_,⟨?_,⟨?_,⟨?_,⟨?_,⟨?_,⟨?_,⟨?_,⟨?_,⟨?_,⟨?_,trivial⟩⟩⟩⟩⟩⟩⟩⟩⟩⟩⟩⟩⟩⟩⟩⟩⟩
      ·intro x wx A rest hN hS hE H K hK0
       have e9:A.tmps[9]?.getD undef=.int .i64 (j:Int):=hN (9,.int .i64 (j:Int)) (by simp)
       replace H:Sp w0 (rest) wx:=H
       have hK:Hid (∀(v:Value) (w' : World),v=.int .i64 (j:Int)->Sp w0 (rest) w'->K (A.put (some 18) v) w'):=Lib.hid hK0
       clear hK0 hN hS hE
       change Oper.wp _ _ A wx K _
       go_step
       exact hK.out _ _ rfl (H)
      ·intro x wx A rest hN hS hE H K hK0
       have e1:A.tmps[1]?.getD undef=.int .i64 (a:Int):=hN (1,.int .i64 (a:Int)) (by simp)
       replace H:Sp w0 (rest) wx:=H
       have hK:Hid (∀(v:Value) (w' : World),v=.int .i64 (a:Int)->Sp w0 (rest) w'->K (A.put (some 19) v) w'):=Lib.hid hK0
       clear hK0 hN hS hE
       change Oper.wp _ _ A wx K _
       go_step
       exact hK.out _ _ rfl (H)
      ·intro x wx A rest hN hS hE H K hK0
       have e18:A.tmps[18]?.getD undef=.int .i64 (j:Int):=((hS 0 (by decide)).2 18 rfl).trans (hS 0 (by decide)).1
       have e19:A.tmps[19]?.getD undef=.int .i64 (a:Int):=((hS 1 (by decide)).2 19 rfl).trans (hS 1 (by decide)).1
       replace H:Sp w0 (rest) wx:=H
       have hK:Hid (∀(v:Value) (w' : World),v=.bool true->Sp w0 (rest) w'->K (A.put (some 20) v) w'):=Lib.hid hK0
       clear hK0 hN hS hE
       change Oper.wp _ _ A wx K _
       go_step
       exact hK.out _ _ rfl (H)
      ·intro x wx A rest hN hS hE H K hK0
       have e20:A.tmps[20]?.getD undef=.bool true:=((hS 2 (by decide)).2 20 rfl).trans (hS 2 (by decide)).1
       replace H:Sp w0 (rest) wx:=H
       have hK:Hid (∀(v:Value) (w' : World),v=.bool true->Sp w0 (rest) w'->K (A.put (some 21) v) w'):=Lib.hid hK0
       clear hK0 hN hS hE
       change Oper.wp _ _ A wx K _
       go_step
       exact hK.out _ _ rfl (H)
      ·intro x wx A rest hN hS hE H K hK0
       have e3:A.tmps[3]?.getD undef=cmpF:=hN (3,cmpF) (by simp)
       have pg:=(hS 3 (by decide)).1
       replace H:Sp w0 (rest) wx:=H
       have hK:Hid (∀(v:Value) (w' : World),v=cmpF->Sp w0 (rest) w'->K (A.put (some 22) v) w'):=Lib.hid hK0
       clear hK0 hN hS hE
       refine⟨some true,by rw [pg]; rfl,?_⟩
       rw [if_pos rfl]
       change Oper.wp _ _ A wx K _
       go_step
       exact hK.out _ _ rfl (H)
      ·intro x wx A rest hN hS hE H K hK0
       have e0:A.tmps[0]?.getD undef=.slice (some ad) n c:=hN (0,.slice (some ad) n c) (by simp)
       have pg:=(hS 3 (by decide)).1
       replace H:Sp w0 (rest) wx:=H
       have hK:Hid (∀(v:Value) (w' : World),v=.slice (some ad) n c->Sp w0 (rest) w'->K (A.put (some 23) v) w'):=Lib.hid hK0
       clear hK0 hN hS hE
       refine⟨some true,by rw [pg]; rfl,?_⟩
       rw [if_pos rfl]
       change Oper.wp _ _ A wx K _
       go_step
       exact hK.out _ _ rfl (H)
      ·intro x wx A rest hN hS hE H K hK0
       have e9:A.tmps[9]?.getD undef=.int .i64 (j:Int):=hN (9,.int .i64 (j:Int)) (by simp)
       have pg:=(hS 3 (by decide)).1
       replace H:Sp w0 (rest) wx:=H
       have hK:Hid (∀(v:Value) (w' : World),v=.int .i64 (j:Int)->Sp w0 (rest) w'->K (A.put (some 24) v) w'):=Lib.hid hK0
       clear hK0 hN hS hE
       refine⟨some true,by rw [pg]; rfl,?_⟩
       rw [if_pos rfl]
       change Oper.wp _ _ A wx K _
       go_step
       exact hK.out _ _ rfl (H)
      ·intro x wx A rest hN hS hE H K hK0
       have e23:A.tmps[23]?.getD undef=.slice (some ad) n c:=((hS 5 (by decide)).2 23 rfl).trans (hS 5 (by decide)).1
       have e24:A.tmps[24]?.getD undef=.int .i64 (j:Int):=((hS 6 (by decide)).2 24 rfl).trans (hS 6 (by decide)).1
       have pg:=(hS 3 (by decide)).1
       replace H:Sp w0 (rest) wx:=H
       have hK:Hid (∀(v:Value) (w' : World),v=.pointer (some (ad.add (j * 3)))->Sp w0 (rest) w'->K (A.put (some 25) v) w'):=Lib.hid hK0
       clear hK0 hN hS hE
       refine⟨some true,by rw [pg]; rfl,?_⟩
       rw [if_pos rfl]
       change Oper.wp _ _ A wx K _
       go_step
       exact hK.out _ _ rfl (H)
      ·intro x wx A rest hN hS hE H K hK0
       have e25:A.tmps[25]?.getD undef=.pointer (some (ad.add (j * 3))):=((hS 7 (by decide)).2 25 rfl).trans (hS 7 (by decide)).1
       have pg:=(hS 3 (by decide)).1
       replace H:Sp w0 (rest) wx:=H
       have hK:Hid (∀(v:Value) (w' : World),v=px.val->Sp w0 (rest) w'->K (A.put (some 26) v) w'):=Lib.hid hK0
       clear hK0 hN hS
       refine⟨some true,by rw [pg]; rfl,?_⟩
       rw [if_pos rfl]
       change Oper.wp _ _ A wx K _
       exact wp_load_agg 141 _ rfl _ px.cells (ev e25) (by rw [<- HEpx.out]; exact hE (fun w=>∀jj vv,(D.getD j pk0).cells[jj]?=some vv->w.cell? ((ad.add (j * 3)).add jj)=some vv) (fun _ _ H=>RowK.rd H 0 rfl j Bj.out) _ _ H) Tryd.isAgg141 Tryd.sizeOf141 (hK.out _ _ rfl H)
      ·intro x wx A rest hN hS hE H K hK0
       have e0:A.tmps[0]?.getD undef=.slice (some ad) n c:=hN (0,.slice (some ad) n c) (by simp)
       have pg:=(hS 3 (by decide)).1
       replace H:Sp w0 (rest) wx:=H
       have hK:Hid (∀(v:Value) (w' : World),v=.slice (some ad) n c->Sp w0 (rest) w'->K (A.put (some 27) v) w'):=Lib.hid hK0
       clear hK0 hN hS hE
       refine⟨some true,by rw [pg]; rfl,?_⟩
       rw [if_pos rfl]
       change Oper.wp _ _ A wx K _
       go_step
       exact hK.out _ _ rfl (H)
      ·intro x wx A rest hN hS hE H K hK0
       have e9:A.tmps[9]?.getD undef=.int .i64 (j:Int):=hN (9,.int .i64 (j:Int)) (by simp)
       have pg:=(hS 3 (by decide)).1
       replace H:Sp w0 (rest) wx:=H
       have hK:Hid (∀(v:Value) (w' : World),v=.int .i64 (j:Int)->Sp w0 (rest) w'->K (A.put (some 28) v) w'):=Lib.hid hK0
       clear hK0 hN hS hE
       refine⟨some true,by rw [pg]; rfl,?_⟩
       rw [if_pos rfl]
       change Oper.wp _ _ A wx K _
       go_step
       exact hK.out _ _ rfl (H)
      ·intro x wx A rest hN hS hE H K hK0
       have e28:A.tmps[28]?.getD undef=.int .i64 (j:Int):=((hS 10 (by decide)).2 28 rfl).trans (hS 10 (by decide)).1
       have pg:=(hS 3 (by decide)).1
       replace H:Sp w0 (rest) wx:=H
       have hK:Hid (∀(v:Value) (w' : World),v=.int .i64 (j1:Int)->Sp w0 (rest) w'->K (A.put (some 29) v) w'):=Lib.hid hK0
       clear hK0 hN hS hE
       refine⟨some true,by rw [pg]; rfl,?_⟩
       rw [if_pos rfl]
       change Oper.wp _ _ A wx K _
       go_step
       exact hK.out _ _ rfl (H)
      ·intro x wx A rest hN hS hE H K hK0
       have e27:A.tmps[27]?.getD undef=.slice (some ad) n c:=((hS 9 (by decide)).2 27 rfl).trans (hS 9 (by decide)).1
       have e29:A.tmps[29]?.getD undef=.int .i64 (j1:Int):=((hS 11 (by decide)).2 29 rfl).trans (hS 11 (by decide)).1
       have pg:=(hS 3 (by decide)).1
       replace H:Sp w0 (rest) wx:=H
       have hK:Hid (∀(v:Value) (w' : World),v=.pointer (some (ad.add (j1 * 3)))->Sp w0 (rest) w'->K (A.put (some 30) v) w'):=Lib.hid hK0
       clear hK0 hN hS hE
       refine⟨some true,by rw [pg]; rfl,?_⟩
       rw [if_pos rfl]
       change Oper.wp _ _ A wx K _
       go_step
       exact hK.out _ _ rfl (H)
      ·intro x wx A rest hN hS hE H K hK0
       have e30:A.tmps[30]?.getD undef=.pointer (some (ad.add (j1 * 3))):=((hS 12 (by decide)).2 30 rfl).trans (hS 12 (by decide)).1
       have pg:=(hS 3 (by decide)).1
       replace H:Sp w0 (rest) wx:=H
       have hK:Hid (∀(v:Value) (w' : World),v=py.val->Sp w0 (rest) w'->K (A.put (some 31) v) w'):=Lib.hid hK0
       clear hK0 hN hS
       refine⟨some true,by rw [pg]; rfl,?_⟩
       rw [if_pos rfl]
       change Oper.wp _ _ A wx K _
       exact wp_load_agg 141 _ rfl _ py.cells (ev e30) (by rw [<- HEpy.out]; exact hE (fun w=>∀jj vv,(D.getD j1 pk0).cells[jj]?=some vv->w.cell? ((ad.add (j1 * 3)).add jj)=some vv) (fun _ _ H=>RowK.rd H 0 rfl j1 Bj1.out) _ _ H) Tryd.isAgg141 Tryd.sizeOf141 (hK.out _ _ rfl H)
      ·intro x wx A rest hN hS hE H K hK0
       have e22:A.tmps[22]?.getD undef=cmpF:=((hS 4 (by decide)).2 22 rfl).trans (hS 4 (by decide)).1
       have e26:A.tmps[26]?.getD undef=px.val:=((hS 8 (by decide)).2 26 rfl).trans (hS 8 (by decide)).1
       have e31:A.tmps[31]?.getD undef=py.val:=((hS 13 (by decide)).2 31 rfl).trans (hS 13 (by decide)).1
       have pg:=(hS 3 (by decide)).1
       replace H:Sp w0 (rest) wx:=H
       have hK:Hid (∀(v:Value) (w' : World),v=.int .i64 (cmpI px.c py.c)->Sp w0 (rest) w'->K (A.put (some 32) v) w'):=Lib.hid hK0
       clear hK0 hN hS hE
       refine⟨some true,by rw [pg]; rfl,?_⟩
       rw [if_pos rfl]
       change Oper.wp _ _ A wx K _
       unfold cmpF at *
       go_wp2_with fail
       refine(cmpK_ok px py H).mono ?_
       rintro _ w9 ⟨rfl,H9⟩
       exact hK.out _ _ rfl H9
      ·intro x wx A rest hN hS hE H K hK0
       have e32:A.tmps[32]?.getD undef=.int .i64 (cmpI px.c py.c):=((hS 14 (by decide)).2 32 rfl).trans (hS 14 (by decide)).1
       have pg:=(hS 3 (by decide)).1
       replace H:Sp w0 (rest) wx:=H
       have hK:Hid (∀(v:Value) (w' : World),v=.bool r->Sp w0 (rest) w'->K (A.put (some 33) v) w'):=Lib.hid hK0
       clear hK0 hN hS hE
       refine⟨some true,by rw [pg]; rfl,?_⟩
       rw [if_pos rfl]
       change Oper.wp _ _ A wx K _
       go_step
       exact hK.out _ _ rfl (H)
      ·intro x wx A rest hN hS hE H K hK0
       have e21:A.tmps[21]?.getD undef=.bool true:=((hS 3 (by decide)).2 21 rfl).trans (hS 3 (by decide)).1
       have e33:A.tmps[33]?.getD undef=.bool r:=((hS 15 (by decide)).2 33 rfl).trans (hS 15 (by decide)).1
       replace H:Sp w0 (rest) wx:=H
       have hK:Hid (∀(v:Value) (w' : World),v=.bool r->Sp w0 (rest) w'->K (A.put (some 34) v) w'):=Lib.hid hK0
       clear hK0 hN hS hE
       change Oper.wp _ _ A wx K _
       go_step
       exact hK.out _ _ rfl (H)
     case hend =>
      intro x wx A hA hS H
      replace H:Sp w0 (RowK (.slice (some ad) n c) D::L) wx:=H
      have y16:x 16=.bool r:=hS 16 (by decide)
      clear hS
      simp only [putAll,Act.put,List.setIfInBounds_toArray,List.set_cons_succ,List.set_cons_zero,Nat.reduceAdd] at hA
      subst hA
      rw [y16]
      clear y16
      have hr2:r=decide (px.c<py.c):=by
       rw [<- hr]
       unfold cmpI
       by_cases h:px.c<py.c
       ·rw [if_pos h,decide_eq_true h]; rfl
       ·rw [if_neg h,decide_eq_false h]
        split <;> rfl
      cases r
      ·go_wp2_with fail
       go_roundw
       case rel =>
        refine⟨i+1,by go_num,by omega,.inl (by omega),?_⟩
        have hle:py.c<=px.c:=by
         have:=of_decide_eq_false hr2.symm
         omega
        have h9:SS.put keyK S px=S3++[py]++px::S2:=by
         rw [<- HS12.out]
         refine SS.put_at (fun z hz=>?_) HS2.out
         rcases List.mem_append.1 hz with hz | hz
         ·have h8:=HSS.out
          rw [<- HS12.out] at h8
          have h7:=(List.pairwise_append.1 (List.pairwise_append.1 h8).1).2.2 z hz py (List.mem_singleton.2 rfl)
          exact Int.le_trans h7 hle
         ·rw [List.mem_singleton.1 hz]; exact hle
        rw [HP.out,HNX.out,HR.out,h9]
        have e:P++(S3++[py]++px::S2)++R=D:=by rw [<- HD.out]; simp
        rw [e]
        exact H
       case measure=>first | (simp [intOf]; omega) | simp [intOf]
      ·go_wp2_with fail
       refine wp_region_sp (L:=L) (fun ix vx=>([(·=.slice (some ad) n c),(·=.int .i64 (j:Int)),(·=.slice (some ad) n c),(·=.int .i64 (j:Int)),(·=.int .i64 (j1:Int)),(·=.slice (some ad) n c),(·=.int .i64 (j:Int)),(·=.int .i64 (j1:Int)),(·=.pointer (some (ad.add (j1 * 3)))),(·=py.val),(·=.slice (some ad) n c),(·=.int .i64 (j:Int)),(·=.pointer (some (ad.add (j * 3)))),(·=px.val),(·=.pointer (some (ad.add (j * 3)))),(fun _=>True),(·=.pointer (some (ad.add (j1 * 3)))),(fun _=>True)]:List (Value->Prop)).getD ix (fun _=>True) vx)
        (fun ix vx=>([fun _=>[],fun _=>[],fun _=>[],fun _=>[],fun _=>[],fun _=>[],fun _=>[],fun _=>[],fun _=>[],fun _=>[],fun _=>[],fun _=>[],fun _=>[],fun _=>[],fun _=>[],fun _=>[RowK (.slice (some ad) n c) (D.set j py)],fun _=>[],fun _=>[RowK (.slice (some ad) n c) ((D.set j py).set j1 px)]]:List (Value->List Pr)).getD ix (fun _=>[]) vx) (fun ix=>([[],[],[],[],[],[],[],[],[],[],[],[],[],[],[],[RowK (.slice (some ad) n c) D],[],[]]:List (List Pr)).getD ix []) 18 53
        [some 37,some 38,some 39,some 40,some 41,some 42,some 43,some 44,some 45,some 46,some 47,some 48,some 49,some 50,some 51,none,some 52,none]
        [[],[],[],[],[3],[],[],[6],[5,7],[8],[],[],[10,11],[12],[0,1,0,1,5,6,7,8,9,13],[14,9,0,1,5,6,7,8,9,13],[2,4,0,1,2,3,4,5,6,7,8,9,10,11,12,13,14,15],[16,13,15,0,1,2,3,4,5,6,7,8,9,10,11,12,13,14,15]]
        [[],[],[],[],[3],[],[],[6],[5,6,7],[5,6,7,8],[],[],[10,11],[10,11,12],[0,1,5,6,7,8,9,10,11,12,13],[0,1,5,6,7,8,9,10,11,12,13,14],[0,1,2,3,4,5,6,7,8,9,10,11,12,13,14,15],[0,1,2,3,4,5,6,7,8,9,10,11,12,13,14,15,16]]
        [[],[],[],[],[],[],[],[],[],[],[],[],[],[],[],[],[],[15]]
        [[],[],[],[],[],[],[],[],[],[15],[],[],[],[15],[],[],[],[]]
        [(0,.slice (some ad) n c),(9,.int .i64 (j:Int))]
        (by kernel_rfl) rfl (by decide) (by rfl) rfl (by decide +kernel) (by decide +kernel) (by rfl) rfl rfl (by decide) (by simp) (by rfl) (H) ?hstep ?hend
       case hstep =>
        refine⟨?_,⟨?_,⟨?_,⟨?_,⟨?_,⟨?_,⟨?_,⟨?_,⟨?_,⟨?_,⟨?_,⟨?_,⟨?_,⟨?_,⟨?_,⟨?_,⟨?_,⟨?_,trivial⟩⟩⟩⟩⟩⟩⟩⟩⟩⟩⟩⟩⟩⟩⟩⟩⟩⟩
        ·intro x wx A rest hN hS hE H K hK0
         have e0:A.tmps[0]?.getD undef=.slice (some ad) n c:=hN (0,.slice (some ad) n c) (by simp)
         replace H:Sp w0 (rest) wx:=H
         have hK:Hid (∀(v:Value) (w' : World),v=.slice (some ad) n c->Sp w0 (rest) w'->K (A.put (some 37) v) w'):=Lib.hid hK0
         clear hK0 hN hS hE
         change Oper.wp _ _ A wx K _
         go_step
         exact hK.out _ _ rfl (H)
        ·intro x wx A rest hN hS hE H K hK0
         have e9:A.tmps[9]?.getD undef=.int .i64 (j:Int):=hN (9,.int .i64 (j:Int)) (by simp)
         replace H:Sp w0 (rest) wx:=H
         have hK:Hid (∀(v:Value) (w' : World),v=.int .i64 (j:Int)->Sp w0 (rest) w'->K (A.put (some 38) v) w'):=Lib.hid hK0
         clear hK0 hN hS hE
         change Oper.wp _ _ A wx K _
         go_step
         exact hK.out _ _ rfl (H)
        ·intro x wx A rest hN hS hE H K hK0
         have e0:A.tmps[0]?.getD undef=.slice (some ad) n c:=hN (0,.slice (some ad) n c) (by simp)
         replace H:Sp w0 (rest) wx:=H
         have hK:Hid (∀(v:Value) (w' : World),v=.slice (some ad) n c->Sp w0 (rest) w'->K (A.put (some 39) v) w'):=Lib.hid hK0
         clear hK0 hN hS hE
         change Oper.wp _ _ A wx K _
         go_step
         exact hK.out _ _ rfl (H)
        ·intro x wx A rest hN hS hE H K hK0
         have e9:A.tmps[9]?.getD undef=.int .i64 (j:Int):=hN (9,.int .i64 (j:Int)) (by simp)
         replace H:Sp w0 (rest) wx:=H
         have hK:Hid (∀(v:Value) (w' : World),v=.int .i64 (j:Int)->Sp w0 (rest) w'->K (A.put (some 40) v) w'):=Lib.hid hK0
         clear hK0 hN hS hE
         change Oper.wp _ _ A wx K _
         go_step
         exact hK.out _ _ rfl (H)
        ·intro x wx A rest hN hS hE H K hK0
         have e40:A.tmps[40]?.getD undef=.int .i64 (j:Int):=((hS 3 (by decide)).2 40 rfl).trans (hS 3 (by decide)).1
         replace H:Sp w0 (rest) wx:=H
         have hK:Hid (∀(v:Value) (w' : World),v=.int .i64 (j1:Int)->Sp w0 (rest) w'->K (A.put (some 41) v) w'):=Lib.hid hK0
         clear hK0 hN hS hE
         change Oper.wp _ _ A wx K _
         go_step
         exact hK.out _ _ rfl (H)
        ·intro x wx A rest hN hS hE H K hK0
         have e0:A.tmps[0]?.getD undef=.slice (some ad) n c:=hN (0,.slice (some ad) n c) (by simp)
         replace H:Sp w0 (rest) wx:=H
         have hK:Hid (∀(v:Value) (w' : World),v=.slice (some ad) n c->Sp w0 (rest) w'->K (A.put (some 42) v) w'):=Lib.hid hK0
         clear hK0 hN hS hE
         change Oper.wp _ _ A wx K _
         go_step
         exact hK.out _ _ rfl (H)
        ·intro x wx A rest hN hS hE H K hK0
         have e9:A.tmps[9]?.getD undef=.int .i64 (j:Int):=hN (9,.int .i64 (j:Int)) (by simp)
         replace H:Sp w0 (rest) wx:=H
         have hK:Hid (∀(v:Value) (w' : World),v=.int .i64 (j:Int)->Sp w0 (rest) w'->K (A.put (some 43) v) w'):=Lib.hid hK0
         clear hK0 hN hS hE
         change Oper.wp _ _ A wx K _
         go_step
         exact hK.out _ _ rfl (H)
        ·intro x wx A rest hN hS hE H K hK0
         have e43:A.tmps[43]?.getD undef=.int .i64 (j:Int):=((hS 6 (by decide)).2 43 rfl).trans (hS 6 (by decide)).1
         replace H:Sp w0 (rest) wx:=H
         have hK:Hid (∀(v:Value) (w' : World),v=.int .i64 (j1:Int)->Sp w0 (rest) w'->K (A.put (some 44) v) w'):=Lib.hid hK0
         clear hK0 hN hS hE
         change Oper.wp _ _ A wx K _
         go_step
         exact hK.out _ _ rfl (H)
        ·intro x wx A rest hN hS hE H K hK0
         have e42:A.tmps[42]?.getD undef=.slice (some ad) n c:=((hS 5 (by decide)).2 42 rfl).trans (hS 5 (by decide)).1
         have e44:A.tmps[44]?.getD undef=.int .i64 (j1:Int):=((hS 7 (by decide)).2 44 rfl).trans (hS 7 (by decide)).1
         replace H:Sp w0 (rest) wx:=H
         have hK:Hid (∀(v:Value) (w' : World),v=.pointer (some (ad.add (j1 * 3)))->Sp w0 (rest) w'->K (A.put (some 45) v) w'):=Lib.hid hK0
         clear hK0 hN hS hE
         change Oper.wp _ _ A wx K _
         go_step
         exact hK.out _ _ rfl (H)
        ·intro x wx A rest hN hS hE H K hK0
         have e45:A.tmps[45]?.getD undef=.pointer (some (ad.add (j1 * 3))):=((hS 8 (by decide)).2 45 rfl).trans (hS 8 (by decide)).1
         replace H:Sp w0 ((RowK (.slice (some ad) n c) D)::rest) wx:=H
         have hK:Hid (∀(v:Value) (w' : World),v=py.val->Sp w0 ((RowK (.slice (some ad) n c) D)::rest) w'->K (A.put (some 46) v) w'):=Lib.hid hK0
         clear hK0 hN hS hE
         change Oper.wp _ _ A wx K _
         exact wp_load_agg 141 _ rfl _ py.cells (ev e45) (by rw [<- HEpy.out]; exact RowK.rd H 0 rfl j1 Bj1.out) Tryd.isAgg141 Tryd.sizeOf141 (hK.out _ _ rfl H)
        ·intro x wx A rest hN hS hE H K hK0
         have e0:A.tmps[0]?.getD undef=.slice (some ad) n c:=hN (0,.slice (some ad) n c) (by simp)
         replace H:Sp w0 (rest) wx:=H
         have hK:Hid (∀(v:Value) (w' : World),v=.slice (some ad) n c->Sp w0 (rest) w'->K (A.put (some 47) v) w'):=Lib.hid hK0
         clear hK0 hN hS hE
         change Oper.wp _ _ A wx K _
         go_step
         exact hK.out _ _ rfl (H)
        ·intro x wx A rest hN hS hE H K hK0
         have e9:A.tmps[9]?.getD undef=.int .i64 (j:Int):=hN (9,.int .i64 (j:Int)) (by simp)
         replace H:Sp w0 (rest) wx:=H
         have hK:Hid (∀(v:Value) (w' : World),v=.int .i64 (j:Int)->Sp w0 (rest) w'->K (A.put (some 48) v) w'):=Lib.hid hK0
         clear hK0 hN hS hE
         change Oper.wp _ _ A wx K _
         go_step
         exact hK.out _ _ rfl (H)
        ·intro x wx A rest hN hS hE H K hK0
         have e47:A.tmps[47]?.getD undef=.slice (some ad) n c:=((hS 10 (by decide)).2 47 rfl).trans (hS 10 (by decide)).1
         have e48:A.tmps[48]?.getD undef=.int .i64 (j:Int):=((hS 11 (by decide)).2 48 rfl).trans (hS 11 (by decide)).1
         replace H:Sp w0 (rest) wx:=H
         have hK:Hid (∀(v:Value) (w' : World),v=.pointer (some (ad.add (j * 3)))->Sp w0 (rest) w'->K (A.put (some 49) v) w'):=Lib.hid hK0
         clear hK0 hN hS hE
         change Oper.wp _ _ A wx K _
         go_step
         exact hK.out _ _ rfl (H)
        ·intro x wx A rest hN hS hE H K hK0
         have e49:A.tmps[49]?.getD undef=.pointer (some (ad.add (j * 3))):=((hS 12 (by decide)).2 49 rfl).trans (hS 12 (by decide)).1
         replace H:Sp w0 ((RowK (.slice (some ad) n c) D)::rest) wx:=H
         have hK:Hid (∀(v:Value) (w' : World),v=px.val->Sp w0 ((RowK (.slice (some ad) n c) D)::rest) w'->K (A.put (some 50) v) w'):=Lib.hid hK0
         clear hK0 hN hS hE
         change Oper.wp _ _ A wx K _
         exact wp_load_agg 141 _ rfl _ px.cells (ev e49) (by rw [<- HEpx.out]; exact RowK.rd H 0 rfl j Bj.out) Tryd.isAgg141 Tryd.sizeOf141 (hK.out _ _ rfl H)
        ·intro x wx A rest hN hS hE H K hK0
         have e37:A.tmps[37]?.getD undef=.slice (some ad) n c:=((hS 0 (by decide)).2 37 rfl).trans (hS 0 (by decide)).1
         have e38:A.tmps[38]?.getD undef=.int .i64 (j:Int):=((hS 1 (by decide)).2 38 rfl).trans (hS 1 (by decide)).1
         replace H:Sp w0 (rest) wx:=H
         have hK:Hid (∀(v:Value) (w' : World),v=.pointer (some (ad.add (j * 3)))->Sp w0 (rest) w'->K (A.put (some 51) v) w'):=Lib.hid hK0
         clear hK0 hN hS hE
         change Oper.wp _ _ A wx K _
         go_step
         exact hK.out _ _ rfl (H)
        ·intro x wx A rest hN hS hE H K hK0
         have e51:A.tmps[51]?.getD undef=.pointer (some (ad.add (j * 3))):=((hS 14 (by decide)).2 51 rfl).trans (hS 14 (by decide)).1
         have e46:A.tmps[46]?.getD undef=py.val:=((hS 9 (by decide)).2 46 rfl).trans (hS 9 (by decide)).1
         replace H:Sp w0 ((RowK (.slice (some ad) n c) D)::rest) wx:=H
         have hK:Hid (∀(v:Value) (w' : World),True->Sp w0 ((RowK (.slice (some ad) n c) (D.set j py))::rest) w'->K (A.put none v) w'):=Lib.hid hK0
         clear hK0 hN hS hE
         obtain⟨w9,hst,H9⟩:=RowK.store (i:=j) py H Bj.out
         change Oper.wp _ _ A wx K _
         exact wp_store_agg 141 _ _ rfl _ py.cells (ev e51) (ev e46) hst Tryd.sizeOf141 (hK.out undef _ trivial H9)
        ·intro x wx A rest hN hS hE H K hK0
         have e39:A.tmps[39]?.getD undef=.slice (some ad) n c:=((hS 2 (by decide)).2 39 rfl).trans (hS 2 (by decide)).1
         have e41:A.tmps[41]?.getD undef=.int .i64 (j1:Int):=((hS 4 (by decide)).2 41 rfl).trans (hS 4 (by decide)).1
         replace H:Sp w0 (rest) wx:=H
         have hK:Hid (∀(v:Value) (w' : World),v=.pointer (some (ad.add (j1 * 3)))->Sp w0 (rest) w'->K (A.put (some 52) v) w'):=Lib.hid hK0
         clear hK0 hN hS hE
         change Oper.wp _ _ A wx K _
         go_step
         exact hK.out _ _ rfl (H)
        ·intro x wx A rest hN hS hE H K hK0
         have e52:A.tmps[52]?.getD undef=.pointer (some (ad.add (j1 * 3))):=((hS 16 (by decide)).2 52 rfl).trans (hS 16 (by decide)).1
         have e50:A.tmps[50]?.getD undef=px.val:=((hS 13 (by decide)).2 50 rfl).trans (hS 13 (by decide)).1
         replace H:Sp w0 ((RowK (.slice (some ad) n c) (D.set j py))::rest) wx:=H
         have hK:Hid (∀(v:Value) (w' : World),True->Sp w0 ((RowK (.slice (some ad) n c) ((D.set j py).set j1 px))::rest) w'->K (A.put none v) w'):=Lib.hid hK0
         clear hK0 hN hS hE
         obtain⟨w9,hst,H9⟩:=RowK.store (i:=j1) px H (by rw [List.length_set]; exact Bj1.out)
         change Oper.wp _ _ A wx K _
         exact wp_store_agg 141 _ _ rfl _ px.cells (ev e52) (ev e50) hst Tryd.sizeOf141 (hK.out undef _ trivial H9)
       case hend =>
        intro x wx A hA hS H
        replace H:Sp w0 ((RowK (.slice (some ad) n c) ((D.set j py).set j1 px))::L) wx:=H
        clear hS
        simp only [putAll,Act.put,List.setIfInBounds_toArray,List.set_cons_succ,List.set_cons_zero,Nat.reduceAdd] at hA
        subst hA
        go_wp2_with fail
        go_roundw
        case rel =>
         refine⟨j1,S3,py::S2,by go_num,by have:=HJ.out; have:=HJ1.out; omega,Lib.hid (by rw [<- HS12.out]; simp),Lib.hid (fun z hz=>?_),?_⟩
         ·rcases List.mem_cons.1 hz with rfl | hz
          ·exact of_decide_eq_true hr2.symm
          ·exact HS2.out z hz
         ·have hne:j≠j1:=by have:=HJ1.out; omega
          have e:(D.set j py).set j1 px=P++S3++px::(py::S2)++R:=by
           have h1:=SS.sw_app pk0 (P++S3) [] (S2++R) py px (i:=j1) (j:=j) (by rw [List.length_append]; have:=HJ.out; have:=HJ1.out; omega) (by rw [List.length_append]; have:=HJ.out; have:=HJ1.out; simp; omega)
           have e0:P++S3++py::[]++px::(S2++R)=D:=by rw [<- HD.out]; simp
           rw [e0,SS.sw_comm pk0 D j1 j hne.symm] at h1
           unfold SS.sw at h1
           rw [HEpx.out,HEpy.out] at h1
           rw [h1]; simp
          rw [<- e]
          exact H
        case measure =>
         have:=HJ1.out
         first | (simp [intOf]; omega) | simp [intOf]
    ·have k2:¬ (a:Int)<(j:Int):=by omega
     have HD:=Lib.hid hD
     rw [hD] at H
     have HJ:=Lib.hid hj
     clear hD hjx hbj hj
     go_wp2_with fail
     refine wp_region_sp (L:=RowK (.slice (some ad) n c) D::L) (fun ix vx=>([(·=.int .i64 (j:Int)),(·=.int .i64 (a:Int)),(·=.bool false),(·=.bool false),(·=undef),(·=undef),(·=undef),(·=undef),(·=undef),(·=undef),(·=undef),(·=undef),(·=undef),(·=undef),(·=undef),(·=undef),(·=.bool false)]:List (Value->Prop)).getD ix (fun _=>True) vx)
      (fun ix vx=>([fun _=>[],fun _=>[],fun _=>[],fun _=>[],fun _=>[],fun _=>[],fun _=>[],fun _=>[],fun _=>[],fun _=>[],fun _=>[],fun _=>[],fun _=>[],fun _=>[],fun _=>[],fun _=>[],fun _=>[]]:List (Value->List Pr)).getD ix (fun _=>[]) vx) (fun ix=>([[],[],[],[],[],[],[],[],[],[],[],[],[],[],[],[],[]]:List (List Pr)).getD ix []) 17 53
      [some 18,some 19,some 20,some 21,some 22,some 23,some 24,some 25,some 26,some 27,some 28,some 29,some 30,some 31,some 32,some 33,some 34]
      [[],[],[0,1],[2],[3],[3],[3],[5,6,3],[7,3],[3],[3],[10,3],[9,11,3],[12,3],[4,8,13,3,3],[14,3],[3,15]]
      [[],[],[0,1],[0,1,2],[0,1,2,3],[0,1,2,3],[0,1,2,3],[0,1,2,3,5,6],[0,1,2,3,5,6,7],[0,1,2,3],[0,1,2,3],[0,1,2,3,10],[0,1,2,3,9,10,11],[0,1,2,3,9,10,11,12],[0,1,2,3,4,5,6,7,8,9,10,11,12,13],[0,1,2,3,4,5,6,7,8,9,10,11,12,13,14],[0,1,2,3,4,5,6,7,8,9,10,11,12,13,14,15]]
      [[],[],[],[],[],[],[],[],[],[],[],[],[],[],[],[],[]]
      [[],[],[],[],[],[],[],[],[],[],[],[],[],[],[],[],[]]
      [(0,.slice (some ad) n c),(1,.int .i64 (a:Int)),(3,cmpF),(9,.int .i64 (j:Int))]
      (by kernel_rfl) rfl (by decide) (by rfl) rfl (by decide +kernel) (by decide +kernel) (by rfl) rfl rfl (by decide) (by simp) (by rfl) (H) ?hstep ?hend
     case hstep =>
      refine⟨?_,⟨?_,⟨?_,⟨?_,⟨?_,⟨?_,⟨?_,⟨?_,⟨?_,⟨?_,⟨?_,⟨?_,⟨?_,⟨?_,⟨?_,⟨?_,⟨?_,trivial⟩⟩⟩⟩⟩⟩⟩⟩⟩⟩⟩⟩⟩⟩⟩⟩⟩
      ·intro x wx A rest hN hS hE H K hK0
       have e9:A.tmps[9]?.getD undef=.int .i64 (j:Int):=hN (9,.int .i64 (j:Int)) (by simp)
       replace H:Sp w0 (rest) wx:=H
       have hK:Hid (∀(v:Value) (w' : World),v=.int .i64 (j:Int)->Sp w0 (rest) w'->K (A.put (some 18) v) w'):=Lib.hid hK0
       clear hK0 hN hS hE
       change Oper.wp _ _ A wx K _
       go_step
       exact hK.out _ _ rfl (H)
      ·intro x wx A rest hN hS hE H K hK0
       have e1:A.tmps[1]?.getD undef=.int .i64 (a:Int):=hN (1,.int .i64 (a:Int)) (by simp)
       replace H:Sp w0 (rest) wx:=H
       have hK:Hid (∀(v:Value) (w' : World),v=.int .i64 (a:Int)->Sp w0 (rest) w'->K (A.put (some 19) v) w'):=Lib.hid hK0
       clear hK0 hN hS hE
       change Oper.wp _ _ A wx K _
       go_step
       exact hK.out _ _ rfl (H)
      ·intro x wx A rest hN hS hE H K hK0
       have e18:A.tmps[18]?.getD undef=.int .i64 (j:Int):=((hS 0 (by decide)).2 18 rfl).trans (hS 0 (by decide)).1
       have e19:A.tmps[19]?.getD undef=.int .i64 (a:Int):=((hS 1 (by decide)).2 19 rfl).trans (hS 1 (by decide)).1
       replace H:Sp w0 (rest) wx:=H
       have hK:Hid (∀(v:Value) (w' : World),v=.bool false->Sp w0 (rest) w'->K (A.put (some 20) v) w'):=Lib.hid hK0
       clear hK0 hN hS hE
       change Oper.wp _ _ A wx K _
       go_step
       exact hK.out _ _ rfl (H)
      ·intro x wx A rest hN hS hE H K hK0
       have e20:A.tmps[20]?.getD undef=.bool false:=((hS 2 (by decide)).2 20 rfl).trans (hS 2 (by decide)).1
       replace H:Sp w0 (rest) wx:=H
       have hK:Hid (∀(v:Value) (w' : World),v=.bool false->Sp w0 (rest) w'->K (A.put (some 21) v) w'):=Lib.hid hK0
       clear hK0 hN hS hE
       change Oper.wp _ _ A wx K _
       go_step
       exact hK.out _ _ rfl (H)
      ·intro x wx A rest hN hS hE H K hK0
       have e3:A.tmps[3]?.getD undef=cmpF:=hN (3,cmpF) (by simp)
       have pg:=(hS 3 (by decide)).1
       replace H:Sp w0 (rest) wx:=H
       have hK:Hid (∀(v:Value) (w' : World),v=undef->Sp w0 (rest) w'->K (A.put (some 22) v) w'):=Lib.hid hK0
       clear hK0 hN hS hE
       refine⟨some false,by rw [pg]; rfl,?_⟩
       rw [if_neg (by decide)]
       exact hK.out _ _ rfl (H)
      ·intro x wx A rest hN hS hE H K hK0
       have e0:A.tmps[0]?.getD undef=.slice (some ad) n c:=hN (0,.slice (some ad) n c) (by simp)
       have pg:=(hS 3 (by decide)).1
       replace H:Sp w0 (rest) wx:=H
       have hK:Hid (∀(v:Value) (w' : World),v=undef->Sp w0 (rest) w'->K (A.put (some 23) v) w'):=Lib.hid hK0
       clear hK0 hN hS hE
       refine⟨some false,by rw [pg]; rfl,?_⟩
       rw [if_neg (by decide)]
       exact hK.out _ _ rfl (H)
      ·intro x wx A rest hN hS hE H K hK0
       have e9:A.tmps[9]?.getD undef=.int .i64 (j:Int):=hN (9,.int .i64 (j:Int)) (by simp)
       have pg:=(hS 3 (by decide)).1
       replace H:Sp w0 (rest) wx:=H
       have hK:Hid (∀(v:Value) (w' : World),v=undef->Sp w0 (rest) w'->K (A.put (some 24) v) w'):=Lib.hid hK0
       clear hK0 hN hS hE
       refine⟨some false,by rw [pg]; rfl,?_⟩
       rw [if_neg (by decide)]
       exact hK.out _ _ rfl (H)
      ·intro x wx A rest hN hS hE H K hK0
       have e23:A.tmps[23]?.getD undef=undef:=((hS 5 (by decide)).2 23 rfl).trans (hS 5 (by decide)).1
       have e24:A.tmps[24]?.getD undef=undef:=((hS 6 (by decide)).2 24 rfl).trans (hS 6 (by decide)).1
       have pg:=(hS 3 (by decide)).1
       replace H:Sp w0 (rest) wx:=H
       have hK:Hid (∀(v:Value) (w' : World),v=undef->Sp w0 (rest) w'->K (A.put (some 25) v) w'):=Lib.hid hK0
       clear hK0 hN hS hE
       refine⟨some false,by rw [pg]; rfl,?_⟩
       rw [if_neg (by decide)]
       exact hK.out _ _ rfl (H)
      ·intro x wx A rest hN hS hE H K hK0
       have e25:A.tmps[25]?.getD undef=undef:=((hS 7 (by decide)).2 25 rfl).trans (hS 7 (by decide)).1
       have pg:=(hS 3 (by decide)).1
       replace H:Sp w0 (rest) wx:=H
       have hK:Hid (∀(v:Value) (w' : World),v=undef->Sp w0 (rest) w'->K (A.put (some 26) v) w'):=Lib.hid hK0
       clear hK0 hN hS
       refine⟨some false,by rw [pg]; rfl,?_⟩
       rw [if_neg (by decide)]
       exact hK.out _ _ rfl (H)
      ·intro x wx A rest hN hS hE H K hK0
       have e0:A.tmps[0]?.getD undef=.slice (some ad) n c:=hN (0,.slice (some ad) n c) (by simp)
       have pg:=(hS 3 (by decide)).1
       replace H:Sp w0 (rest) wx:=H
       have hK:Hid (∀(v:Value) (w' : World),v=undef->Sp w0 (rest) w'->K (A.put (some 27) v) w'):=Lib.hid hK0
       clear hK0 hN hS hE
       refine⟨some false,by rw [pg]; rfl,?_⟩
       rw [if_neg (by decide)]
       exact hK.out _ _ rfl (H)
      ·intro x wx A rest hN hS hE H K hK0
       have e9:A.tmps[9]?.getD undef=.int .i64 (j:Int):=hN (9,.int .i64 (j:Int)) (by simp)
       have pg:=(hS 3 (by decide)).1
       replace H:Sp w0 (rest) wx:=H
       have hK:Hid (∀(v:Value) (w' : World),v=undef->Sp w0 (rest) w'->K (A.put (some 28) v) w'):=Lib.hid hK0
       clear hK0 hN hS hE
       refine⟨some false,by rw [pg]; rfl,?_⟩
       rw [if_neg (by decide)]
       exact hK.out _ _ rfl (H)
      ·intro x wx A rest hN hS hE H K hK0
       have e28:A.tmps[28]?.getD undef=undef:=((hS 10 (by decide)).2 28 rfl).trans (hS 10 (by decide)).1
       have pg:=(hS 3 (by decide)).1
       replace H:Sp w0 (rest) wx:=H
       have hK:Hid (∀(v:Value) (w' : World),v=undef->Sp w0 (rest) w'->K (A.put (some 29) v) w'):=Lib.hid hK0
       clear hK0 hN hS hE
       refine⟨some false,by rw [pg]; rfl,?_⟩
       rw [if_neg (by decide)]
       exact hK.out _ _ rfl (H)
      ·intro x wx A rest hN hS hE H K hK0
       have e27:A.tmps[27]?.getD undef=undef:=((hS 9 (by decide)).2 27 rfl).trans (hS 9 (by decide)).1
       have e29:A.tmps[29]?.getD undef=undef:=((hS 11 (by decide)).2 29 rfl).trans (hS 11 (by decide)).1
       have pg:=(hS 3 (by decide)).1
       replace H:Sp w0 (rest) wx:=H
       have hK:Hid (∀(v:Value) (w' : World),v=undef->Sp w0 (rest) w'->K (A.put (some 30) v) w'):=Lib.hid hK0
       clear hK0 hN hS hE
       refine⟨some false,by rw [pg]; rfl,?_⟩
       rw [if_neg (by decide)]
       exact hK.out _ _ rfl (H)
      ·intro x wx A rest hN hS hE H K hK0
       have e30:A.tmps[30]?.getD undef=undef:=((hS 12 (by decide)).2 30 rfl).trans (hS 12 (by decide)).1
       have pg:=(hS 3 (by decide)).1
       replace H:Sp w0 (rest) wx:=H
       have hK:Hid (∀(v:Value) (w' : World),v=undef->Sp w0 (rest) w'->K (A.put (some 31) v) w'):=Lib.hid hK0
       clear hK0 hN hS
       refine⟨some false,by rw [pg]; rfl,?_⟩
       rw [if_neg (by decide)]
       exact hK.out _ _ rfl (H)
      ·intro x wx A rest hN hS hE H K hK0
       have e22:A.tmps[22]?.getD undef=undef:=((hS 4 (by decide)).2 22 rfl).trans (hS 4 (by decide)).1
       have e26:A.tmps[26]?.getD undef=undef:=((hS 8 (by decide)).2 26 rfl).trans (hS 8 (by decide)).1
       have e31:A.tmps[31]?.getD undef=undef:=((hS 13 (by decide)).2 31 rfl).trans (hS 13 (by decide)).1
       have pg:=(hS 3 (by decide)).1
       replace H:Sp w0 (rest) wx:=H
       have hK:Hid (∀(v:Value) (w' : World),v=undef->Sp w0 (rest) w'->K (A.put (some 32) v) w'):=Lib.hid hK0
       clear hK0 hN hS hE
       refine⟨some false,by rw [pg]; rfl,?_⟩
       rw [if_neg (by decide)]
       exact hK.out _ _ rfl (H)
      ·intro x wx A rest hN hS hE H K hK0
       have e32:A.tmps[32]?.getD undef=undef:=((hS 14 (by decide)).2 32 rfl).trans (hS 14 (by decide)).1
       have pg:=(hS 3 (by decide)).1
       replace H:Sp w0 (rest) wx:=H
       have hK:Hid (∀(v:Value) (w' : World),v=undef->Sp w0 (rest) w'->K (A.put (some 33) v) w'):=Lib.hid hK0
       clear hK0 hN hS hE
       refine⟨some false,by rw [pg]; rfl,?_⟩
       rw [if_neg (by decide)]
       exact hK.out _ _ rfl (H)
      ·intro x wx A rest hN hS hE H K hK0
       have e21:A.tmps[21]?.getD undef=.bool false:=((hS 3 (by decide)).2 21 rfl).trans (hS 3 (by decide)).1
       have e33:A.tmps[33]?.getD undef=undef:=((hS 15 (by decide)).2 33 rfl).trans (hS 15 (by decide)).1
       replace H:Sp w0 (rest) wx:=H
       have hK:Hid (∀(v:Value) (w' : World),v=.bool false->Sp w0 (rest) w'->K (A.put (some 34) v) w'):=Lib.hid hK0
       clear hK0 hN hS hE
       change Oper.wp _ _ A wx K _
       go_step
       exact hK.out _ _ rfl (H)
     case hend =>
      intro x wx A hA hS H
      replace H:Sp w0 (RowK (.slice (some ad) n c) D::L) wx:=H
      have y16:x 16=.bool false:=hS 16 (by decide)
      clear hS
      simp only [putAll,Act.put,List.setIfInBounds_toArray,List.set_cons_succ,List.set_cons_zero,Nat.reduceAdd] at hA
      subst hA
      rw [y16]
      clear y16
      go_wp2_with fail
      go_roundw
      case rel =>
       refine⟨i+1,by go_num,by omega,.inl (by omega),?_⟩
       have h0:S1=[]:=List.eq_nil_of_length_eq_zero (by have:=HJ.out; omega)
       subst h0
       have h9:SS.put keyK S px=px::S2:=by
        rw [<- HS12.out]
        exact SS.put_front HS2.out
       rw [HP.out,HNX.out,HR.out,h9]
       have e:P++px::S2++R=D:=by rw [<- HD.out]; simp
       rw [e]
       exact H
      case measure=>first | (simp [intOf]; omega) | simp [intOf]
  ·have k1:¬ (i:Int)<(b:Int):=by omega
   go_wp2_with fail
   go_end0
   refine⟨rfl,?_⟩
   have e:l.take a++SS.isort keyK ((l.drop a).take (i - a))++l.drop i=l.take a++SS.isort keyK ((l.drop a).take (b - a))++l.drop b:=by
    rcases Nat.lt_or_ge b i with h | h
    ·obtain rfl:i=a+1:=by omega
     obtain rfl:b=a:=by omega
     have e1:SS.isort keyK ((l.drop b).take (b+1 - b))=(l.drop b).take 1:=by
      rw [show b+1 - b=1 by omega]
      rcases l.drop b with _ | ⟨x,m⟩
      ·rfl
      ·rfl
     rw [e1,Nat.sub_self,List.take_zero,List.append_assoc,<- List.drop_drop,List.take_append_drop]
     simp [SS.isort,SS.mrg]
    ·obtain rfl:i=b:=by omega
     rfl
   rw [<- List.append_assoc,<- e]
   exact H
end Go.Proofs.YtloijdbkikccgaaDoor

