/- A pack of texts: SortC. -/
import Derived.Test.YtloijdbkikccgaaDoorPk04
namespace Go.Proofs.YtloijdbkikccgaaDoor
open Go.RowKit
set_option maxRecDepth 100000 in
set_option maxHeartbeats 4000000 in
theorem swapRange_ok (ad:Addr) (n c:Nat) (X A M B Y:List PK) (a b m:Nat) {w0 w:World} {L:List Pr} (H:Sp w0 (RowK (.slice (some ad) n c) (X++A++M++B++Y)::L) w) (hn:n=X.length+A.length+M.length+B.length+Y.length) (hl:n<=1000000) (ha:X.length=a) (hm:A.length=m) (hm2:B.length=m) (hb:a+m+M.length=b) :
  Calls Tryd.prog 168 #[.slice (some ad) n c,.int .i64 (a:Int),.int .i64 (b:Int),.int .i64 (m:Int),cmpF] w fun e w'=>e=.returned (.tuple #[]) /\
   Sp w0 (RowK (.slice (some ad) n c) (X++B++M++A++Y)::L) w':=by
 have HN:=Lib.hid hn
 have HA:=Lib.hid ha
 have HM:=Lib.hid hm
 have HM2:=Lib.hid hm2
 have HB:=Lib.hid hb
 have hbn:b+m<=n:=by omega
 have han:a+m<=n:=by omega
 obtain⟨T,hT⟩:∃T,X++B++M++A++Y=T:=⟨_,rfl⟩
 rw [hT]
 have HT:=Lib.hid hT
 clear hT hn ha hm hm2 hb
 go_enter Tryd.func168,Tryd.ntmps168
 go_wp2_with fail
 go_loopw [10] (fun iv wr=>∃(i:Nat) (A1 A2 B1 B2:List PK),iv=.int .i64 (i:Int)/\i<=m/\Hid (A1.length=i/\B1.length=i/\A1++A2=A/\B1++B2=B)/\Sp w0 (RowK (.slice (some ad) n c) (X++B1++A2++M++A1++B2++Y)::L) wr) (fun iv _=>m - (intOf iv).toNat)
 case atStart =>
  refine⟨0,[],A,[],B,rfl,Nat.zero_le _,Lib.hid ⟨rfl,rfl,rfl,rfl⟩,?_⟩
  rw [List.append_nil,List.append_nil]
  exact H
 case round =>
  clear H
  obtain⟨i,A1,A2,B1,B2,rfl,him,HE,H⟩:=hrel
  by_cases hin:i<m
  ·have k1:(i:Int)<(m:Int):=by omega
   obtain⟨p,A3,rfl⟩:∃p A3,A2=p::A3:=by
    cases A2 with
    | nil =>
     have:=HE.out
     have h1:=congrArg List.length this.2.2.1
     rw [List.length_append,HM.out,this.1] at h1
     simp at h1; omega
    | cons p A3=>exact⟨p,A3,rfl⟩
   obtain⟨q,B3,rfl⟩:∃p B3,B2=p::B3:=by
    cases B2 with
    | nil =>
     have:=HE.out
     have h1:=congrArg List.length this.2.2.2
     rw [List.length_append,HM2.out,this.2.1] at h1
     simp at h1; omega
    | cons p B3=>exact⟨p,B3,rfl⟩
   obtain⟨D,hD⟩:∃D,X++B1++p::A3++M++A1++q::B3++Y=D:=⟨_,rfl⟩
   rw [hD] at H
   obtain⟨su,hu⟩:∃su,a+i=su:=⟨_,rfl⟩
   obtain⟨sv,hv⟩:∃sv,b+i=sv:=⟨_,rfl⟩
   have hA3:A3.length+(i+1)=m:=by
    have h1:=congrArg List.length HE.out.2.2.1
    rw [List.length_append,HM.out,HE.out.1,List.length_cons] at h1; omega
   have hB3:B3.length+(i+1)=m:=by
    have h1:=congrArg List.length HE.out.2.2.2
    rw [List.length_append,HM2.out,HE.out.2.1,List.length_cons] at h1; omega
   have hlu:(X++B1).length=su:=by rw [List.length_append,HA.out,HE.out.2.1,hu]
   have hlv:(X++B1++p::A3++M++A1).length=sv:=by
    have:=HB.out
    simp only [List.length_append,List.length_cons,HA.out,HE.out.1,HE.out.2.1]; omega
   have hDl:D.length=n:=by
    have:=HN.out; have:=HA.out; have:=HM.out; have:=HM2.out; have:=HE.out.1; have:=HE.out.2.1
    rw [<- hD]; simp only [List.length_append,List.length_cons]; omega
   have hp:D.getD su pk0=p:=by
    rw [<- hD,show X++B1++p::A3++M++A1++q::B3++Y=(X++B1)++p::(A3++M++A1++q::B3++Y) by simp]
    exact SS.getD_app pk0 _ _ _ hlu
   have hq:D.getD sv pk0=q:=by
    rw [<- hD,List.append_assoc (X++B1++p::A3++M++A1)]
    exact SS.getD_app pk0 _ _ _ hlv
   have HEp:=Lib.hid hp
   have HEq:=Lib.hid hq
   have hbu:su<D.length:=by omega
   have hbv:sv<D.length:=by omega
   have Bsu:=Lib.hid hbu
   have Bsv:=Lib.hid hbv
   have y1:(a:Int)+(i:Int)=(su:Int):=by omega
   have y2:(b:Int)+(i:Int)=(sv:Int):=by omega
   have k2:(su:Int)<(n:Int):=by omega
   have k3:(sv:Int)<(n:Int):=by omega
   have k4:su<=1000000:=by omega
   have k5:sv<=1000000:=by omega
   have hres:(D.set su q).set sv p=X++(B1++[q])++A3++M++(A1++[p])++B3++Y:=by
    have h1:=SS.sw_app pk0 (X++B1) (A3++M++A1) (B3++Y) p q hlu (j:=sv) (by
     have:=congrArg id hlv
     simp only [List.length_append,List.length_cons,id] at this hlu ⊢; omega)
    have e0:X++B1++p::(A3++M++A1)++q::(B3++Y)=D:=by rw [<- hD]; simp
    rw [e0] at h1
    unfold SS.sw at h1
    rw [hp,hq] at h1
    rw [h1]; simp
   have HR:=Lib.hid hres
   clear hres hp hq hbu hbv hD hDl hu hv hlu hlv hA3 hB3
   go_wp2_with fail
   refine wp_region_sp (L:=L) (fun ix vx=>([(·=.slice (some ad) n c),(·=.int .i64 (a:Int)),(·=.int .i64 (i:Int)),(·=.int .i64 (su:Int)),(·=.slice (some ad) n c),(·=.int .i64 (b:Int)),(·=.int .i64 (i:Int)),(·=.int .i64 (sv:Int)),(·=.slice (some ad) n c),(·=.int .i64 (b:Int)),(·=.int .i64 (i:Int)),(·=.int .i64 (sv:Int)),(·=.pointer (some (ad.add (sv * 3)))),(·=q.val),(·=.slice (some ad) n c),(·=.int .i64 (a:Int)),(·=.int .i64 (i:Int)),(·=.int .i64 (su:Int)),(·=.pointer (some (ad.add (su * 3)))),(·=p.val),(·=.pointer (some (ad.add (su * 3)))),(fun _=>True),(·=.pointer (some (ad.add (sv * 3)))),(fun _=>True)]:List (Value->Prop)).getD ix (fun _=>True) vx)
    (fun ix vx=>([fun _=>[],fun _=>[],fun _=>[],fun _=>[],fun _=>[],fun _=>[],fun _=>[],fun _=>[],fun _=>[],fun _=>[],fun _=>[],fun _=>[],fun _=>[],fun _=>[],fun _=>[],fun _=>[],fun _=>[],fun _=>[],fun _=>[],fun _=>[],fun _=>[],fun _=>[RowK (.slice (some ad) n c) (D.set su q)],fun _=>[],fun _=>[RowK (.slice (some ad) n c) ((D.set su q).set sv p)]]:List (Value->List Pr)).getD ix (fun _=>[]) vx) (fun ix=>([[],[],[],[],[],[],[],[],[],[],[],[],[],[],[],[],[],[],[],[],[],[RowK (.slice (some ad) n c) D],[],[]]:List (List Pr)).getD ix []) 24 38
    [some 16,some 17,some 18,some 19,some 20,some 21,some 22,some 23,some 24,some 25,some 26,some 27,some 28,some 29,some 30,some 31,some 32,some 33,some 34,some 35,some 36,none,some 37,none]
    [[],[],[],[1,2],[],[],[],[5,6],[],[],[],[9,10],[8,11],[12],[],[],[],[15,16],[14,17],[18],[0,3,0,1,2,3,8,9,10,11,12,13,19],[20,13,0,1,2,3,8,9,10,11,12,13,19],[4,7,0,1,2,3,4,5,6,7,8,9,10,11,12,13,14,15,16,17,18,19,20,21],[22,19,21,0,1,2,3,4,5,6,7,8,9,10,11,12,13,14,15,16,17,18,19,20,21]]
    [[],[],[],[1,2],[],[],[],[5,6],[],[],[],[9,10],[8,9,10,11],[8,9,10,11,12],[],[],[],[15,16],[14,15,16,17],[14,15,16,17,18],[0,1,2,3,8,9,10,11,12,13,14,15,16,17,18,19],[0,1,2,3,8,9,10,11,12,13,14,15,16,17,18,19,20],[0,1,2,3,4,5,6,7,8,9,10,11,12,13,14,15,16,17,18,19,20,21],[0,1,2,3,4,5,6,7,8,9,10,11,12,13,14,15,16,17,18,19,20,21,22]]
    [[],[],[],[],[],[],[],[],[],[],[],[],[],[],[],[],[],[],[],[],[],[],[],[21]]
    [[],[],[],[],[],[],[],[],[],[],[],[],[],[21],[],[],[],[],[],[21],[],[],[],[]]
    [(0,.slice (some ad) n c),(1,.int .i64 (a:Int)),(2,.int .i64 (b:Int)),(10,.int .i64 (i:Int))]
    (by kernel_rfl) rfl (by decide) (by rfl) rfl (by decide +kernel) (by decide +kernel) (by rfl) rfl rfl (by decide) (by simp) (by rfl) (H) ?hstep ?hend
   case hstep =>
    refine⟨?_,⟨?_,⟨?_,⟨?_,⟨?_,⟨?_,⟨?_,⟨?_,⟨?_,⟨?_,⟨?_,⟨?_,⟨?_,⟨?_,⟨?_,⟨?_,⟨?_,⟨?_,⟨?_,⟨?_,⟨?_,⟨?_,⟨?_,⟨?_,trivial⟩⟩⟩⟩⟩⟩⟩⟩⟩⟩⟩⟩⟩⟩⟩⟩⟩⟩⟩⟩⟩⟩⟩⟩
    ·intro x wx A rest hN hS hE H K hK0
     have e0:A.tmps[0]?.getD undef=.slice (some ad) n c:=hN (0,.slice (some ad) n c) (by simp)
     replace H:Sp w0 (rest) wx:=H
     have hK:Hid (∀(v:Value) (w' : World),v=.slice (some ad) n c->Sp w0 (rest) w'->K (A.put (some 16) v) w'):=Lib.hid hK0
     clear hK0 hN hS hE
     change Oper.wp _ _ A wx K _
     go_step
     exact hK.out _ _ rfl (H)
    ·intro x wx A rest hN hS hE H K hK0
     have e1:A.tmps[1]?.getD undef=.int .i64 (a:Int):=hN (1,.int .i64 (a:Int)) (by simp)
     replace H:Sp w0 (rest) wx:=H
     have hK:Hid (∀(v:Value) (w' : World),v=.int .i64 (a:Int)->Sp w0 (rest) w'->K (A.put (some 17) v) w'):=Lib.hid hK0
     clear hK0 hN hS hE
     change Oper.wp _ _ A wx K _
     go_step
     exact hK.out _ _ rfl (H)
    ·intro x wx A rest hN hS hE H K hK0
     have e10:A.tmps[10]?.getD undef=.int .i64 (i:Int):=hN (10,.int .i64 (i:Int)) (by simp)
     replace H:Sp w0 (rest) wx:=H
     have hK:Hid (∀(v:Value) (w' : World),v=.int .i64 (i:Int)->Sp w0 (rest) w'->K (A.put (some 18) v) w'):=Lib.hid hK0
     clear hK0 hN hS hE
     change Oper.wp _ _ A wx K _
     go_step
     exact hK.out _ _ rfl (H)
    ·intro x wx A rest hN hS hE H K hK0
     have e17:A.tmps[17]?.getD undef=.int .i64 (a:Int):=((hS 1 (by decide)).2 17 rfl).trans (hS 1 (by decide)).1
     have e18:A.tmps[18]?.getD undef=.int .i64 (i:Int):=((hS 2 (by decide)).2 18 rfl).trans (hS 2 (by decide)).1
     replace H:Sp w0 (rest) wx:=H
     have hK:Hid (∀(v:Value) (w' : World),v=.int .i64 (su:Int)->Sp w0 (rest) w'->K (A.put (some 19) v) w'):=Lib.hid hK0
     clear hK0 hN hS hE
     change Oper.wp _ _ A wx K _
     go_step
     exact hK.out _ _ rfl (H)
    ·intro x wx A rest hN hS hE H K hK0
     have e0:A.tmps[0]?.getD undef=.slice (some ad) n c:=hN (0,.slice (some ad) n c) (by simp)
     replace H:Sp w0 (rest) wx:=H
     have hK:Hid (∀(v:Value) (w' : World),v=.slice (some ad) n c->Sp w0 (rest) w'->K (A.put (some 20) v) w'):=Lib.hid hK0
     clear hK0 hN hS hE
     change Oper.wp _ _ A wx K _
     go_step
     exact hK.out _ _ rfl (H)
    ·intro x wx A rest hN hS hE H K hK0
     have e2:A.tmps[2]?.getD undef=.int .i64 (b:Int):=hN (2,.int .i64 (b:Int)) (by simp)
     replace H:Sp w0 (rest) wx:=H
     have hK:Hid (∀(v:Value) (w' : World),v=.int .i64 (b:Int)->Sp w0 (rest) w'->K (A.put (some 21) v) w'):=Lib.hid hK0
     clear hK0 hN hS hE
     change Oper.wp _ _ A wx K _
     go_step
     exact hK.out _ _ rfl (H)
    ·intro x wx A rest hN hS hE H K hK0
     have e10:A.tmps[10]?.getD undef=.int .i64 (i:Int):=hN (10,.int .i64 (i:Int)) (by simp)
     replace H:Sp w0 (rest) wx:=H
     have hK:Hid (∀(v:Value) (w' : World),v=.int .i64 (i:Int)->Sp w0 (rest) w'->K (A.put (some 22) v) w'):=Lib.hid hK0
     clear hK0 hN hS hE
     change Oper.wp _ _ A wx K _
     go_step
     exact hK.out _ _ rfl (H)
    ·intro x wx A rest hN hS hE H K hK0
     have e21:A.tmps[21]?.getD undef=.int .i64 (b:Int):=((hS 5 (by decide)).2 21 rfl).trans (hS 5 (by decide)).1
     have e22:A.tmps[22]?.getD undef=.int .i64 (i:Int):=((hS 6 (by decide)).2 22 rfl).trans (hS 6 (by decide)).1
     replace H:Sp w0 (rest) wx:=H
     have hK:Hid (∀(v:Value) (w' : World),v=.int .i64 (sv:Int)->Sp w0 (rest) w'->K (A.put (some 23) v) w'):=Lib.hid hK0
     clear hK0 hN hS hE
     change Oper.wp _ _ A wx K _
     go_step
     exact hK.out _ _ rfl (H)
    ·intro x wx A rest hN hS hE H K hK0
     have e0:A.tmps[0]?.getD undef=.slice (some ad) n c:=hN (0,.slice (some ad) n c) (by simp)
     replace H:Sp w0 (rest) wx:=H
     have hK:Hid (∀(v:Value) (w' : World),v=.slice (some ad) n c->Sp w0 (rest) w'->K (A.put (some 24) v) w'):=Lib.hid hK0
     clear hK0 hN hS hE
     change Oper.wp _ _ A wx K _
     go_step
     exact hK.out _ _ rfl (H)
    ·intro x wx A rest hN hS hE H K hK0
     have e2:A.tmps[2]?.getD undef=.int .i64 (b:Int):=hN (2,.int .i64 (b:Int)) (by simp)
     replace H:Sp w0 (rest) wx:=H
     have hK:Hid (∀(v:Value) (w' : World),v=.int .i64 (b:Int)->Sp w0 (rest) w'->K (A.put (some 25) v) w'):=Lib.hid hK0
     clear hK0 hN hS hE
     change Oper.wp _ _ A wx K _
     go_step
     exact hK.out _ _ rfl (H)
    ·intro x wx A rest hN hS hE H K hK0
     have e10:A.tmps[10]?.getD undef=.int .i64 (i:Int):=hN (10,.int .i64 (i:Int)) (by simp)
     replace H:Sp w0 (rest) wx:=H
     have hK:Hid (∀(v:Value) (w' : World),v=.int .i64 (i:Int)->Sp w0 (rest) w'->K (A.put (some 26) v) w'):=Lib.hid hK0
     clear hK0 hN hS hE
     change Oper.wp _ _ A wx K _
     go_step
     exact hK.out _ _ rfl (H)
    ·intro x wx A rest hN hS hE H K hK0
     have e25:A.tmps[25]?.getD undef=.int .i64 (b:Int):=((hS 9 (by decide)).2 25 rfl).trans (hS 9 (by decide)).1
     have e26:A.tmps[26]?.getD undef=.int .i64 (i:Int):=((hS 10 (by decide)).2 26 rfl).trans (hS 10 (by decide)).1
     replace H:Sp w0 (rest) wx:=H
     have hK:Hid (∀(v:Value) (w' : World),v=.int .i64 (sv:Int)->Sp w0 (rest) w'->K (A.put (some 27) v) w'):=Lib.hid hK0
     clear hK0 hN hS hE
     change Oper.wp _ _ A wx K _
     go_step
     exact hK.out _ _ rfl (H)
    ·intro x wx A rest hN hS hE H K hK0
     have e24:A.tmps[24]?.getD undef=.slice (some ad) n c:=((hS 8 (by decide)).2 24 rfl).trans (hS 8 (by decide)).1
     have e27:A.tmps[27]?.getD undef=.int .i64 (sv:Int):=((hS 11 (by decide)).2 27 rfl).trans (hS 11 (by decide)).1
     replace H:Sp w0 (rest) wx:=H
     have hK:Hid (∀(v:Value) (w' : World),v=.pointer (some (ad.add (sv * 3)))->Sp w0 (rest) w'->K (A.put (some 28) v) w'):=Lib.hid hK0
     clear hK0 hN hS hE
     change Oper.wp _ _ A wx K _
     go_step
     exact hK.out _ _ rfl (H)
    ·intro x wx A rest hN hS hE H K hK0
     have e28:A.tmps[28]?.getD undef=.pointer (some (ad.add (sv * 3))):=((hS 12 (by decide)).2 28 rfl).trans (hS 12 (by decide)).1
     replace H:Sp w0 ((RowK (.slice (some ad) n c) D)::rest) wx:=H
     have hK:Hid (∀(v:Value) (w' : World),v=q.val->Sp w0 ((RowK (.slice (some ad) n c) D)::rest) w'->K (A.put (some 29) v) w'):=Lib.hid hK0
     clear hK0 hN hS hE
     change Oper.wp _ _ A wx K _
     exact wp_load_agg 141 _ rfl _ q.cells (ev e28) (by rw [<- HEq.out]; exact RowK.rd H 0 rfl sv Bsv.out) Tryd.isAgg141 Tryd.sizeOf141 (hK.out _ _ rfl H)
    ·intro x wx A rest hN hS hE H K hK0
     have e0:A.tmps[0]?.getD undef=.slice (some ad) n c:=hN (0,.slice (some ad) n c) (by simp)
     replace H:Sp w0 (rest) wx:=H
     have hK:Hid (∀(v:Value) (w' : World),v=.slice (some ad) n c->Sp w0 (rest) w'->K (A.put (some 30) v) w'):=Lib.hid hK0
     clear hK0 hN hS hE
     change Oper.wp _ _ A wx K _
     go_step
     exact hK.out _ _ rfl (H)
    ·intro x wx A rest hN hS hE H K hK0
     have e1:A.tmps[1]?.getD undef=.int .i64 (a:Int):=hN (1,.int .i64 (a:Int)) (by simp)
     replace H:Sp w0 (rest) wx:=H
     have hK:Hid (∀(v:Value) (w' : World),v=.int .i64 (a:Int)->Sp w0 (rest) w'->K (A.put (some 31) v) w'):=Lib.hid hK0
     clear hK0 hN hS hE
     change Oper.wp _ _ A wx K _
     go_step
     exact hK.out _ _ rfl (H)
    ·intro x wx A rest hN hS hE H K hK0
     have e10:A.tmps[10]?.getD undef=.int .i64 (i:Int):=hN (10,.int .i64 (i:Int)) (by simp)
     replace H:Sp w0 (rest) wx:=H
     have hK:Hid (∀(v:Value) (w' : World),v=.int .i64 (i:Int)->Sp w0 (rest) w'->K (A.put (some 32) v) w'):=Lib.hid hK0
     clear hK0 hN hS hE
     change Oper.wp _ _ A wx K _
     go_step
     exact hK.out _ _ rfl (H)
    ·intro x wx A rest hN hS hE H K hK0
     have e31:A.tmps[31]?.getD undef=.int .i64 (a:Int):=((hS 15 (by decide)).2 31 rfl).trans (hS 15 (by decide)).1
     have e32:A.tmps[32]?.getD undef=.int .i64 (i:Int):=((hS 16 (by decide)).2 32 rfl).trans (hS 16 (by decide)).1
     replace H:Sp w0 (rest) wx:=H
     have hK:Hid (∀(v:Value) (w' : World),v=.int .i64 (su:Int)->Sp w0 (rest) w'->K (A.put (some 33) v) w'):=Lib.hid hK0
     clear hK0 hN hS hE
     change Oper.wp _ _ A wx K _
     go_step
     exact hK.out _ _ rfl (H)
    ·intro x wx A rest hN hS hE H K hK0
     have e30:A.tmps[30]?.getD undef=.slice (some ad) n c:=((hS 14 (by decide)).2 30 rfl).trans (hS 14 (by decide)).1
     have e33:A.tmps[33]?.getD undef=.int .i64 (su:Int):=((hS 17 (by decide)).2 33 rfl).trans (hS 17 (by decide)).1
     replace H:Sp w0 (rest) wx:=H
     have hK:Hid (∀(v:Value) (w' : World),v=.pointer (some (ad.add (su * 3)))->Sp w0 (rest) w'->K (A.put (some 34) v) w'):=Lib.hid hK0
     clear hK0 hN hS hE
     change Oper.wp _ _ A wx K _
     go_step
     exact hK.out _ _ rfl (H)
    ·intro x wx A rest hN hS hE H K hK0
     have e34:A.tmps[34]?.getD undef=.pointer (some (ad.add (su * 3))):=((hS 18 (by decide)).2 34 rfl).trans (hS 18 (by decide)).1
     replace H:Sp w0 ((RowK (.slice (some ad) n c) D)::rest) wx:=H
     have hK:Hid (∀(v:Value) (w' : World),v=p.val->Sp w0 ((RowK (.slice (some ad) n c) D)::rest) w'->K (A.put (some 35) v) w'):=Lib.hid hK0
     clear hK0 hN hS hE
     change Oper.wp _ _ A wx K _
     exact wp_load_agg 141 _ rfl _ p.cells (ev e34) (by rw [<- HEp.out]; exact RowK.rd H 0 rfl su Bsu.out) Tryd.isAgg141 Tryd.sizeOf141 (hK.out _ _ rfl H)
    ·intro x wx A rest hN hS hE H K hK0
     have e16:A.tmps[16]?.getD undef=.slice (some ad) n c:=((hS 0 (by decide)).2 16 rfl).trans (hS 0 (by decide)).1
     have e19:A.tmps[19]?.getD undef=.int .i64 (su:Int):=((hS 3 (by decide)).2 19 rfl).trans (hS 3 (by decide)).1
     replace H:Sp w0 (rest) wx:=H
     have hK:Hid (∀(v:Value) (w' : World),v=.pointer (some (ad.add (su * 3)))->Sp w0 (rest) w'->K (A.put (some 36) v) w'):=Lib.hid hK0
     clear hK0 hN hS hE
     change Oper.wp _ _ A wx K _
     go_step
     exact hK.out _ _ rfl (H)
    ·intro x wx A rest hN hS hE H K hK0
     have e36:A.tmps[36]?.getD undef=.pointer (some (ad.add (su * 3))):=((hS 20 (by decide)).2 36 rfl).trans (hS 20 (by decide)).1
     have e29:A.tmps[29]?.getD undef=q.val:=((hS 13 (by decide)).2 29 rfl).trans (hS 13 (by decide)).1
     replace H:Sp w0 ((RowK (.slice (some ad) n c) D)::rest) wx:=H
     have hK:Hid (∀(v:Value) (w' : World),True->Sp w0 ((RowK (.slice (some ad) n c) (D.set su q))::rest) w'->K (A.put none v) w'):=Lib.hid hK0
     clear hK0 hN hS hE
     obtain⟨w9,hst,H9⟩:=RowK.store (i:=su) q H Bsu.out
     change Oper.wp _ _ A wx K _
     exact wp_store_agg 141 _ _ rfl _ q.cells (ev e36) (ev e29) hst Tryd.sizeOf141 (hK.out undef _ trivial H9)
    ·intro x wx A rest hN hS hE H K hK0
     have e20:A.tmps[20]?.getD undef=.slice (some ad) n c:=((hS 4 (by decide)).2 20 rfl).trans (hS 4 (by decide)).1
     have e23:A.tmps[23]?.getD undef=.int .i64 (sv:Int):=((hS 7 (by decide)).2 23 rfl).trans (hS 7 (by decide)).1
     replace H:Sp w0 (rest) wx:=H
     have hK:Hid (∀(v:Value) (w' : World),v=.pointer (some (ad.add (sv * 3)))->Sp w0 (rest) w'->K (A.put (some 37) v) w'):=Lib.hid hK0
     clear hK0 hN hS hE
     change Oper.wp _ _ A wx K _
     go_step
     exact hK.out _ _ rfl (H)
    ·intro x wx A rest hN hS hE H K hK0
     have e37:A.tmps[37]?.getD undef=.pointer (some (ad.add (sv * 3))):=((hS 22 (by decide)).2 37 rfl).trans (hS 22 (by decide)).1
     have e35:A.tmps[35]?.getD undef=p.val:=((hS 19 (by decide)).2 35 rfl).trans (hS 19 (by decide)).1
     replace H:Sp w0 ((RowK (.slice (some ad) n c) (D.set su q))::rest) wx:=H
     have hK:Hid (∀(v:Value) (w' : World),True->Sp w0 ((RowK (.slice (some ad) n c) ((D.set su q).set sv p))::rest) w'->K (A.put none v) w'):=Lib.hid hK0
     clear hK0 hN hS hE
     obtain⟨w9,hst,H9⟩:=RowK.store (i:=sv) p H (by rw [List.length_set]; exact Bsv.out)
     change Oper.wp _ _ A wx K _
     exact wp_store_agg 141 _ _ rfl _ p.cells (ev e37) (ev e35) hst Tryd.sizeOf141 (hK.out undef _ trivial H9)
   case hend =>
    intro x wx A hA hS H
    replace H:Sp w0 ((RowK (.slice (some ad) n c) ((D.set su q).set sv p))::L) wx:=H
    clear hS
    simp only [putAll,Act.put,List.setIfInBounds_toArray,List.set_cons_succ,List.set_cons_zero,Nat.reduceAdd] at hA
    subst hA
    go_wp2_with fail
    go_roundw
    case rel =>
     refine⟨i+1,A1++[p],A3,B1++[q],B3,by go_num,by omega,Lib.hid ⟨by rw [List.length_append,HE.out.1]; rfl,by rw [List.length_append,HE.out.2.1]; rfl,by rw [<- HE.out.2.2.1]; simp,by rw [<- HE.out.2.2.2]; simp⟩,?_⟩
     rw [<- HR.out]
     exact H
    case measure=>first | (simp [intOf]; omega) | simp [intOf]
  ·have k1:¬ (i:Int)<(m:Int):=by omega
   go_wp2_with fail
   go_end0
   refine⟨rfl,?_⟩
   have h1:=congrArg List.length HE.out.2.2.1
   have h2:=congrArg List.length HE.out.2.2.2
   rw [List.length_append,HM.out,HE.out.1] at h1
   rw [List.length_append,HM2.out,HE.out.2.1] at h2
   have e1:A2=[]:=List.eq_nil_of_length_eq_zero (by omega)
   have e2:B2=[]:=List.eq_nil_of_length_eq_zero (by omega)
   subst e1 e2
   have e3:A1=A:=by have:=HE.out.2.2.1; rwa [List.append_nil] at this
   have e4:B1=B:=by have:=HE.out.2.2.2; rwa [List.append_nil] at this
   subst e3 e4
   rw [List.append_nil,List.append_nil,HT.out] at H
   exact H
set_option maxRecDepth 100000 in
set_option maxHeartbeats 4000000 in
theorem rotate_ok (ad:Addr) (n c:Nat) (X U V Y:List PK) (a m b:Nat) {w0 w:World} {L:List Pr} (H:Sp w0 (RowK (.slice (some ad) n c) (X++U++V++Y)::L) w) (hn:n=X.length+U.length+V.length+Y.length) (hl:n<=1000000) (ha:X.length=a) (hm:a+U.length=m) (hb:m+V.length=b) (hu:U≠[]) (hv:V≠[]) :
  Calls Tryd.prog 165 #[.slice (some ad) n c,.int .i64 (a:Int),.int .i64 (m:Int),.int .i64 (b:Int),cmpF] w fun e w'=>e=.returned (.tuple #[]) /\
   Sp w0 (RowK (.slice (some ad) n c) (X++V++U++Y)::L) w':=by
 obtain⟨T,hT⟩:∃T,X++V++U++Y=T:=⟨_,rfl⟩
 rw [hT]
 have hul:U.length≠0:=fun h=>hu (List.eq_nil_of_length_eq_zero h)
 have hvl:V.length≠0:=fun h=>hv (List.eq_nil_of_length_eq_zero h)
 obtain⟨i,hi⟩:∃i,U.length=i:=⟨_,rfl⟩
 obtain⟨j,hj⟩:∃j,V.length=j:=⟨_,rfl⟩
 have y1:(m:Int) - (a:Int)=(i:Int):=by omega
 have y2:(b:Int) - (m:Int)=(j:Int):=by omega
 have hmn:m+j<=n:=by omega
 have hst:∃X' Y',X++U++V++Y=X'++U++V++Y'/\T=X'++V++U++Y'/\X'.length+i=m/\n=X'.length+U.length+V.length+Y'.length:=⟨X,Y,rfl,hT.symm,by omega,hn⟩
 obtain⟨X',Y',e1,e2,e3,e4⟩:=hst
 rw [e1] at H
 have HS:Hid (∃U V,U.length=i/\V.length=j/\i≠0/\j≠0/\T=X'++V++U++Y'/\X'.length+i=m/\n=X'.length+i+j+Y'.length/\Sp w0 (RowK (.slice (some ad) n c) (X'++U++V++Y')::L) w):=Lib.hid ⟨U,V,hi,hj,by omega,by omega,e2,e3,by omega,H⟩
 clear e1 e2 e3 e4 H hT hi hj hn ha hm hb hu hv hul hvl
 go_enter Tryd.func165,Tryd.ntmps165
 go_wp2_with fail
 go_loopw [10,11] (fun iv jv wr=>∃(i j:Nat) (X U V Y:List PK),iv=.int .i64 (i:Int)/\jv=.int .i64 (j:Int)/\Hid (U.length=i/\V.length=j/\i≠0/\j≠0/\T=X++V++U++Y/\X.length+i=m/\n=X.length+i+j+Y.length)/\i<=m/\m+j<=n/\Sp w0 (RowK (.slice (some ad) n c) (X++U++V++Y)::L) wr) (fun iv jv _=>(intOf iv).toNat+(intOf jv).toNat)
 case atStart =>
  obtain⟨U,V,h1,h2,h3,h4,h5,h6,h7,h8⟩:=HS.out
  exact⟨i,j,X',U,V,Y',rfl,rfl,Lib.hid ⟨h1,h2,h3,h4,h5,h6,h7⟩,by omega,hmn,h8⟩
 case round =>
  clear HS hmn y1 y2
  obtain⟨i,j,X,U,V,Y,rfl,rfl,HE,him,hmj,H⟩:=hrel
  obtain⟨q,hq⟩:∃q,m - i=q:=⟨_,rfl⟩
  have y1:(m:Int) - (i:Int)=(q:Int):=by omega
  clear hq
  by_cases hij:i=j
  ·have k1:((i:Int) != (j:Int))=false:=by rw [hij]; simp
   subst hij
   have hsw:=swapRange_ok ad n c X U [] V Y q m i (by rw [List.append_nil]; exact H) (by have:=HE.out; simp only [List.length_nil]; omega) hl (by have:=HE.out; omega) HE.out.1 HE.out.2.1 (by have:=HE.out; simp only [List.length_nil]; omega)
   have HSW:=Lib.hid hsw
   clear hsw
   go_wp2_with fail
   refine HSW.out.mono ?_
   rintro _ w9 ⟨rfl,H9⟩
   go_wp2_with fail
   go_end0
   refine⟨rfl,?_⟩
   rw [HE.out.2.2.2.2.1]
   rw [List.append_nil] at H9
   exact H9
  ·have k1:((i:Int) != (j:Int))=true:=by simp; omega
   by_cases hgt:j<i
   ·have k2:(j:Int)<(i:Int):=by omega
    have hsp:U=U.take j++U.drop j:=(List.take_append_drop j U).symm
    have hl1:(U.take j).length=j:=by rw [List.length_take,HE.out.1]; omega
    have hl2:(U.drop j).length=i - j:=by rw [List.length_drop,HE.out.1]
    generalize U.take j=U1 at hsp hl1
    generalize U.drop j=U2 at hsp hl2
    have hsw:=swapRange_ok ad n c X U1 U2 V Y q m j (by rw [hsp,<- List.append_assoc X] at H; exact H) (by have:=HE.out; omega) hl (by have:=HE.out; omega) hl1 HE.out.2.1 (by have:=HE.out; omega)
    have HSW:=Lib.hid hsw
    obtain⟨i2,hi2⟩:∃i2,i - j=i2:=⟨_,rfl⟩
    have y3:(i:Int) - (j:Int)=(i2:Int):=by omega
    have HL:Hid (U=U1++U2/\U1.length=j/\U2.length=i2/\i=i2+j):=Lib.hid ⟨hsp,hl1,by omega,by omega⟩
    clear hsw hsp hl1 hl2 hi2 hij
    go_wp2_with fail
    refine HSW.out.mono ?_
    rintro _ w9 ⟨rfl,H9⟩
    clear HSW H
    go_wp2_with fail
    go_roundw
    case rel =>
     obtain⟨q1,q2,q3,q4⟩:=HL.out
     obtain⟨h1,h2,h3,h4,h5,h6,h7⟩:=HE.out
     refine⟨i2,j,X++V,U2,U1,Y,by go_num,rfl,Lib.hid ⟨q3,q2,by omega,by omega,by rw [h5,q1]; simp,by rw [List.length_append]; omega,by rw [List.length_append]; omega⟩,by omega,by omega,H9⟩
    case measure =>
     have:=HL.out.2.2.2
     have:=HE.out.2.2.2.1
     first | (simp [intOf]; omega) | simp [intOf]
   ·have k2:¬ (j:Int)<(i:Int):=by omega
    obtain⟨j2,hj2⟩:∃j2,j - i=j2:=⟨_,rfl⟩
    have hsp:V=V.take j2++V.drop j2:=(List.take_append_drop j2 V).symm
    have hl1:(V.take j2).length=j2:=by rw [List.length_take,HE.out.2.1]; omega
    have hl2:(V.drop j2).length=i:=by rw [List.length_drop,HE.out.2.1]; omega
    generalize V.take j2=V1 at hsp hl1
    generalize V.drop j2=V2 at hsp hl2
    obtain⟨r,hr⟩:∃r,m+j - i=r:=⟨_,rfl⟩
    obtain⟨s,hs⟩:∃s,m+j=s:=⟨_,rfl⟩
    have hsw:=swapRange_ok ad n c X U V1 V2 Y q r i (by rw [hsp,<- List.append_assoc] at H; exact H) (by have:=HE.out; omega) hl (by have:=HE.out; omega) HE.out.1 hl2 (by have:=HE.out; omega)
    have HSW:=Lib.hid hsw
    have y3:(j:Int) - (i:Int)=(j2:Int):=by omega
    have y4:(m:Int)+(j:Int)=(s:Int):=by omega
    have y5:(s:Int) - (i:Int)=(r:Int):=by omega
    have ks:s<=1000000:=by omega
    have HL:Hid (V=V1++V2/\V1.length=j2/\V2.length=i/\j=j2+i/\j2≠0):=Lib.hid ⟨hsp,hl1,hl2,by omega,by omega⟩
    clear hsw hsp hl1 hl2 hj2 hij hr hs
    go_wp2_with fail
    refine HSW.out.mono ?_
    rintro _ w9 ⟨rfl,H9⟩
    clear HSW H
    go_wp2_with fail
    go_roundw
    case rel =>
     obtain⟨q1,q2,q3,q4,q5⟩:=HL.out
     obtain⟨h1,h2,h3,h4,h5,h6,h7⟩:=HE.out
     refine⟨i,j2,X,V2,V1,U++Y,rfl,by go_num,Lib.hid ⟨q3,q2,h3,q5,by rw [h5,q1]; simp,h6,by rw [List.length_append,h1]; omega⟩,by omega,by omega,?_⟩
     rw [<- List.append_assoc]
     exact H9
    case measure =>
     have:=HL.out.2.2.2.1
     have:=HE.out.2.2.1
     first | (simp [intOf]; omega) | simp [intOf]
end Go.Proofs.YtloijdbkikccgaaDoor

