/- A pack of texts: HuffO BitsMath HuffH HuffI. -/
import Derived.Lib.QuoteBits
import Derived.WalkKit
import Derived.Test.YtloijdbkikccgaaDoorPk02
import Derived.Test.YtloijdbkikccgaaDoorPk08
import Derived.Test.YtloijdbkikccgaaDoorPk09
namespace Go.Proofs.YtloijdbkikccgaaDoor
open Go.RowKit
theorem rdK {w:World} {A:Option Addr} {l:List PK} (h:Rd w A (cellsK l)) {i:Nat} (hi:i<l.length):∃ad,A=some ad/\∀j v,(l.getD i pk0).cells[j]?=some v->w.cell? ((ad.add (i * 3)).add j)=some v:=by
 obtain⟨ad,e,hc⟩:=h (by intro h0; have:=cellsK_len l; rw [h0] at this; simp at this; omega)
 refine⟨ad,e,fun j v hj=>?_⟩
 rw [Go.Addr.add_add]
 exact hc _ _ (cellsK_get l i j hi v hj)
theorem addr_add0 (ad:Addr) (k:Nat):(ad.add k).add 0=ad.add k:=by rw [Go.Addr.add_add,Nat.add_zero]
theorem cntR_nil (n:Nat):List.replicate n (Value.int .i64 0)=cntR n []:=by
 apply List.ext_getElem?
 intro i
 by_cases h:i<n
 ·rw [cntR_get _ _ _ h,List.getElem?_replicate,if_pos h]; rfl
 ·rw [List.getElem?_eq_none (by simp; omega),List.getElem?_eq_none (by rw [cntR_len]; omega)]
theorem Sp.dropMid {w0 w:World} {A:Pr} {Rs L:List Pr} (k:Nat) (K:List Pr) (hk:K.length=k) (H:Sp w0 (A::(K++(Rs++L))) w):Sp w0 (A::L) w:=by
 have h:=H.pick (1+k+Rs.length) [0] ⟨by simp,by intro i hi; simp at hi; omega⟩
 have e:(A::(K++(Rs++L))).drop (1+k+Rs.length)=L:=by
  rw [show 1+k+Rs.length=(k+Rs.length)+1 by omega,List.drop_succ_cons,List.drop_append,hk,List.drop_eq_nil_of_le (by omega),List.nil_append,show k+Rs.length - k=Rs.length by omega,List.drop_left]
 rw [e] at h
 exact h
def ptB:Value->Nat
 | .pointer (some a)=>a.block
 | _=>0
def agB:Value->Nat
 | .agg a=>ptB (a.getD 2 undef)
 | _=>0
def castN (m:List Nat):List Int:=m.map fun n:Nat=>(n:Int)
set_option maxRecDepth 100000 in
set_option maxHeartbeats 8000000 in
theorem lengths_ok (A:Option Addr) (n c:Nat) (cs:List Nat) (lm:Nat) {w0 w:World} {L:List Pr} (H:Sp w0 L w) (hn:n=cs.length) (hb:Ent L fun w=>Rd w A (cells64 (castN cs))) (hl:n<=1024) (h1:1<=lm) (h15:lm<=15) (hc:∀x ∈ cs,x<=4294967296) (hk:(PL.items cs).length<=2 ^ lm) :
  Calls Tryd.prog 38 #[.slice A n c,.int .i64 (lm:Int)] w fun e w'=>∃v,e=.returned (.tuple #[v,.int .i64 0])/\Sp w0 (Row 3 1 v n (cellsN (PL.lens cs lm))::L) w':=by
 obtain⟨i0,hi,hz0,hz1,hz2⟩:=info_parts infoK
 obtain⟨i1,hj,hj0,hj1,hj2⟩:=info_parts infoJ
 have HN:=Lib.hid hn
 have HB:=Lib.hid hb
 have HC:=Lib.hid hc
 have HK:=Lib.hid hk
 have hres:cellsN (PL.lens cs lm)=cntR n (PL.flat cs lm):=by
  unfold cellsN PL.lens cntR
  rw [List.map_map,<- hn]; rfl
 rw [hres]
 obtain⟨T,hT⟩:∃T,PL.flat cs lm=T:=⟨_,rfl⟩
 rw [hT]
 have HT:=Lib.hid hT
 obtain⟨pw,hpw⟩:∃p,2 ^ lm=p:=⟨_,rfl⟩
 have hpw2:pw<=32768:=by
  rw [<- hpw]
  have:(2:Nat) ^ lm<=2 ^ 15:=Nat.pow_le_pow_right (by omega) h15
  exact this
 have y1:(2:Int) ^ lm=(pw:Int):=by rw [<- hpw]; simp
 rw [hpw] at HK
 have HPW:=Lib.hid hpw
 clear hn hb hc hk hres hT hpw
 go_enter Tryd.func38,Tryd.ntmps38
 go_wp2_with fail
 go_loopw [6,28] (fun vv iv wr=>∃(i:Nat),iv=.int .i64 (i:Int)/\i<=n/\Sp w0 (RowK vv (leafs cs i)::L) wr) (fun _ iv _=>n - (intOf iv).toNat)
 case atStart=>exact⟨0,rfl,Nat.zero_le _,H.rowNil _ _⟩
 case round =>
  clear H
  obtain⟨i,rfl,hin,H⟩:=hrel
  obtain⟨D,hD⟩:∃D,leafs cs i=D:=⟨_,rfl⟩
  have hDl:D.length<=i:=by rw [<- hD,leafs_len]; exact PL.itemsTo_len cs i
  rw [hD] at H
  obtain⟨VA,Vc,hvf,_,_⟩:=RowK.form H 0 rfl
  subst hvf
  by_cases hlt:i<n
  ·have k1:(i:Int)<(n:Int):=by omega
   have hic:i<cs.length:=by rw [<- HN.out]; exact hlt
   obtain⟨al,hal,hcell⟩:=(HB.out _ _ H.tail).at64 (k:=i) (by simpa [castN] using hic)
   obtain⟨x,hx⟩:∃x,cs.getD i 0=x:=⟨_,rfl⟩
   have hx2:cs[i]=x:=by rw [<- hx,List.getD_eq_getElem?_getD,List.getElem?_eq_getElem hic]; rfl
   have hxl:x<=4294967296:=by rw [<- hx2]; exact HC.out _ (List.getElem_mem hic)
   replace hcell:wr.cell? (al.add i)=some (.int .i64 (x:Int)):=by
    rw [hcell]
    simp [castN,hx2]
   have hnext:=leafs_succ cs i
   rw [hx,hD] at hnext
   have HNX:=Lib.hid hnext
   have k2:¬ (x:Int)<0:=by omega
   have k3:¬ 4294967296<(x:Int):=by omega
   subst hal
   clear hx hx2 hnext hD
   by_cases hx0:0<x
   ·have k4:(0:Int)<(x:Int):=by omega
    have hr9:=Rd.of_blk (Blk.new wr 141 [.int .i64 (x:Int),.int .i64 (i:Int),.pointer none])
    have HR9:=Lib.hid hr9
    have h9:=(H.newBk [.int .i64 (x:Int),.int .i64 (i:Int),.pointer none] 141).swap
    have HH9:=Lib.hid h9
    clear hr9 h9 H
    go_wp2_with (at_builtin; refine wpList_append_sp rfl _ _ 138 rfl 141 i0 (.agg #[.int .i64 0,.int .i64 0,.pointer none]) 3 24 Tryd.underlying138 hi hz0 hz1 hz2 rfl (by decide) (.slice VA D.length Vc) D.length (cellsK D) rfl HH9.out (some ⟨wr.heap.size,0,none⟩) 1 1 [.int .i64 (x:Int),.int .i64 (i:Int),.pointer none] rfl rfl HR9.out (PK.one ⟨x,i,none⟩) (by simp only [maxLen]; omega) (by omega) ?_)
    intro v6 w6 H6 _
    clear HR9 HH9
    go_wp2_with fail
    go_roundw
    case rel =>
     refine⟨i+1,by go_num,by omega,?_⟩
     rw [HNX.out,if_pos hx0]
     unfold RowK
     rw [List.length_append,cellsK_append]
     exact H6.pick 2 [0]
    case measure=>first | (simp [intOf]; omega) | simp [intOf]
   ·have k4:¬ (0:Int)<(x:Int):=by omega
    go_wp2_with fail
    go_roundw
    case rel=>exact⟨i+1,by go_num,by omega,by rw [HNX.out,if_neg hx0]; exact H⟩
    case measure=>first | (simp [intOf]; omega) | simp [intOf]
  ·have k1:¬ (i:Int)<(n:Int):=by omega
   obtain rfl:i=n:=by omega
   have hit:leafs cs i=leafs cs cs.length:=by rw [<- HN.out]
   have hkk:D.length=(PL.items cs).length:=by rw [<- hD,hit,leafs_len]; rfl
   have henc:EncL [] (PL.items cs) D:=by rw [<- hD,hit]; exact leafs_enc [] cs cs.length
   obtain⟨kk,hkk2⟩:∃kk,D.length=kk:=⟨_,rfl⟩
   have hkp:kk<=pw:=by have:=HK.out; omega
   have hkk3:(PL.items cs).length=kk:=by omega
   rw [hkk2] at hDl
   unfold RowK at H
   rw [hkk2] at H
   have HKK:=Lib.hid hkk2
   have HKK3:=Lib.hid hkk3
   have HENC:=Lib.hid henc
   have hdd:D=(PL.items cs).map fun p=>⟨(p.1:Int),((p.2.getD 0 0:Nat):Int),none⟩:=by rw [<- hD,hit]; rfl
   have HDD:=Lib.hid hdd
   have k2:¬ (pw:Int)<(kk:Int):=by omega
   rw [hkk2]
   clear hit hkk henc hkk2 hkk3 hD hdd
   go_wp2_with (at_make; refine wpList_make_sp rfl _ _ _ rfl 3 i1 (.int .i64 0) Tryd.underlying58 hj hj0 hj1 rfl i rfl rfl (by rw [hj2]; omega) (by unfold maxLen; omega) H ?_)
   intro ad w5 H5
   rw [cntR_nil] at H5
   by_cases hk1:kk=1
   ·have k3:((kk:Int) == 1)=true:=by rw [beq_iff_eq]; omega
    have k4:(kk:Int)<2:=by omega
    obtain⟨p,hp⟩:=List.length_eq_one_iff.1 (by rw [HKK3.out,hk1]:(PL.items cs).length=1)
    have hp2:=PL.itemsTo_mem cs cs.length p (by rw [show PL.itemsTo cs cs.length=PL.items cs from rfl,hp]; exact List.mem_singleton.2 rfl)
    obtain⟨pc,ps⟩:=p
    obtain⟨sy,hsy⟩:=List.length_eq_one_iff.1 hp2.2.1
    simp only at hsy
    subst hsy
    have hsn:sy<i:=by rw [HN.out]; exact hp2.2.2.2 sy (List.mem_singleton.2 rfl)
    have hD1:D=[⟨(pc:Int),(sy:Int),none⟩]:=by rw [HDD.out,hp]; rfl
    have hT1:T=[sy]:=by
     rw [<- HT.out,PL.flat,if_pos (by rw [HKK3.out]; omega),hp]; rfl
    subst hD1 hT1
    subst hk1
    obtain⟨A9,c9,e9,hr9,_,_⟩:=H5.row_rd 1 rfl
    injection e9 with e9 e10 e11
    clear e10 e11
    obtain⟨ai,rfl,hcl⟩:=hr9 (by simp [cellsK,PK.cells])
    subst e9
    have d1:w5.cell? ⟨ai.block,ai.off+1,none⟩=some (.int .i64 (sy:Int)):=hcl 1 _ rfl
    obtain⟨ad2,c2,ev,_,hc,hz,hset⟩:=H5.rowSet hsn
    injection ev with ev ev2 ev3
    injection ev with ev
    subst ev
    clear ev2 ev3
    rw [cntR_get _ _ _ hsn] at hc
    replace hc:w5.cell? (ad.add sy)=some (.int .i64 0):=hc
    have hst:=hset (.int .i64 1)
    rw [cntR_set i sy [] 1 (by simp),List.nil_append] at hst
    have HST:=Lib.hid hst
    have k5:(sy:Int)<(i:Int):=by omega
    clear hset hst hcl hp hp2 HDD HENC HKK
    go_wp2_with fail
    go_ret2
    exact⟨_,rfl,HST.out.pick 2 [0]⟩
   ·have k3:((kk:Int) == 1)=false:=by rw [beq_eq_false_iff_ne]; omega
    by_cases hk2:kk<2
    ·have k4:(kk:Int)<2:=by omega
     have hi0:PL.items cs=[]:=List.eq_nil_of_length_eq_zero (by rw [HKK3.out]; omega)
     have hT0:T=[]:=by rw [<- HT.out,PL.flat,if_pos (by rw [HKK3.out]; omega),hi0]; rfl
     subst hT0
     clear hi0
     go_wp2_with fail
     go_ret2
     exact⟨_,rfl,H5.pick 2 [0]⟩
    ·have k4:¬ (kk:Int)<2:=by omega
     have H5b:Sp w0 (RowK (.slice VA kk Vc) D::Row 3 1 (.slice (some ad) i i) i (cntR i [])::L) w5:=by
      unfold RowK; rw [HKK.out]; exact H5.swap
     have hmg:=merge_ok VA none kk Vc 0 0 D [] H5b HKK.out rfl (fun _ _ H=>by
      obtain⟨A9,c9,e9,hr9,_,_⟩:=H.row_rd 0 rfl
      injection e9 with e9
      rw [e9]; exact hr9) (fun _ _ _=>Rd.nil) (by omega) (by omega)
     rw [List.append_nil] at hmg
     have HMG:=Lib.hid hmg
     have henc:=HENC.out.isort
     have hsl:(SS.isort keyK D).length=kk:=by rw [SS.len_isort,HKK.out]
     obtain⟨S,hS⟩:∃S,SS.isort keyK D=S:=⟨_,rfl⟩
     obtain⟨it,hit⟩:∃it,PL.sorted cs=it:=⟨_,rfl⟩
     rw [hS] at HMG hsl henc
     replace henc:EncL [] it S:=by rw [<- hit]; exact henc
     have hitl:it.length=kk:=by rw [<- hit,PL.sorted,SS.len_isort,HKK3.out]
     have hT2:T=((PL.lst it (lm - 1)).take (2 * kk - 2)).flatMap Prod.snd:=by
      rw [<- HT.out,PL.flat,if_neg (by rw [HKK3.out]; exact hk2),HKK3.out,hit]
     have hen:=PL.lst_enough it lm h1 (by rw [hitl,HPW.out]; exact hkp)
     have hmem:∀p ∈ it,p.1<=4294967296/\p.2.length=1/\∀s ∈ p.2,s<i:=by
      intro p hp
      rw [<- hit] at hp
      have h9:=PL.itemsTo_mem cs cs.length p (SS.mem_isort.1 hp)
      exact⟨HC.out _ h9.1,h9.2.1,fun s hs=>by rw [HN.out]; exact h9.2.2.2 s hs⟩
     have HE2:=Lib.hid henc
     have HSL:=Lib.hid hsl
     have HIT:=Lib.hid hitl
     have HT2:=Lib.hid hT2
     have HEN:=Lib.hid hen
     have HME:=Lib.hid hmem
     clear hmg henc hsl hS hit hitl hT2 hen hmem HDD HENC HKK
     go_wp2_with fail
     refine HMG.out.mono ?_
     rintro _ w6 ⟨v,rfl,H6⟩
     clear HMG H5 H5b
     obtain⟨VB,Vd,hvf,hVd,_⟩:=RowK.form H6 0 rfl
     subst hvf
     have H7:Sp w0 (Row 3 1 (.slice (some ad) i i) i (cntR i [])::([RowK (.slice VB S.length Vd) S]++L)) w6:=H6.pick 3 [2,0]
     replace H7:=Pool.nil H7
     have hbS:Ent ([RowK (.slice VB S.length Vd) S]++L) (fun w=>Rd w VB (cellsK S)):=fun _ _ H=>by
      obtain⟨A9,c9,e9,hr9,_,_⟩:=H.row_rd 0 rfl
      injection e9 with e9
      rw [e9]; exact hr9
     rw [HSL.out] at H7 hbS hVd ⊢
     have HBS:=Lib.hid hbS
     obtain⟨l1,hl1⟩:∃l1,lm=l1+1:=⟨lm - 1,by omega⟩
     have y2:(lm:Int) - 1=(l1:Int):=by omega
     have HL1:=Lib.hid hl1
     have hlm:=hl1
     clear hl1 hbS H6 hlm H
     go_wp2_with fail
     go_loopw [10,74] (fun lv iv wr=>∃(q nn cc:Nat) (AA:Option Addr) (F:PoolT) (xs:List PK) (Rs:List Pr),iv=.int .i64 (q:Int)/\lv=.slice AA nn cc/\q<=l1/\nn<=cc/\Hid (xs.length=nn/\EncL F (PL.lst it q) xs/\Ent (Rs++L) (fun w=>Rd w AA (cellsK xs))/\Ent (Rs++L) (fun w=>Rd w VB (cellsK S)))/\Sp w0 (Pool F::Row 3 1 (.slice (some ad) i i) i (cntR i [])::(Rs++L)) wr) (fun _ iv _=>l1 - (intOf iv).toNat)
     case atStart=>exact⟨0,kk,Vd,VB,[],S,_,rfl,rfl,Nat.zero_le _,hVd,Lib.hid ⟨HSL.out,HE2.out,HBS.out,HBS.out⟩,H7⟩
     case round =>
      clear H7 HBS hVd
      obtain⟨q,nn,cc,AA,F,xs,Rs,rfl,rfl,hq,hnc,HX,H⟩:=hrel
      have hnl:(PL.lst it q).length=nn:=by rw [<- HX.out.1]; exact HX.out.2.1.len
      have hnn:nn<=2048:=by
       rw [<- hnl]
       have:=PL.lst_le it q
       have:=HIT.out; omega
      by_cases hql:q<l1
      ·have k5:(q:Int)<(l1:Int):=by omega
       have HNL:=Lib.hid hnl
       clear hnl
       go_wp2_with fail
       go_loopw [11,12] (fun pv kv wr=>∃(k j:Nat) (F2:PoolT) (ps:List PK),kv=.int .i64 (k:Int)/\Hid (k=2 * j/\EncL F2 (PL.pairsTo (PL.lst it q) j) ps/\∀e ∈ F,e ∈ F2)/\k<=nn/\Sp w0 (RowK pv ps::Pool F2::Row 3 1 (.slice (some ad) i i) i (cntR i [])::(Rs++L)) wr) (fun _ kv _=>nn - (intOf kv).toNat)
       case atStart=>exact⟨0,0,F,[],rfl,Lib.hid ⟨rfl,trivial,fun _ h=>h⟩,Nat.zero_le _,H.rowNil _ _⟩
       case round =>
        clear H
        obtain⟨k,j,F2,ps,rfl,HJ,hkn,H⟩:=hrel
        have hpl:ps.length=j:=by
         rw [<- HJ.out.2.1.len]
         simp [PL.pairsTo]
        obtain⟨PA,pc,hvf,_,_⟩:=RowK.form H 0 rfl
        subst hvf
        rw [hpl] at H ⊢
        by_cases hk3:k+1<nn
        ·have k6:(k:Int)+1<(nn:Int):=by omega
         obtain⟨k1,hk1⟩:∃k1,k+1=k1:=⟨_,rfl⟩
         have y3:(k:Int)+1=(k1:Int):=by omega
         have k7:(k:Int)<(nn:Int):=by omega
         have k8:(k1:Int)<(nn:Int):=by omega
         obtain⟨pa,hpa⟩:∃pa,xs.getD k pk0=pa:=⟨_,rfl⟩
         obtain⟨pb,hpb⟩:∃pb,xs.getD k1 pk0=pb:=⟨_,rfl⟩
         obtain⟨ta,hta⟩:∃ta,(PL.lst it q).getD k PL.pk0=ta:=⟨_,rfl⟩
         obtain⟨tb,htb⟩:∃tb,(PL.lst it q).getD k1 PL.pk0=tb:=⟨_,rfl⟩
         have hea:Enc F2 ta.1 ta.2 pa:=by
          rw [<- hta,<- hpa]
          exact(HX.out.2.1.get PL.pk0 pk0 k (by rw [HNL.out]; omega)).mono HJ.out.2.2
         have heb:Enc F2 tb.1 tb.2 pb:=by
          rw [<- htb,<- hpb]
          exact(HX.out.2.1.get PL.pk0 pk0 k1 (by rw [HNL.out]; omega)).mono HJ.out.2.2
         have hwt:∀t ∈ PL.lst it q,t.1<=17179869184000000:=by
          intro t ht
          have h1:=PL.wt_mem Prod.fst ht
          have h2:=PL.wt_lst Prod.fst (fun _ _=>rfl) it q
          have h3:PL.wt Prod.fst it<=it.length * 4294967296:=by
           have:∀l:List PL.Pk,(∀p ∈ l,p.1<=4294967296)->PL.wt Prod.fst l<=l.length * 4294967296:=by
            intro l
            induction l with
            | nil=>intro _; exact Nat.le_refl _
            | cons p l ih =>
             intro hp
             have h1:=hp p (List.mem_cons_self ..)
             have h2:=ih fun q hq=>hp q (List.mem_cons_of_mem _ hq)
             show p.1+PL.wt Prod.fst l<=(l.length+1) * 4294967296
             rw [Nat.succ_mul]; omega
           exact this it fun p hp=>(HME.out p hp).1
          rw [HIT.out] at h3
          have h4:kk * 4294967296<=8589934592000:=by omega
          have h5:(q+1) * PL.wt Prod.fst it<=2000 * 8589934592000:=Nat.mul_le_mul (by omega) (by omega)
          omega
         have hca:ta.1<=17179869184000000:=by
          rw [<- hta]
          refine hwt _ ?_
          rw [List.getD_eq_getElem?_getD,List.getElem?_eq_getElem (by rw [HNL.out]; omega)]; exact List.getElem_mem _
         have hcb:tb.1<=17179869184000000:=by
          rw [<- htb]
          refine hwt _ ?_
          rw [List.getD_eq_getElem?_getD,List.getElem?_eq_getElem (by rw [HNL.out]; omega)]; exact List.getElem_mem _
         obtain⟨ca,hca2⟩:∃ca,pa.c=ca:=⟨_,rfl⟩
         obtain⟨cb,hcb2⟩:∃cb,pb.c=cb:=⟨_,rfl⟩
         have hca3:ca=(ta.1:Int):=by rw [<- hca2]; exact hea.count
         have hcb3:cb=(tb.1:Int):=by rw [<- hcb2]; exact heb.count
         obtain⟨cc2,hcc⟩:∃cc2,ta.1+tb.1=cc2:=⟨_,rfl⟩
         have y4:ca+cb=(cc2:Int):=by omega
         have kc1:0<=ca:=by omega
         have kc2:ca<=20000000000000000:=by omega
         have kc3:0<=cb:=by omega
         have kc4:cb<=20000000000000000:=by omega
         have hnext:PL.pairsTo (PL.lst it q) (j+1)=PL.pairsTo (PL.lst it q) j++[(cc2,ta.2++tb.2)]:=by
          rw [PL.pairsTo_succ,<- HJ.out.1,hk1,hta,htb,<- hcc]; rfl
         have henc2:∀g,(g,pa,pb) ∈ (g,pa,pb)::F2->Enc ((g,pa,pb)::F2) cc2 (ta.2++tb.2) ⟨(cc2:Int),0,some g⟩:=fun g hg=>by
          rw [<- hcc]
          exact .node hg (hea.mono fun _ h=>List.mem_cons_of_mem _ h) (heb.mono fun _ h=>List.mem_cons_of_mem _ h)
         have hkj:j<nn:=by have:=HJ.out.1; omega
         have HNXT:=Lib.hid hnext
         have HENC2:=Lib.hid henc2
         have HEpa:Hid (xs.getD k pk0=pa/\k<xs.length/\pa.c=ca):=Lib.hid ⟨hpa,by rw [HX.out.1]; omega,hca2⟩
         have HEpb:Hid (xs.getD k1 pk0=pb/\k1<xs.length/\pb.c=cb):=Lib.hid ⟨hpb,by rw [HX.out.1]; omega,hcb2⟩
         have HK1:=Lib.hid hk1
         have HPL:=Lib.hid hpl
         obtain⟨al,hal⟩:∃al,AA=some al:=by
          obtain⟨al,e,_⟩:=rdK (HX.out.2.2.1 _ _ H.tail2.tail) (i:=k) (by rw [HX.out.1]; omega)
          exact⟨al,e⟩
         subst hal
         clear hpa hpb hta htb hea heb hwt hca hcb hca2 hcb2 hca3 hcb3 hcc hnext henc2 hk1 hpl
         go_wp2_with fail
         refine wp_region_sc (L:=Pool F2::Row 3 1 (.slice (some ad) i i) i (cntR i [])::(Rs++L)) [some (.slice PA j pc),some (.slice (some al) nn cc),some (.int .i64 (k:Int)),some (.pointer (some (al.add (k * 3)))),some (.pointer (some (al.add (k * 3)))),some (.int .i64 ca),some (.slice (some al) nn cc),some (.int .i64 (k:Int)),some (.int .i64 (k1:Int)),some (.pointer (some (al.add (k1 * 3)))),some (.pointer (some (al.add (k1 * 3)))),some (.int .i64 cb),some (.int .i64 (cc2:Int)),some (.slice (some al) nn cc),some (.int .i64 (k:Int)),some (.pointer (some (al.add (k * 3)))),some (.agg #[.int .i64 ca,.int .i64 pa.s,pa.ptr]),some (.slice (some al) nn cc),some (.int .i64 (k:Int)),some (.int .i64 (k1:Int)),some (.pointer (some (al.add (k1 * 3)))),some (.agg #[.int .i64 cb,.int .i64 pb.s,pb.ptr]),some (.agg #[.int .i64 ca,.int .i64 pa.s,pa.ptr,.int .i64 cb,.int .i64 pb.s,pb.ptr]),none,none,none,none,none] (fun ix vx=>match ix with | 23=>(fun v=>∃g,v=.pointer (some ⟨g,0,none⟩)) vx | 24=>(fun v=>∃g,v=.agg #[.int .i64 (cc2:Int),.int .i64 0,.pointer (some ⟨g,0,none⟩)]) vx | 25=>(fun v=>∃g,v=.slice (some ⟨g,0,none⟩) 1 1) vx | 26=>(fun _=>True) vx | 27=>(fun _=>True) vx | _=>True) (fun ix vx=>match ix with | 23=>(fun v=>[Bk (ptB v) 143 [.int .i64 ca,.int .i64 pa.s,pa.ptr,.int .i64 cb,.int .i64 pb.s,pb.ptr]]) vx | 24=>(fun v=>[Bk (agB v) 143 [.int .i64 ca,.int .i64 pa.s,pa.ptr,.int .i64 cb,.int .i64 pb.s,pb.ptr]]) vx | 25=>(fun v=>[Ex fun g=>Star (Bk (v.ownBlock.getD 0) 141 [.int .i64 (cc2:Int),.int .i64 0,.pointer (some ⟨g,0,none⟩)]) (Bk g 143 [.int .i64 ca,.int .i64 pa.s,pa.ptr,.int .i64 cb,.int .i64 pb.s,pb.ptr])]) vx | 26=>(fun v=>[Ex fun g=>Star (RowK v (ps++[⟨(cc2:Int),0,some g⟩])) (Bk g 143 [.int .i64 ca,.int .i64 pa.s,pa.ptr,.int .i64 cb,.int .i64 pb.s,pb.ptr])]) vx | 27=>(fun v=>[Ex fun g=>Star (RowK v (ps++[⟨(cc2:Int),0,some g⟩])) (Bk g 143 [.int .i64 ca,.int .i64 pa.s,pa.ptr,.int .i64 cb,.int .i64 pb.s,pb.ptr])]) vx | _=>[]) (fun ix=>match ix with | 26=>[RowK (.slice PA j pc) ps] | _=>[]) 28 130
          [some 83,some 84,some 85,some 86,some 87,some 88,some 89,some 90,some 91,some 92,some 93,some 94,some 95,some 96,some 97,some 98,some 99,some 100,some 101,some 102,some 103,some 104,some 105,some 106,some 107,some 108,some 109,some 11]
          [[],[],[],[1,2],[3],[4],[],[],[7],[6,8],[9],[10],[5,11],[],[],[13,14],[15],[],[],[18],[17,19],[20],[16,21],[22],[12,23],[24],[0,25],[26,26,0,1,2,3,4,5,6,7,8,9,10,11,12,13,14,15,16,17,18,19,20,21,22,23,24,25,26]]
          [[],[],[],[1,2],[1,2,3],[1,2,3,4],[],[],[7],[6,7,8],[6,7,8,9],[6,7,8,9,10],[1,2,3,4,5,6,7,8,9,10,11],[],[],[13,14],[13,14,15],[],[],[18],[17,18,19],[17,18,19,20],[13,14,15,16,17,18,19,20,21],[13,14,15,16,17,18,19,20,21,22],[1,2,3,4,5,6,7,8,9,10,11,12,13,14,15,16,17,18,19,20,21,22,23],[1,2,3,4,5,6,7,8,9,10,11,12,13,14,15,16,17,18,19,20,21,22,23,24],[0,1,2,3,4,5,6,7,8,9,10,11,12,13,14,15,16,17,18,19,20,21,22,23,24,25],[0,1,2,3,4,5,6,7,8,9,10,11,12,13,14,15,16,17,18,19,20,21,22,23,24,25,26]]
          [[],[],[],[],[],[],[],[],[],[],[],[],[],[],[],[],[],[],[],[],[],[],[],[],[23],[24],[25],[26]] [[],[],[],[],[],[],[],[],[],[],[],[],[],[],[],[],[],[],[],[],[],[],[],[],[],[],[],[]] [(10,.slice (some al) nn cc),(11,.slice PA j pc),(12,.int .i64 (k:Int))]
          (by kernel_rfl) rfl (by decide) (by rfl) (by decide +kernel) rfl rfl (by simp) (H) ?hstep ?hend
         case hstep =>
          refine⟨?p0,⟨?p1,⟨?p2,⟨?p3,⟨?p4,⟨?p5,⟨?p6,⟨?p7,⟨?p8,⟨?p9,⟨?p10,⟨?p11,⟨?p12,⟨?p13,⟨?p14,⟨?p15,⟨?p16,⟨?p17,⟨?p18,⟨?p19,⟨?p20,⟨?p21,⟨?p22,⟨?p23,⟨?p24,⟨?p25,⟨?p26,⟨?p27,trivial⟩⟩⟩⟩⟩⟩⟩⟩⟩⟩⟩⟩⟩⟩⟩⟩⟩⟩⟩⟩⟩⟩⟩⟩⟩⟩⟩⟩
          case p0 | p1 | p2 | p3 | p4 | p6 | p7 | p8 | p9 | p10 | p12 | p13 | p14 | p15 | p17 | p18 | p19 | p20 | p22 =>
           intro x wx A rest hDf hF hS hE H K hK
           replace hK:=Lib.hid hK
           clear hS hE hDf
           repeat (obtain⟨_,hF⟩:=hF)
           change Oper.wp _ _ A wx K _
           go_step
           exact hK.out _ _ rfl H
          case p5 =>
           intro x wx A rest hDf hF hS hE H K hK0
           replace hDf:=Lib.hid hDf
           have e87:A.tmps[87]?.getD undef=.pointer (some (al.add (k * 3))):=((hS 4 (by decide)).2 87 rfl).trans (hS 4 (by decide)).1
           replace H:Sp w0 (rest) wx:=H
           have hK:Hid (∀(v:Value) (w' : World),(v=.int .i64 ca)->Sp w0 (rest) w'->K (A.put (some 88) v) w'):=Lib.hid hK0
           clear hK0 hF hS
           have hrd:∀jj vv,pa.cells[jj]?=some vv->wx.cell? ((al.add (k * 3)).add jj)=some vv:=by
            obtain⟨al2,e9,hc9⟩:=rdK (hE (fun w=>Rd w (some al) (cellsK xs)) (Ent.cons _ (Ent.cons _ HX.out.2.2.1)) _ _ H) (i:=k) HEpa.out.2.1
            injection e9 with e9
            rw [HEpa.out.1,<- e9] at hc9
            exact hc9
           have hcc:wx.cell? (al.add (k * 3))=some (.int .i64 ca):=by
            have h9:=hrd 0 _ rfl
            rw [addr_add0,HEpa.out.2.2] at h9
            exact h9
           clear hrd
           change Oper.wp _ _ A wx K _
           go_step
           exact hK.out _ _ rfl (H)
          case p11 =>
           intro x wx A rest hDf hF hS hE H K hK0
           replace hDf:=Lib.hid hDf
           have e93:A.tmps[93]?.getD undef=.pointer (some (al.add (k1 * 3))):=((hS 10 (by decide)).2 93 rfl).trans (hS 10 (by decide)).1
           replace H:Sp w0 (rest) wx:=H
           have hK:Hid (∀(v:Value) (w' : World),(v=.int .i64 cb)->Sp w0 (rest) w'->K (A.put (some 94) v) w'):=Lib.hid hK0
           clear hK0 hF hS
           have hrd:∀jj vv,pb.cells[jj]?=some vv->wx.cell? ((al.add (k1 * 3)).add jj)=some vv:=by
            obtain⟨al2,e9,hc9⟩:=rdK (hE (fun w=>Rd w (some al) (cellsK xs)) (Ent.cons _ (Ent.cons _ HX.out.2.2.1)) _ _ H) (i:=k1) HEpb.out.2.1
            injection e9 with e9
            rw [HEpb.out.1,<- e9] at hc9
            exact hc9
           have hcc:wx.cell? (al.add (k1 * 3))=some (.int .i64 cb):=by
            have h9:=hrd 0 _ rfl
            rw [addr_add0,HEpb.out.2.2] at h9
            exact h9
           clear hrd
           change Oper.wp _ _ A wx K _
           go_step
           exact hK.out _ _ rfl (H)
          case p16 =>
           intro x wx A rest hDf hF hS hE H K hK0
           replace hDf:=Lib.hid hDf
           have e98:A.tmps[98]?.getD undef=.pointer (some (al.add (k * 3))):=((hS 15 (by decide)).2 98 rfl).trans (hS 15 (by decide)).1
           replace H:Sp w0 (rest) wx:=H
           have hK:Hid (∀(v:Value) (w' : World),(v=.agg #[.int .i64 ca,.int .i64 pa.s,pa.ptr])->Sp w0 (rest) w'->K (A.put (some 99) v) w'):=Lib.hid hK0
           clear hK0 hF hS
           have hrd:∀jj vv,pa.cells[jj]?=some vv->wx.cell? ((al.add (k * 3)).add jj)=some vv:=by
            obtain⟨al2,e9,hc9⟩:=rdK (hE (fun w=>Rd w (some al) (cellsK xs)) (Ent.cons _ (Ent.cons _ HX.out.2.2.1)) _ _ H) (i:=k) HEpa.out.2.1
            injection e9 with e9
            rw [HEpa.out.1,<- e9] at hc9
            exact hc9
           change Oper.wp _ _ A wx K _
           exact wp_load_agg 141 _ rfl _ pa.cells (ev e98) hrd Tryd.isAgg141 Tryd.sizeOf141 (hK.out _ _ (by rw [<- HEpa.out.2.2]; rfl) H)
          case p21 =>
           intro x wx A rest hDf hF hS hE H K hK0
           replace hDf:=Lib.hid hDf
           have e103:A.tmps[103]?.getD undef=.pointer (some (al.add (k1 * 3))):=((hS 20 (by decide)).2 103 rfl).trans (hS 20 (by decide)).1
           replace H:Sp w0 (rest) wx:=H
           have hK:Hid (∀(v:Value) (w' : World),(v=.agg #[.int .i64 cb,.int .i64 pb.s,pb.ptr])->Sp w0 (rest) w'->K (A.put (some 104) v) w'):=Lib.hid hK0
           clear hK0 hF hS
           have hrd:∀jj vv,pb.cells[jj]?=some vv->wx.cell? ((al.add (k1 * 3)).add jj)=some vv:=by
            obtain⟨al2,e9,hc9⟩:=rdK (hE (fun w=>Rd w (some al) (cellsK xs)) (Ent.cons _ (Ent.cons _ HX.out.2.2.1)) _ _ H) (i:=k1) HEpb.out.2.1
            injection e9 with e9
            rw [HEpb.out.1,<- e9] at hc9
            exact hc9
           change Oper.wp _ _ A wx K _
           exact wp_load_agg 141 _ rfl _ pb.cells (ev e103) hrd Tryd.isAgg141 Tryd.sizeOf141 (hK.out _ _ (by rw [<- HEpb.out.2.2]; rfl) H)
          case p23 =>
           intro x wx A rest hDf hF hS hE H K hK0
           replace hDf:=Lib.hid hDf
           have e105:A.tmps[105]?.getD undef=.agg #[.int .i64 ca,.int .i64 pa.s,pa.ptr,.int .i64 cb,.int .i64 pb.s,pb.ptr]:=((hS 22 (by decide)).2 105 rfl).trans (hS 22 (by decide)).1
           replace H:Sp w0 (rest) wx:=H
           have hK:Hid (∀(v:Value) (w' : World),(∃g,v=.pointer (some ⟨g,0,none⟩))->Sp w0 ((Bk (ptB v) 143 [.int .i64 ca,.int .i64 pa.s,pa.ptr,.int .i64 cb,.int .i64 pb.s,pb.ptr])::rest) w'->K (A.put (some 106) v) w'):=Lib.hid hK0
           clear hK0 hF hS hE
           change Oper.wp _ _ A wx K _
           go_step
           exact hK.out _ _ ⟨_,rfl⟩ (H.newBk _ _)
          case p24 =>
           intro x wx A rest hDf hF hS hE H K hK0
           replace hDf:=Lib.hid hDf
           have e95:A.tmps[95]?.getD undef=.int .i64 (cc2:Int):=((hS 12 (by decide)).2 95 rfl).trans (hS 12 (by decide)).1
           have q106:∃g,(x 23)=.pointer (some ⟨g,0,none⟩):=(hS 23 (by decide)).1
           have e106:A.tmps[106]?.getD undef=x 23:=(hS 23 (by decide)).2 106 rfl
           replace H:Sp w0 ((Bk (ptB (x 23)) 143 [.int .i64 ca,.int .i64 pa.s,pa.ptr,.int .i64 cb,.int .i64 pb.s,pb.ptr])::rest) wx:=H
           have hK:Hid (∀(v:Value) (w' : World),(∃g,v=.agg #[.int .i64 (cc2:Int),.int .i64 0,.pointer (some ⟨g,0,none⟩)])->Sp w0 ((Bk (agB v) 143 [.int .i64 ca,.int .i64 pa.s,pa.ptr,.int .i64 cb,.int .i64 pb.s,pb.ptr])::rest) w'->K (A.put (some 107) v) w'):=Lib.hid hK0
           clear hK0 hF hS hE
           obtain⟨g9,e9⟩:=q106
           rw [e9] at H e106
           change Oper.wp _ _ A wx K _
           go_step
           exact hK.out _ _ ⟨_,rfl⟩ H
          case p25 =>
           intro x wx A rest hDf hF hS hE H K hK0
           replace hDf:=Lib.hid hDf
           have q107:∃g,(x 24)=.agg #[.int .i64 (cc2:Int),.int .i64 0,.pointer (some ⟨g,0,none⟩)]:=(hS 24 (by decide)).1
           have e107:A.tmps[107]?.getD undef=x 24:=(hS 24 (by decide)).2 107 rfl
           replace H:Sp w0 ((Bk (agB (x 24)) 143 [.int .i64 ca,.int .i64 pa.s,pa.ptr,.int .i64 cb,.int .i64 pb.s,pb.ptr])::rest) wx:=H
           have hK:Hid (∀(v:Value) (w' : World),(∃g,v=.slice (some ⟨g,0,none⟩) 1 1)->Sp w0 ((Ex fun g=>Star (Bk (v.ownBlock.getD 0) 141 [.int .i64 (cc2:Int),.int .i64 0,.pointer (some ⟨g,0,none⟩)]) (Bk g 143 [.int .i64 ca,.int .i64 pa.s,pa.ptr,.int .i64 cb,.int .i64 pb.s,pb.ptr]))::rest) w'->K (A.put (some 108) v) w'):=Lib.hid hK0
           clear hK0 hF hS hE
           obtain⟨g9,e9⟩:=q107
           rw [e9] at H e107
           change Oper.wp _ _ A wx K _
           go_step
           exact hK.out _ _ ⟨_,rfl⟩ (Sp.ex g9 (H.newBk _ _).star)
          case p26 =>
           intro x wx A rest hDf hF hS hE H K hK0
           replace hDf:=Lib.hid hDf
           have e83:A.tmps[83]?.getD undef=.slice PA j pc:=((hS 0 (by decide)).2 83 rfl).trans (hS 0 (by decide)).1
           have q108:∃g,(x 25)=.slice (some ⟨g,0,none⟩) 1 1:=(hS 25 (by decide)).1
           have e108:A.tmps[108]?.getD undef=x 25:=(hS 25 (by decide)).2 108 rfl
           replace H:Sp w0 ((RowK (.slice PA j pc) ps)::(Ex fun g=>Star (Bk ((x 25).ownBlock.getD 0) 141 [.int .i64 (cc2:Int),.int .i64 0,.pointer (some ⟨g,0,none⟩)]) (Bk g 143 [.int .i64 ca,.int .i64 pa.s,pa.ptr,.int .i64 cb,.int .i64 pb.s,pb.ptr]))::rest) wx:=H
           have hK:Hid (∀(v:Value) (w' : World),(True)->Sp w0 ((Ex fun g=>Star (RowK v (ps++[⟨(cc2:Int),0,some g⟩])) (Bk g 143 [.int .i64 ca,.int .i64 pa.s,pa.ptr,.int .i64 cb,.int .i64 pb.s,pb.ptr]))::rest) w'->K (A.put (some 109) v) w'):=Lib.hid hK0
           clear hK0 hF hS hE
           obtain⟨g9,e9⟩:=q108
           rw [e9] at H e108
           obtain⟨g8,H⟩:=H.swap.unex
           replace H:=H.unstar.pick 3 [2,0,1]
           change Oper.wp _ _ A wx K _
           refine wp_append_sp _ _ 138 rfl 141 i0 (.agg #[.int .i64 0,.int .i64 0,.pointer none]) 3 24 Tryd.underlying138 hi hz0 hz1 hz2 rfl (by decide) (.slice PA j pc) ps.length (cellsK ps) (ev e83) H (some ⟨g9,0,none⟩) 1 1 [.int .i64 (cc2:Int),.int .i64 0,.pointer (some ⟨g8,0,none⟩)] (ev e108) rfl (Rd.of_blk (H.blk 1 rfl)) (PK.one ⟨(cc2:Int),0,some g8⟩) (by simp only [maxLen]; have:=HPL.out; omega) (by have:=HPL.out; omega) ?_
           intro v1 w2 H2 _
           refine hK.out _ _ trivial (Sp.ex g8 (Sp.star ?_))
           unfold RowK
           rw [List.length_append,cellsK_append]
           exact H2.pick 3 [0,2]
          case p27 =>
           intro x wx A rest hDf hF hS hE H K hK0
           replace hDf:=Lib.hid hDf
           have q109:True:=(hS 26 (by decide)).1
           have e109:A.tmps[109]?.getD undef=x 26:=(hS 26 (by decide)).2 109 rfl
           replace H:Sp w0 ((Ex fun g=>Star (RowK (x 26) (ps++[⟨(cc2:Int),0,some g⟩])) (Bk g 143 [.int .i64 ca,.int .i64 pa.s,pa.ptr,.int .i64 cb,.int .i64 pb.s,pb.ptr]))::rest) wx:=H
           have hK:Hid (∀(v:Value) (w' : World),(True)->Sp w0 ((Ex fun g=>Star (RowK v (ps++[⟨(cc2:Int),0,some g⟩])) (Bk g 143 [.int .i64 ca,.int .i64 pa.s,pa.ptr,.int .i64 cb,.int .i64 pb.s,pb.ptr]))::rest) w'->K (A.put (some 11) v) w'):=Lib.hid hK0
           clear hK0 hF hS hE
           change Oper.wp _ _ A wx K _
           go_step
           exact hK.out _ _ trivial H
         case hend =>
          intro x wx A hA hS H
          replace H:Sp w0 ((Ex fun g=>Star (RowK (x 27) (ps++[⟨(cc2:Int),0,some g⟩])) (Bk g 143 [.int .i64 ca,.int .i64 pa.s,pa.ptr,.int .i64 cb,.int .i64 pb.s,pb.ptr]))::Pool F2::Row 3 1 (.slice (some ad) i i) i (cntR i [])::(Rs++L)) wx:=H
          clear hS
          simp only [putAll,Act.put,List.setIfInBounds_toArray,List.set_cons_succ,List.set_cons_zero,Nat.reduceAdd] at hA
          subst hA
          obtain⟨g,H⟩:=H.unex
          replace H:=H.unstar
          have e6:[.int .i64 ca,.int .i64 pa.s,pa.ptr,.int .i64 cb,.int .i64 pb.s,pb.ptr]=pa.cells++pb.cells:=by
           rw [<- HEpa.out.2.2,<- HEpb.out.2.2]; rfl
          rw [e6] at H
          have H2:Sp w0 (Pool ((g,pa,pb)::F2)::RowK (x 27) (ps++[(⟨(cc2:Int),0,some g⟩:PK)])::Row 3 1 (.slice (some ad) i i) i (cntR i [])::(Rs++L)) wx:=Pool.cons (H.pick 3 [1,2,0])
          go_wp2_with fail
          go_roundw
          case rel =>
           refine⟨k+2,j+1,(g,pa,pb)::F2,ps++[(⟨(cc2:Int),0,some g⟩:PK)],by go_num,Lib.hid ⟨by have:=HJ.out.1; omega,?_,fun e he=>List.mem_cons_of_mem _ (HJ.out.2.2 e he)⟩,by omega,H2.swap⟩
           rw [HNXT.out]
           exact(HJ.out.2.1.mono fun _ h=>List.mem_cons_of_mem _ h).snoc (HENC2.out g (List.mem_cons_self ..))
          case measure=>first | (simp [intOf]; omega) | simp [intOf]
        ·have k6:¬ (k:Int)+1<(nn:Int):=by omega
         have hpe:PL.pairsTo (PL.lst it q) j=PL.pairs (PL.lst it q):=by
          unfold PL.pairs
          rw [HNL.out,show nn / 2=j by have:=HJ.out.1; omega]
         have hjn:j<=nn:=by have:=HJ.out.1; omega
         have hencs:EncL F2 (PL.lst it (q+1)) (SS.isort keyK (S++ps)):=by
          have h1:=HJ.out.2.1
          rw [hpe] at h1
          exact EncL.isort (show EncL F2 (it++PL.pairs (PL.lst it q)) (S++ps) from(HE2.out.mono fun _ h=>by cases h).append h1)
         have hmg:=merge_ok VB PA kk Vd j pc S ps H HSL.out hpl (Ent.cons _ (Ent.cons _ (Ent.cons _ HX.out.2.2.2))) (fun _ _ H=>by
          obtain⟨A9,c9,e9,hr9,_,_⟩:=H.row_rd 0 rfl
          injection e9 with e9
          rw [e9]; exact hr9) (by omega) (by omega)
         have HMG:=Lib.hid hmg
         have HENCS:=Lib.hid hencs
         have HPL:=Lib.hid hpl
         clear hpe hencs hmg hpl
         go_wp2_with fail
         refine HMG.out.mono ?_
         rintro _ w7 ⟨v,rfl,H8⟩
         clear HMG H
         obtain⟨VN,Vm,hvf,hvm,_⟩:=RowK.form H8 0 rfl
         subst hvf
         have H9:Sp w0 (Pool F2::Row 3 1 (.slice (some ad) i i) i (cntR i [])::(([RowK (.slice VN (SS.isort keyK (S++ps)).length Vm) (SS.isort keyK (S++ps))]++Rs)++L)) w7:=H8.pick 4 [2,3,0]
         have hbN:Ent (([RowK (.slice VN (SS.isort keyK (S++ps)).length Vm) (SS.isort keyK (S++ps))]++Rs)++L) (fun w=>Rd w VN (cellsK (SS.isort keyK (S++ps)))):=fun _ _ H=>by
          obtain⟨A9,c9,e9,hr9,_,_⟩:=H.row_rd 0 rfl
          injection e9 with e9
          rw [e9]; exact hr9
         have hbS2:Ent (([RowK (.slice VN (SS.isort keyK (S++ps)).length Vm) (SS.isort keyK (S++ps))]++Rs)++L) (fun w=>Rd w VB (cellsK S)):=HX.out.2.2.2.cons _
         have HBN:=Lib.hid hbN
         have HBS2:=Lib.hid hbS2
         clear hbN hbS2 H8
         go_wp2_with fail
         go_roundw
         case rel=>exact⟨q+1,_,Vm,VN,F2,_,_,by go_num,rfl,by omega,hvm,Lib.hid ⟨rfl,HENCS.out,HBN.out,HBS2.out⟩,H9⟩
         case measure=>first | (simp [intOf]; omega) | simp [intOf]
      ·have k5:¬ (q:Int)<(l1:Int):=by omega
       obtain rfl:q=l1:=by omega
       obtain⟨k2,hk2b⟩:∃k2,2 * kk=k2:=⟨_,rfl⟩
       have y5:(2:Int) * (kk:Int)=(k2:Int):=by omega
       obtain⟨t,ht⟩:∃t,k2=t+2:=⟨k2 - 2,by omega⟩
       have y6:(k2:Int) - 2=(t:Int):=by omega
       have htn:t<=nn:=by
        have:=HEN.out
        rw [show lm - 1=q by have:=HL1.out; omega,hnl,HIT.out] at this
        omega
       have htc:t<=cc:=by omega
       have k6:(t:Int)<=(cc:Int):=by omega
       have k7:(0:Int)<=(t:Int):=by omega
       have hTT:T=((PL.lst it q).take t).flatMap Prod.snd:=by
        rw [HT2.out,show lm - 1=q by have:=HL1.out; omega,show 2 * kk - 2=t by omega]
       have HTT:=Lib.hid hTT
       have HNL:=Lib.hid hnl
       clear hk2b ht hTT hnl HT2 HEN HL1
       go_wp2_with fail
       go_loopw [121] (fun iv wr=>∃(r:Nat),iv=.int .i64 (r:Int)/\r<=t/\Sp w0 (Row 3 1 (.slice (some ad) i i) i (cntR i (((PL.lst it q).take r).flatMap Prod.snd))::Pool F::(Rs++L)) wr) (fun iv _=>t - (intOf iv).toNat)
       case atStart=>exact⟨0,rfl,Nat.zero_le _,H.swap⟩
       case round =>
        clear H
        obtain⟨r,rfl,hrt,H⟩:=hrel
        by_cases hr:r<t
        ·have k8:(r:Int)<(t:Int):=by omega
         obtain⟨px,hpx⟩:∃px,xs.getD r pk0=px:=⟨_,rfl⟩
         obtain⟨tx,htx⟩:∃tx,(PL.lst it q).getD r PL.pk0=tx:=⟨_,rfl⟩
         have hrx:r<xs.length:=by rw [HX.out.1]; omega
         have hex:Enc F tx.1 tx.2 px:=by
          rw [<- htx,<- hpx]
          exact HX.out.2.1.get PL.pk0 pk0 r (by rw [HNL.out]; omega)
         obtain⟨al,hal,hrd⟩:=rdK (HX.out.2.2.1 _ _ H.tail2) hrx
         subst hal
         rw [hpx] at hrd
         obtain⟨acc,hacc⟩:∃acc,((PL.lst it q).take r).flatMap Prod.snd=acc:=⟨_,rfl⟩
         have hnext:((PL.lst it q).take (r+1)).flatMap Prod.snd=acc++tx.2:=by
          have hrl:r<(PL.lst it q).length:=by rw [HNL.out]; omega
          have e9:(PL.lst it q)[r]=tx:=by rw [<- htx,List.getD_eq_getElem?_getD,List.getElem?_eq_getElem hrl]; rfl
          rw [List.take_succ_eq_append_getElem hrl,List.flatMap_append,hacc,e9]; simp
         rw [hacc] at H
         have hlenf:∀l:List PL.Pk,(l.flatMap Prod.snd).length=PL.wt (fun p=>p.2.length) l:=by
          intro l
          induction l with
          | nil=>rfl
          | cons p l ih=>rw [List.flatMap_cons,List.length_append,ih]; rfl
         have hal2:acc.length+tx.2.length<=1000000000:=by
          rw [<- List.length_append,<- hnext,hlenf]
          have h1:=PL.wt_take (fun p=>p.2.length) (PL.lst it q) (r+1)
          have h2:=PL.wt_lst (fun p=>p.2.length) (fun _ _=>List.length_append) it q
          have h3:PL.wt (fun p=>p.2.length) it<=it.length:=by
           have:∀l:List PL.Pk,(∀p ∈ l,p.2.length=1)->PL.wt (fun p=>p.2.length) l<=l.length:=by
            intro l
            induction l with
            | nil=>intro _; exact Nat.le_refl _
            | cons p l ih =>
             intro hp
             have h1:=hp p (List.mem_cons_self ..)
             have h2:=ih fun q hq=>hp q (List.mem_cons_of_mem _ hq)
             show p.2.length+PL.wt _ l<=l.length+1
             omega
           exact this it fun p hp=>(HME.out p hp).2.1
          rw [HIT.out] at h3
          have h4:(q+1) * PL.wt (fun p=>p.2.length) it<=2000 * 2000:=Nat.mul_le_mul (by omega) (by omega)
          omega
         have hsy:∀z ∈ tx.2,z<i:=by
          have:=PL.lst_mem (fun p=>∀z ∈ p.2,z<i) (fun a b ha hb z hz=>by
           rcases List.mem_append.1 hz with hz | hz
           ·exact ha z hz
           ·exact hb z hz) it (fun p hp=>(HME.out p hp).2.2) q tx (by
            rw [<- htx,List.getD_eq_getElem?_getD,List.getElem?_eq_getElem (by rw [HNL.out]; omega)]; exact List.getElem_mem _)
          exact this
         have hsp:=fun w=>spread_ok (n:=i) (v:=.slice (some ad) i i) (w0:=w0) (by omega) hex (Rs++L) acc w hsy hal2
         have HSP:=Lib.hid hsp
         have HNXT:=Lib.hid hnext
         have HRD:=Lib.hid hrd
         clear hpx htx hrx hex hrd hacc hnext hlenf hal2 hsy hsp
         have hnb:=H.newBk [.int .i64 0,.int .i64 0,.pointer none] 141
         have HNB:=Lib.hid hnb
         clear hnb
         go_wp2_with (first | (refine wpList_load_agg rfl 141 _ rfl (al.add (r * 3)) px.cells rfl HRD.out Tryd.isAgg141 Tryd.sizeOf141 ?_) | (refine wpList_store_whole rfl 141 _ _ rfl wr.heap.size 141 [.int .i64 0,.int .i64 0,.pointer none] px.cells rfl rfl HNB.out rfl Tryd.sizeOf141 px.one ?_))
         intro w8 H8
         generalize wr.heap.size=g8 at H8 ⊢
         have HB8:=Lib.hid (H8.blk 0 rfl)
         clear HNB HRD H
         go_wp2_with (refine wpList_load_whole rfl 141 _ rfl g8 141 px.cells rfl HB8.out Tryd.isAgg141 Tryd.sizeOf141 ?_)
         refine(HSP.out _ H8.tail).mono ?_
         rintro _ w9 ⟨rfl,H9⟩
         clear HSP H8 HB8
         go_wp2_with fail
         go_roundw
         case rel=>exact⟨r+1,by go_num,by omega,by rw [HNXT.out]; exact H9⟩
         case measure=>first | (simp [intOf]; omega) | simp [intOf]
        ·have k8:¬ (r:Int)<(t:Int):=by omega
         obtain rfl:r=t:=by omega
         rw [<- HTT.out] at H
         go_wp2_with fail
         go_ret2
         exact⟨_,rfl,Sp.dropMid 1 [Pool F] rfl H⟩
end Go.Proofs.YtloijdbkikccgaaDoor

namespace Go.Proofs.YtloijdbkikccgaaDoor.PBits
def le:List UInt8->Nat
 | []=>0
 | b::l=>b.toNat+256 * le l
def bytesOf (V:Nat):Nat->List UInt8
 | 0=>[]
 | n+1=>UInt8.ofNat (V % 256)::bytesOf (V / 256) n
theorem le_lt (l:List UInt8):le l<256 ^ l.length:=by
 induction l with
 | nil=>simp [le]
 | cons b l ih =>
  have:=b.toNat_lt
  simp only [le,List.length_cons,Nat.pow_succ]
  omega
theorem bytesOf_length (V n:Nat):(bytesOf V n).length=n:=by
 induction n generalizing V with
 | zero=>rfl
 | succ n ih=>simp [bytesOf,ih]
theorem bytesOf_le (l:List UInt8):bytesOf (le l) l.length=l:=by
 induction l with
 | nil=>rfl
 | cons b l ih =>
  have hb:=b.toNat_lt
  have h1:(b.toNat+256 * le l) % 256=b.toNat:=by omega
  have h2:(b.toNat+256 * le l) / 256=le l:=by omega
  simp only [le,List.length_cons,bytesOf,h1,h2,ih]
  simp
theorem bytesOf_add (V n m:Nat):bytesOf V (n+m)=bytesOf V n++bytesOf (V / 256 ^ n) m:=by
 induction n generalizing V with
 | zero=>simp [bytesOf]
 | succ n ih =>
  rw [show n+1+m=(n+m)+1 by omega]
  simp only [bytesOf,ih,List.cons_append,Nat.div_div_eq_div_mul]
  rw [show 256 * 256 ^ n=256 ^ (n+1) by rw [Nat.pow_succ,Nat.mul_comm]]
theorem bytesOf_more (V W n:Nat):bytesOf (V+W * 256 ^ n) n=bytesOf V n:=by
 induction n generalizing V W with
 | zero=>rfl
 | succ n ih =>
  have h1:(V+W * 256 ^ (n+1)) % 256=V % 256:=by
   rw [Nat.pow_succ,<- Nat.mul_assoc,Nat.add_mul_mod_self_right]
  have h2:(V+W * 256 ^ (n+1)) / 256=V / 256+W * 256 ^ n:=by
   rw [Nat.pow_succ,<- Nat.mul_assoc,Nat.add_mul_div_right _ _ (by omega)]
  simp only [bytesOf,h1,h2,ih]
def rev (n:Nat):Nat->Nat
 | 0=>0
 | k+1=>(n % 2) * 2 ^ k+rev (n / 2) k
theorem rev_lt (n k:Nat):rev n k<2 ^ k:=by
 induction k generalizing n with
 | zero=>simp [rev]
 | succ k ih =>
  have:=ih (n / 2)
  have hm:n % 2=0∨n % 2=1:=by omega
  simp only [rev,Nat.pow_succ]
  rcases hm with h | h <;> rw [h] <;> omega
theorem rev_bit (n k i:Nat):(rev n k).testBit i=(decide (i<k) && n.testBit (k - 1 - i)):=by
 induction k generalizing n i with
 | zero=>simp [rev]
 | succ k ih =>
  have hl:=rev_lt (n / 2) k
  simp only [rev]
  rw [Nat.mul_comm,Nat.testBit_two_pow_mul_add _ hl,ih]
  by_cases h1:i<k
  ·have e:k+1 - 1 - i=(k - 1 - i)+1:=by omega
   rw [if_pos h1,e,Nat.testBit_succ]
   simp [h1,show i<k+1 by omega]
  ·rw [if_neg h1]
   by_cases h2:i=k
   ·subst h2
    simp [Nat.testBit_zero]
   ·have h3:¬ i<k+1:=by omega
    have h4:∃j,i - k=j+1:=⟨i - k - 1,by omega⟩
    obtain⟨j,hj⟩:=h4
    rw [hj,Nat.testBit_succ]
    have h5:n % 2 / 2=0:=by omega
    simp [h3,h5]
def sw (s M x:Nat):Nat:=(x / 2 ^ s &&& M) ||| (x &&& M) * 2 ^ s
def swi (s i:Nat):Nat:=if i / s % 2=0 then i+s else i - s
def Mask (s M:Nat):Prop:=∀j,j<64->M.testBit j=decide (j / s % 2=0)
theorem sw_bit (s M x i:Nat) (hs:s=1∨s=2∨s=4∨s=8∨s=16∨s=32) (hM:Mask s M) (hi:i<64):(sw s M x).testBit i=x.testBit (swi s i):=by
 unfold sw swi
 rw [Nat.testBit_or,Nat.testBit_and,Nat.testBit_div_two_pow,Nat.testBit_mul_two_pow,Nat.testBit_and,hM i hi,hM (i - s) (by omega)]
 by_cases h:i / s % 2=0
 ·have h2:s<=i->¬ (i - s) / s % 2=0:=by
   rcases hs with rfl | rfl | rfl | rfl | rfl | rfl <;> omega
  rw [if_pos h]
  by_cases h3:s<=i
  ·simp [h,h2 h3]
  ·simp [h,h3]
 ·have h2:(i - s) / s % 2=0:=by
   rcases hs with rfl | rfl | rfl | rfl | rfl | rfl <;> omega
  have h3:s<=i:=by
   rcases hs with rfl | rfl | rfl | rfl | rfl | rfl <;> omega
  rw [if_neg h]
  simp [h,h2,h3]
theorem mask1:Mask 1 6148914691236517205:=by unfold Mask; decide +kernel
theorem mask2:Mask 2 3689348814741910323:=by unfold Mask; decide +kernel
theorem mask4:Mask 4 1085102592571150095:=by unfold Mask; decide +kernel
theorem mask8:Mask 8 71777214294589695:=by unfold Mask; decide +kernel
theorem mask16:Mask 16 281470681808895:=by unfold Mask; decide +kernel
theorem mask32:Mask 32 4294967295:=by unfold Mask; decide +kernel
def rev64 (x:Nat):Nat:=sw 32 4294967295 (sw 16 281470681808895 (sw 8 71777214294589695 (sw 4 1085102592571150095 (sw 2 3689348814741910323 (sw 1 6148914691236517205 x)))))
theorem swi_all:∀i,i<64->swi 1 (swi 2 (swi 4 (swi 8 (swi 16 (swi 32 i)))))=63 - i/\swi 32 i<64/\swi 16 (swi 32 i)<64/\swi 8 (swi 16 (swi 32 i))<64/\swi 4 (swi 8 (swi 16 (swi 32 i)))<64/\swi 2 (swi 4 (swi 8 (swi 16 (swi 32 i))))<64:=by decide +kernel
theorem rev64_bit (x i:Nat) (hi:i<64):(rev64 x).testBit i=x.testBit (63 - i):=by
 obtain⟨h0,h1,h2,h3,h4,h5⟩:=swi_all i hi
 unfold rev64
 rw [sw_bit 32 _ _ _ (by omega) mask32 hi,sw_bit 16 _ _ _ (by omega) mask16 h1,sw_bit 8 _ _ _ (by omega) mask8 h2,sw_bit 4 _ _ _ (by omega) mask4 h3,sw_bit 2 _ _ _ (by omega) mask2 h4,sw_bit 1 _ _ _ (by omega) mask1 h5,h0]
theorem sw_lt (s M x:Nat) (hM:M * 2 ^ s<18446744073709551616) (hM2:M<18446744073709551616):sw s M x<18446744073709551616:=by
 unfold sw
 rw [show(18446744073709551616:Nat)=2 ^ 64 by decide] at *
 refine Nat.or_lt_two_pow (Nat.and_lt_two_pow _ hM2) ?_
 exact Nat.lt_of_le_of_lt (Nat.mul_le_mul_right _ Nat.and_le_right) hM
theorem rev64_lt (x:Nat):rev64 x<18446744073709551616:=by
 unfold rev64 sw
 rw [show(18446744073709551616:Nat)=2 ^ 64 by decide]
 refine Nat.or_lt_two_pow (Nat.and_lt_two_pow _ (by decide)) ?_
 exact Nat.lt_of_le_of_lt (Nat.mul_le_mul_right _ Nat.and_le_right) (by decide)
theorem rev64_rev (x k:Nat) (hk:k<=64):rev64 x / 2 ^ (64 - k)=rev x k:=by
 apply Nat.eq_of_testBit_eq
 intro i
 rw [Nat.testBit_div_two_pow,rev_bit]
 by_cases h:i<k
 ·rw [rev64_bit _ _ (by omega),show 63 - (i+(64 - k))=k - 1 - i by omega]
  simp [h]
 ·rw [Nat.testBit_lt_two_pow (Nat.lt_of_lt_of_le (rev64_lt x) (by rw [show(18446744073709551616:Nat)=2 ^ 64 by decide]; exact Nat.pow_le_pow_right (by omega) (by omega)))]
  simp [h]
theorem pow_parts (N:Nat):2 ^ N=2 ^ (N % 8) * 256 ^ (N / 8):=by
 rw [show(256:Nat)=2 ^ 8 by decide,<- Nat.pow_mul,<- Nat.pow_add]
 congr 1
 omega
theorem put_bytes (V n N:Nat):bytesOf (V+n * 2 ^ N) (N / 8)=bytesOf V (N / 8):=by
 rw [pow_parts N,<- Nat.mul_assoc,bytesOf_more]
theorem put_wait (V n N:Nat):(V+n * 2 ^ N) / 256 ^ (N / 8)=V / 256 ^ (N / 8)+n * 2 ^ (N % 8):=by
 rw [pow_parts N,<- Nat.mul_assoc,Nat.add_mul_div_right _ _ (Nat.pow_pos (by decide))]
theorem byte_next (X q:Nat):bytesOf X (q+1)=bytesOf X q++[UInt8.ofNat (X / 256 ^ q % 256)]:=by
 rw [bytesOf_add]
 rfl
theorem div_next (X q:Nat):X / 256 ^ q / 256=X / 256 ^ (q+1):=by
 rw [Nat.div_div_eq_div_mul,Nat.pow_succ]
end Go.Proofs.YtloijdbkikccgaaDoor.PBits

namespace Go.Proofs.YtloijdbkikccgaaDoor
open Go.RowKit
def cellsBo (l:List Bool):List Value:=l.map Value.bool
theorem Rd.atB {w:World} {A:Option Addr} {l:List Bool} (h:Rd w A (cellsBo l)) {k:Nat} (hk:k<l.length) :
  ∃ad,A=some ad/\w.cell? (ad.add k)=some (.bool l[k]):=by
 obtain⟨ad,e,hc⟩:=h.at_ (k:=k) (by simpa [cellsBo] using hk)
 exact⟨ad,e,by simpa [cellsBo] using hc⟩
def bitV (b:Bool):Nat:=if b then 1 else 0
namespace PH
def numb (l:List Bool):Nat:=l.foldl (fun x b=>2 * x+bitV b) 0
def nextFrom (m:List Nat) (l:List Bool):Nat->Nat->Nat × Int × Nat
 | 0,n=>(n,20,0)
 | k+1,n=>if l.length<=n then (n,4,0) else
  if numb (l.take (n+1))<fst m (n+1)+tal m (n+1) then (n+1,0,(rows m).getD ((rowsB m n).length+(numb (l.take (n+1)) - fst m (n+1))) 0) else nextFrom m l k (n+1)
theorem rowsB_tal (m:List Nat) (n:Nat):(rowsB m (n+1)).length=(rowsB m n).length+tal m (n+1):=by
 rw [rowsB,List.length_append]
 congr 1
 unfold tal
 rw [if_neg (by omega)]
 have h:∀k,k<=m.length->(idx m (n+1) k).length=(m.take k).count (n+1):=by
  intro k
  induction k with
  | zero=>intro _; simp [idx]
  | succ k ih =>
   intro hk
   have h1:=ih (by omega)
   have hg:m.getD k 0=m[k]'(by omega):=by rw [List.getD_eq_getElem?_getD,List.getElem?_eq_getElem (by omega)]; rfl
   rw [idx_succ,List.take_succ_eq_append_getElem (by omega),List.count_append,hg]
   by_cases e:m[k]'(by omega)=n+1
   ·rw [if_pos e,List.length_append,h1,e]; simp
   ·rw [if_neg e,h1]; simp [e]
 have:=h m.length (Nat.le_refl _)
 rwa [List.take_length] at this
theorem rowsB_mono (m:List Nat) (n k:Nat) (h:n<=k):(rowsB m n).length<=(rowsB m k).length:=by
 obtain⟨d,rfl⟩:∃d,k=n+d:=⟨k - n,by omega⟩
 clear h
 induction d with
 | zero=>exact Nat.le_refl _
 | succ d ih=>have:=rowsB_tal m (n+d); rw [<- Nat.add_assoc]; omega
end PH
end Go.Proofs.YtloijdbkikccgaaDoor

