/- A pack of texts: HuffO. -/
import Derived.Test.YtloijdbkikccgaaDoorPk11
import Derived.Test.YtloijdbkikccgaaDoorPk12
namespace Go.Proofs.YtloijdbkikccgaaDoor
open Go.RowKit
theorem rdK {w:World} {A:Option Addr} {l:List PK} (h:Rd w A (cellsK l)) {i:Nat} (hi:i<l.length):∃ ad,A=some ad∧∀ j v,(l.getD i pk0).cells[j]?=some v→w.cell? ((ad.add (i * 3)).add j)=some v:=by
 obtain ⟨ad,e,hc⟩:=h (by intro h0; have:=cellsK_len l; rw [h0] at this; simp at this; omega)
 refine ⟨ad,e,fun j v hj=>?_⟩
 rw [Go.Addr.add_add]
 exact hc _ _ (cellsK_get l i j hi v hj)
theorem addr_add0 (ad:Addr) (k:Nat):(ad.add k).add 0=ad.add k:=by rw [Go.Addr.add_add,Nat.add_zero]
theorem cntR_nil (n:Nat):List.replicate n (Value.int .i64 0)=cntR n []:=by
 apply List.ext_getElem?
 intro i
 by_cases h:i<n
 ·rw [cntR_get _ _ _ h,List.getElem?_replicate,if_pos h]; rfl
 ·rw [List.getElem?_eq_none (by simp; omega),List.getElem?_eq_none (by rw [cntR_len]; omega)]
theorem Sp.dropMid {w0 w:World} {A:Pr} {Rs L:List Pr} (k:Nat) (K:List Pr) (hk:K.length=k) (H:Sp w0 (A::(K++(Rs++L))) w):Sp w0 (A::L) w:=by
 have h:=H.pick (1+k+Rs.length) [0] ⟨by simp,by intro i hi; simp at hi; omega⟩
 have e:(A::(K++(Rs++L))).drop (1+k+Rs.length)=L:=by
  rw [show 1+k+Rs.length=(k+Rs.length)+1 by omega,List.drop_succ_cons,List.drop_append,hk,List.drop_eq_nil_of_le (by omega),List.nil_append,show k+Rs.length - k=Rs.length by omega,List.drop_left]
 rw [e] at h
 exact h
def ptB:Value→Nat
 | .pointer (some a)=>a.block
 | _=>0
def agB:Value→Nat
 | .agg a=>ptB (a.getD 2 undef)
 | _=>0
def castN (m:List Nat):List Int:=m.map fun n:Nat=>(n:Int)
set_option maxRecDepth 100000 in
set_option maxHeartbeats 8000000 in
theorem lengths_ok (A:Option Addr) (n c:Nat) (cs:List Nat) (lm:Nat) {w0 w:World} {L:List Pr} (H:Sp w0 L w) (hn:n=cs.length) (hb:Ent L fun w=>Rd w A (cells64 (castN cs))) (hl:n≤1024) (h1:1≤lm) (h15:lm≤15) (hc:∀ x ∈ cs,x≤4294967296) (hk:(PL.items cs).length≤2 ^ lm) :
  Calls Tryd.prog 38 #[.slice A n c,.int .i64 (lm:Int)] w fun e w'=>∃ v,e=.returned (.tuple #[v,.int .i64 0])∧Sp w0 (Row 3 1 v n (cellsN (PL.lens cs lm))::L) w':=by
 obtain ⟨i0,hi,hz0,hz1,hz2⟩:=info_parts infoK
 obtain ⟨i1,hj,hj0,hj1,hj2⟩:=info_parts infoJ
 have HN:=Lib.hid hn
 have HB:=Lib.hid hb
 have HC:=Lib.hid hc
 have HK:=Lib.hid hk
 have hres:cellsN (PL.lens cs lm)=cntR n (PL.flat cs lm):=by
  unfold cellsN PL.lens cntR
  rw [List.map_map,← hn]; rfl
 rw [hres]
 obtain ⟨T,hT⟩:∃ T,PL.flat cs lm=T:=⟨_,rfl⟩
 rw [hT]
 have HT:=Lib.hid hT
 obtain ⟨pw,hpw⟩:∃ p,2 ^ lm=p:=⟨_,rfl⟩
 have hpw2:pw≤32768:=by
  rw [← hpw]
  have:(2:Nat) ^ lm≤2 ^ 15:=Nat.pow_le_pow_right (by omega) h15
  exact this
 have y1:(2:Int) ^ lm=(pw:Int):=by rw [← hpw]; simp
 rw [hpw] at HK
 have HPW:=Lib.hid hpw
 clear hn hb hc hk hres hT hpw
 go_enter Tryd.func38,Tryd.ntmps38
 go_wp2_with fail
 go_loopw [6,28] (fun vv iv wr=>∃ (i:Nat),iv=.int .i64 (i:Int)∧i≤n∧Sp w0 (RowK vv (leafs cs i)::L) wr) (fun _ iv _=>n - (intOf iv).toNat)
 case atStart=>exact ⟨0,rfl,Nat.zero_le _,H.rowNil _ _⟩
 case round =>
  clear H
  obtain ⟨i,rfl,hin,H⟩:=hrel
  obtain ⟨D,hD⟩:∃ D,leafs cs i=D:=⟨_,rfl⟩
  have hDl:D.length≤i:=by rw [← hD,leafs_len]; exact PL.itemsTo_len cs i
  rw [hD] at H
  obtain ⟨VA,Vc,hvf,_,_⟩:=RowK.form H 0 rfl
  subst hvf
  by_cases hlt:i<n
  ·have k1:(i:Int)<(n:Int):=by omega
   have hic:i<cs.length:=by rw [← HN.out]; exact hlt
   obtain ⟨al,hal,hcell⟩:=(HB.out _ _ H.tail).at64 (k:=i) (by simpa [castN] using hic)
   obtain ⟨x,hx⟩:∃ x,cs.getD i 0=x:=⟨_,rfl⟩
   have hx2:cs[i]=x:=by rw [← hx,List.getD_eq_getElem?_getD,List.getElem?_eq_getElem hic]; rfl
   have hxl:x≤4294967296:=by rw [← hx2]; exact HC.out _ (List.getElem_mem hic)
   replace hcell:wr.cell? (al.add i)=some (.int .i64 (x:Int)):=by
    rw [hcell]
    simp [castN,hx2]
   have hnext:=leafs_succ cs i
   rw [hx,hD] at hnext
   have HNX:=Lib.hid hnext
   have k2:¬ (x:Int)<0:=by omega
   have k3:¬ 4294967296<(x:Int):=by omega
   subst hal
   clear hx hx2 hnext hD
   by_cases hx0:0<x
   ·have k4:(0:Int)<(x:Int):=by omega
    have hr9:=Rd.of_blk (Blk.new wr 141 [.int .i64 (x:Int),.int .i64 (i:Int),.pointer none])
    have HR9:=Lib.hid hr9
    have h9:=(H.newBk [.int .i64 (x:Int),.int .i64 (i:Int),.pointer none] 141).swap
    have HH9:=Lib.hid h9
    clear hr9 h9 H
    go_wp2_with (at_builtin; refine wpList_append_sp rfl _ _ 138 rfl 141 i0 (.agg #[.int .i64 0,.int .i64 0,.pointer none]) 3 24 Tryd.underlying138 hi hz0 hz1 hz2 rfl (by decide) (.slice VA D.length Vc) D.length (cellsK D) rfl HH9.out (some ⟨wr.heap.size,0,none⟩) 1 1 [.int .i64 (x:Int),.int .i64 (i:Int),.pointer none] rfl rfl HR9.out (PK.one ⟨x,i,none⟩) (by simp only [maxLen]; omega) (by omega) ?_)
    intro v6 w6 H6 _
    clear HR9 HH9
    go_wp2_with fail
    go_roundw
    case rel =>
     refine ⟨i+1,by go_num,by omega,?_⟩
     rw [HNX.out,if_pos hx0]
     unfold RowK
     rw [List.length_append,cellsK_append]
     exact H6.pick 2 [0]
    case measure=>first | (simp [intOf]; omega) | simp [intOf]
   ·have k4:¬ (0:Int)<(x:Int):=by omega
    go_wp2_with fail
    go_roundw
    case rel=>exact ⟨i+1,by go_num,by omega,by rw [HNX.out,if_neg hx0]; exact H⟩
    case measure=>first | (simp [intOf]; omega) | simp [intOf]
  ·have k1:¬ (i:Int)<(n:Int):=by omega
   obtain rfl:i=n:=by omega
   have hit:leafs cs i=leafs cs cs.length:=by rw [← HN.out]
   have hkk:D.length=(PL.items cs).length:=by rw [← hD,hit,leafs_len]; rfl
   have henc:EncL [] (PL.items cs) D:=by rw [← hD,hit]; exact leafs_enc [] cs cs.length
   obtain ⟨kk,hkk2⟩:∃ kk,D.length=kk:=⟨_,rfl⟩
   have hkp:kk≤pw:=by have:=HK.out; omega
   have hkk3:(PL.items cs).length=kk:=by omega
   rw [hkk2] at hDl
   unfold RowK at H
   rw [hkk2] at H
   have HKK:=Lib.hid hkk2
   have HKK3:=Lib.hid hkk3
   have HENC:=Lib.hid henc
   have hdd:D=(PL.items cs).map fun p=>⟨(p.1:Int),((p.2.getD 0 0:Nat):Int),none⟩:=by rw [← hD,hit]; rfl
   have HDD:=Lib.hid hdd
   have k2:¬ (pw:Int)<(kk:Int):=by omega
   rw [hkk2]
   clear hit hkk henc hkk2 hkk3 hD hdd
   go_wp2_with (at_make; refine wpList_make_sp rfl _ _ _ rfl 3 i1 (.int .i64 0) Tryd.underlying58 hj hj0 hj1 rfl i rfl rfl (by rw [hj2]; omega) (by unfold maxLen; omega) H ?_)
   intro ad w5 H5
   rw [cntR_nil] at H5
   by_cases hk1:kk=1
   ·have k3:((kk:Int) == 1)=true:=by rw [beq_iff_eq]; omega
    have k4:(kk:Int)<2:=by omega
    obtain ⟨p,hp⟩:=List.length_eq_one_iff.1 (by rw [HKK3.out,hk1]:(PL.items cs).length=1)
    have hp2:=PL.itemsTo_mem cs cs.length p (by rw [show PL.itemsTo cs cs.length=PL.items cs from rfl,hp]; exact List.mem_singleton.2 rfl)
    obtain ⟨pc,ps⟩:=p
    obtain ⟨sy,hsy⟩:=List.length_eq_one_iff.1 hp2.2.1
    simp only at hsy
    subst hsy
    have hsn:sy<i:=by rw [HN.out]; exact hp2.2.2.2 sy (List.mem_singleton.2 rfl)
    have hD1:D=[⟨(pc:Int),(sy:Int),none⟩]:=by rw [HDD.out,hp]; rfl
    have hT1:T=[sy]:=by
     rw [← HT.out,PL.flat,if_pos (by rw [HKK3.out]; omega),hp]; rfl
    subst hD1 hT1
    subst hk1
    obtain ⟨A9,c9,e9,hr9,_,_⟩:=H5.row_rd 1 rfl
    injection e9 with e9 e10 e11
    clear e10 e11
    obtain ⟨ai,rfl,hcl⟩:=hr9 (by simp [cellsK,PK.cells])
    subst e9
    have d1:w5.cell? ⟨ai.block,ai.off+1,none⟩=some (.int .i64 (sy:Int)):=hcl 1 _ rfl
    obtain ⟨ad2,c2,ev,_,hc,hz,hset⟩:=H5.rowSet hsn
    injection ev with ev ev2 ev3
    injection ev with ev
    subst ev
    clear ev2 ev3
    rw [cntR_get _ _ _ hsn] at hc
    replace hc:w5.cell? (ad.add sy)=some (.int .i64 0):=hc
    have hst:=hset (.int .i64 1)
    rw [cntR_set i sy [] 1 (by simp),List.nil_append] at hst
    have HST:=Lib.hid hst
    have k5:(sy:Int)<(i:Int):=by omega
    clear hset hst hcl hp hp2 HDD HENC HKK
    go_wp2_with fail
    go_ret2
    exact ⟨_,rfl,HST.out.pick 2 [0]⟩
   ·have k3:((kk:Int) == 1)=false:=by rw [beq_eq_false_iff_ne]; omega
    by_cases hk2:kk<2
    ·have k4:(kk:Int)<2:=by omega
     have hi0:PL.items cs=[]:=List.eq_nil_of_length_eq_zero (by rw [HKK3.out]; omega)
     have hT0:T=[]:=by rw [← HT.out,PL.flat,if_pos (by rw [HKK3.out]; omega),hi0]; rfl
     subst hT0
     clear hi0
     go_wp2_with fail
     go_ret2
     exact ⟨_,rfl,H5.pick 2 [0]⟩
    ·have k4:¬ (kk:Int)<2:=by omega
     have H5b:Sp w0 (RowK (.slice VA kk Vc) D::Row 3 1 (.slice (some ad) i i) i (cntR i [])::L) w5:=by
      unfold RowK; rw [HKK.out]; exact H5.swap
     have hmg:=merge_ok VA none kk Vc 0 0 D [] H5b HKK.out rfl (fun _ _ H=>by
      obtain ⟨A9,c9,e9,hr9,_,_⟩:=H.row_rd 0 rfl
      injection e9 with e9
      rw [e9]; exact hr9) (fun _ _ _=>Rd.nil) (by omega) (by omega)
     rw [List.append_nil] at hmg
     have HMG:=Lib.hid hmg
     have henc:=HENC.out.isort
     have hsl:(SS.isort keyK D).length=kk:=by rw [SS.len_isort,HKK.out]
     obtain ⟨S,hS⟩:∃ S,SS.isort keyK D=S:=⟨_,rfl⟩
     obtain ⟨it,hit⟩:∃ it,PL.sorted cs=it:=⟨_,rfl⟩
     rw [hS] at HMG hsl henc
     replace henc:EncL [] it S:=by rw [← hit]; exact henc
     have hitl:it.length=kk:=by rw [← hit,PL.sorted,SS.len_isort,HKK3.out]
     have hT2:T=((PL.lst it (lm - 1)).take (2 * kk - 2)).flatMap Prod.snd:=by
      rw [← HT.out,PL.flat,if_neg (by rw [HKK3.out]; exact hk2),HKK3.out,hit]
     have hen:=PL.lst_enough it lm h1 (by rw [hitl,HPW.out]; exact hkp)
     have hmem:∀ p ∈ it,p.1≤4294967296∧p.2.length=1∧∀ s ∈ p.2,s<i:=by
      intro p hp
      rw [← hit] at hp
      have h9:=PL.itemsTo_mem cs cs.length p (SS.mem_isort.1 hp)
      exact ⟨HC.out _ h9.1,h9.2.1,fun s hs=>by rw [HN.out]; exact h9.2.2.2 s hs⟩
     have HE2:=Lib.hid henc
     have HSL:=Lib.hid hsl
     have HIT:=Lib.hid hitl
     have HT2:=Lib.hid hT2
     have HEN:=Lib.hid hen
     have HME:=Lib.hid hmem
     clear hmg henc hsl hS hit hitl hT2 hen hmem HDD HENC HKK
     go_wp2_with fail
     refine HMG.out.mono ?_
     rintro _ w6 ⟨v,rfl,H6⟩
     clear HMG H5 H5b
     obtain ⟨VB,Vd,hvf,hVd,_⟩:=RowK.form H6 0 rfl
     subst hvf
     have H7:Sp w0 (Row 3 1 (.slice (some ad) i i) i (cntR i [])::([RowK (.slice VB S.length Vd) S]++L)) w6:=H6.pick 3 [2,0]
     replace H7:=Pool.nil H7
     have hbS:Ent ([RowK (.slice VB S.length Vd) S]++L) (fun w=>Rd w VB (cellsK S)):=fun _ _ H=>by
      obtain ⟨A9,c9,e9,hr9,_,_⟩:=H.row_rd 0 rfl
      injection e9 with e9
      rw [e9]; exact hr9
     rw [HSL.out] at H7 hbS hVd ⊢
     have HBS:=Lib.hid hbS
     obtain ⟨l1,hl1⟩:∃ l1,lm=l1+1:=⟨lm - 1,by omega⟩
     have y2:(lm:Int) - 1=(l1:Int):=by omega
     have HL1:=Lib.hid hl1
     have hlm:=hl1
     clear hl1 hbS H6 hlm H
     go_wp2_with fail
     go_loopw [10,74] (fun lv iv wr=>∃ (q nn cc:Nat) (AA:Option Addr) (F:PoolT) (xs:List PK) (Rs:List Pr),iv=.int .i64 (q:Int)∧lv=.slice AA nn cc∧q≤l1∧nn≤cc∧Hid (xs.length=nn∧EncL F (PL.lst it q) xs∧Ent (Rs++L) (fun w=>Rd w AA (cellsK xs))∧Ent (Rs++L) (fun w=>Rd w VB (cellsK S)))∧Sp w0 (Pool F::Row 3 1 (.slice (some ad) i i) i (cntR i [])::(Rs++L)) wr) (fun _ iv _=>l1 - (intOf iv).toNat)
     case atStart=>exact ⟨0,kk,Vd,VB,[],S,_,rfl,rfl,Nat.zero_le _,hVd,Lib.hid ⟨HSL.out,HE2.out,HBS.out,HBS.out⟩,H7⟩
     case round =>
      clear H7 HBS hVd
      obtain ⟨q,nn,cc,AA,F,xs,Rs,rfl,rfl,hq,hnc,HX,H⟩:=hrel
      have hnl:(PL.lst it q).length=nn:=by rw [← HX.out.1]; exact HX.out.2.1.len
      have hnn:nn≤2048:=by
       rw [← hnl]
       have:=PL.lst_le it q
       have:=HIT.out; omega
      by_cases hql:q<l1
      ·have k5:(q:Int)<(l1:Int):=by omega
       have HNL:=Lib.hid hnl
       clear hnl
       go_wp2_with fail
       go_loopw [11,12] (fun pv kv wr=>∃ (k j:Nat) (F2:PoolT) (ps:List PK),kv=.int .i64 (k:Int)∧Hid (k=2 * j∧EncL F2 (PL.pairsTo (PL.lst it q) j) ps∧∀ e ∈ F,e ∈ F2)∧k≤nn∧Sp w0 (RowK pv ps::Pool F2::Row 3 1 (.slice (some ad) i i) i (cntR i [])::(Rs++L)) wr) (fun _ kv _=>nn - (intOf kv).toNat)
       case atStart=>exact ⟨0,0,F,[],rfl,Lib.hid ⟨rfl,trivial,fun _ h=>h⟩,Nat.zero_le _,H.rowNil _ _⟩
       case round =>
        clear H
        obtain ⟨k,j,F2,ps,rfl,HJ,hkn,H⟩:=hrel
        have hpl:ps.length=j:=by
         rw [← HJ.out.2.1.len]
         simp [PL.pairsTo]
        obtain ⟨PA,pc,hvf,_,_⟩:=RowK.form H 0 rfl
        subst hvf
        rw [hpl] at H ⊢
        by_cases hk3:k+1<nn
        ·have k6:(k:Int)+1<(nn:Int):=by omega
         obtain ⟨k1,hk1⟩:∃ k1,k+1=k1:=⟨_,rfl⟩
         have y3:(k:Int)+1=(k1:Int):=by omega
         have k7:(k:Int)<(nn:Int):=by omega
         have k8:(k1:Int)<(nn:Int):=by omega
         obtain ⟨pa,hpa⟩:∃ pa,xs.getD k pk0=pa:=⟨_,rfl⟩
         obtain ⟨pb,hpb⟩:∃ pb,xs.getD k1 pk0=pb:=⟨_,rfl⟩
         obtain ⟨ta,hta⟩:∃ ta,(PL.lst it q).getD k PL.pk0=ta:=⟨_,rfl⟩
         obtain ⟨tb,htb⟩:∃ tb,(PL.lst it q).getD k1 PL.pk0=tb:=⟨_,rfl⟩
         have hea:Enc F2 ta.1 ta.2 pa:=by
          rw [← hta,← hpa]
          exact (HX.out.2.1.get PL.pk0 pk0 k (by rw [HNL.out]; omega)).mono HJ.out.2.2
         have heb:Enc F2 tb.1 tb.2 pb:=by
          rw [← htb,← hpb]
          exact (HX.out.2.1.get PL.pk0 pk0 k1 (by rw [HNL.out]; omega)).mono HJ.out.2.2
         have hwt:∀ t ∈ PL.lst it q,t.1≤17179869184000000:=by
          intro t ht
          have h1:=PL.wt_mem Prod.fst ht
          have h2:=PL.wt_lst Prod.fst (fun _ _=>rfl) it q
          have h3:PL.wt Prod.fst it≤it.length * 4294967296:=by
           have:∀ l:List PL.Pk,(∀ p ∈ l,p.1≤4294967296)→PL.wt Prod.fst l≤l.length * 4294967296:=by
            intro l
            induction l with
            | nil=>intro _; exact Nat.le_refl _
            | cons p l ih =>
             intro hp
             have h1:=hp p (List.mem_cons_self ..)
             have h2:=ih fun q hq=>hp q (List.mem_cons_of_mem _ hq)
             show p.1+PL.wt Prod.fst l≤(l.length+1) * 4294967296
             rw [Nat.succ_mul]; omega
           exact this it fun p hp=>(HME.out p hp).1
          rw [HIT.out] at h3
          have h4:kk * 4294967296≤8589934592000:=by omega
          have h5:(q+1) * PL.wt Prod.fst it≤2000 * 8589934592000:=Nat.mul_le_mul (by omega) (by omega)
          omega
         have hca:ta.1≤17179869184000000:=by
          rw [← hta]
          refine hwt _ ?_
          rw [List.getD_eq_getElem?_getD,List.getElem?_eq_getElem (by rw [HNL.out]; omega)]; exact List.getElem_mem _
         have hcb:tb.1≤17179869184000000:=by
          rw [← htb]
          refine hwt _ ?_
          rw [List.getD_eq_getElem?_getD,List.getElem?_eq_getElem (by rw [HNL.out]; omega)]; exact List.getElem_mem _
         obtain ⟨ca,hca2⟩:∃ ca,pa.c=ca:=⟨_,rfl⟩
         obtain ⟨cb,hcb2⟩:∃ cb,pb.c=cb:=⟨_,rfl⟩
         have hca3:ca=(ta.1:Int):=by rw [← hca2]; exact hea.count
         have hcb3:cb=(tb.1:Int):=by rw [← hcb2]; exact heb.count
         obtain ⟨cc2,hcc⟩:∃ cc2,ta.1+tb.1=cc2:=⟨_,rfl⟩
         have y4:ca+cb=(cc2:Int):=by omega
         have kc1:0≤ca:=by omega
         have kc2:ca≤20000000000000000:=by omega
         have kc3:0≤cb:=by omega
         have kc4:cb≤20000000000000000:=by omega
         have hnext:PL.pairsTo (PL.lst it q) (j+1)=PL.pairsTo (PL.lst it q) j++[(cc2,ta.2++tb.2)]:=by
          rw [PL.pairsTo_succ,← HJ.out.1,hk1,hta,htb,← hcc]; rfl
         have henc2:∀ g,(g,pa,pb) ∈ (g,pa,pb)::F2→Enc ((g,pa,pb)::F2) cc2 (ta.2++tb.2) ⟨(cc2:Int),0,some g⟩:=fun g hg=>by
          rw [← hcc]
          exact .node hg (hea.mono fun _ h=>List.mem_cons_of_mem _ h) (heb.mono fun _ h=>List.mem_cons_of_mem _ h)
         have hkj:j<nn:=by have:=HJ.out.1; omega
         have HNXT:=Lib.hid hnext
         have HENC2:=Lib.hid henc2
         have HEpa:Hid (xs.getD k pk0=pa∧k<xs.length∧pa.c=ca):=Lib.hid ⟨hpa,by rw [HX.out.1]; omega,hca2⟩
         have HEpb:Hid (xs.getD k1 pk0=pb∧k1<xs.length∧pb.c=cb):=Lib.hid ⟨hpb,by rw [HX.out.1]; omega,hcb2⟩
         have HK1:=Lib.hid hk1
         have HPL:=Lib.hid hpl
         obtain ⟨al,hal⟩:∃ al,AA=some al:=by
          obtain ⟨al,e,_⟩:=rdK (HX.out.2.2.1 _ _ H.tail2.tail) (i:=k) (by rw [HX.out.1]; omega)
          exact ⟨al,e⟩
         subst hal
         clear hpa hpb hta htb hea heb hwt hca hcb hca2 hcb2 hca3 hcb3 hcc hnext henc2 hk1 hpl
         go_wp2_with fail
         refine wp_region_sq (L:=Pool F2::Row 3 1 (.slice (some ad) i i) i (cntR i [])::(Rs++L)) (fun ix vx=>([(·=.slice PA j pc),(·=.slice (some al) nn cc),(·=.int .i64 (k:Int)),(·=.pointer (some (al.add (k * 3)))),(·=.pointer (some (al.add (k * 3)))),(·=.int .i64 ca),(·=.slice (some al) nn cc),(·=.int .i64 (k:Int)),(·=.int .i64 (k1:Int)),(·=.pointer (some (al.add (k1 * 3)))),(·=.pointer (some (al.add (k1 * 3)))),(·=.int .i64 cb),(·=.int .i64 (cc2:Int)),(·=.slice (some al) nn cc),(·=.int .i64 (k:Int)),(·=.pointer (some (al.add (k * 3)))),(·=.agg #[.int .i64 ca,.int .i64 pa.s,pa.ptr]),(·=.slice (some al) nn cc),(·=.int .i64 (k:Int)),(·=.int .i64 (k1:Int)),(·=.pointer (some (al.add (k1 * 3)))),(·=.agg #[.int .i64 cb,.int .i64 pb.s,pb.ptr]),(·=.agg #[.int .i64 ca,.int .i64 pa.s,pa.ptr,.int .i64 cb,.int .i64 pb.s,pb.ptr]),(fun v=>∃ g,v=.pointer (some ⟨g,0,none⟩)),(fun v=>∃ g,v=.agg #[.int .i64 (cc2:Int),.int .i64 0,.pointer (some ⟨g,0,none⟩)]),(fun v=>∃ g,v=.slice (some ⟨g,0,none⟩) 1 1),(fun _=>True),(fun _=>True)]:List (Value→Prop)).getD ix (fun _=>True) vx)
          (fun ix vx=>([fun _=>[],fun _=>[],fun _=>[],fun _=>[],fun _=>[],fun _=>[],fun _=>[],fun _=>[],fun _=>[],fun _=>[],fun _=>[],fun _=>[],fun _=>[],fun _=>[],fun _=>[],fun _=>[],fun _=>[],fun _=>[],fun _=>[],fun _=>[],fun _=>[],fun _=>[],fun _=>[],fun v=>[Bk (ptB v) 143 [.int .i64 ca,.int .i64 pa.s,pa.ptr,.int .i64 cb,.int .i64 pb.s,pb.ptr]],fun v=>[Bk (agB v) 143 [.int .i64 ca,.int .i64 pa.s,pa.ptr,.int .i64 cb,.int .i64 pb.s,pb.ptr]],fun v=>[Ex fun g=>Star (Bk (v.ownBlock.getD 0) 141 [.int .i64 (cc2:Int),.int .i64 0,.pointer (some ⟨g,0,none⟩)]) (Bk g 143 [.int .i64 ca,.int .i64 pa.s,pa.ptr,.int .i64 cb,.int .i64 pb.s,pb.ptr])],fun v=>[Ex fun g=>Star (RowK v (ps++[⟨(cc2:Int),0,some g⟩])) (Bk g 143 [.int .i64 ca,.int .i64 pa.s,pa.ptr,.int .i64 cb,.int .i64 pb.s,pb.ptr])],fun v=>[Ex fun g=>Star (RowK v (ps++[⟨(cc2:Int),0,some g⟩])) (Bk g 143 [.int .i64 ca,.int .i64 pa.s,pa.ptr,.int .i64 cb,.int .i64 pb.s,pb.ptr])]]:List (Value→List Pr)).getD ix (fun _=>[]) vx) (fun ix=>([[],[],[],[],[],[],[],[],[],[],[],[],[],[],[],[],[],[],[],[],[],[],[],[],[],[],[RowK (.slice PA j pc) ps],[]]:List (List Pr)).getD ix []) 28 130
          [some 83,some 84,some 85,some 86,some 87,some 88,some 89,some 90,some 91,some 92,some 93,some 94,some 95,some 96,some 97,some 98,some 99,some 100,some 101,some 102,some 103,some 104,some 105,some 106,some 107,some 108,some 109,some 11]
          [[],[],[],[1,2],[3],[4],[],[],[7],[6,8],[9],[10],[5,11],[],[],[13,14],[15],[],[],[18],[17,19],[20],[16,21],[22],[12,23],[24],[0,25],[26,26,0,1,2,3,4,5,6,7,8,9,10,11,12,13,14,15,16,17,18,19,20,21,22,23,24,25,26]]
          [[],[],[],[1,2],[1,2,3],[1,2,3,4],[],[],[7],[6,7,8],[6,7,8,9],[6,7,8,9,10],[1,2,3,4,5,6,7,8,9,10,11],[],[],[13,14],[13,14,15],[],[],[18],[17,18,19],[17,18,19,20],[13,14,15,16,17,18,19,20,21],[13,14,15,16,17,18,19,20,21,22],[1,2,3,4,5,6,7,8,9,10,11,12,13,14,15,16,17,18,19,20,21,22,23],[1,2,3,4,5,6,7,8,9,10,11,12,13,14,15,16,17,18,19,20,21,22,23,24],[0,1,2,3,4,5,6,7,8,9,10,11,12,13,14,15,16,17,18,19,20,21,22,23,24,25],[0,1,2,3,4,5,6,7,8,9,10,11,12,13,14,15,16,17,18,19,20,21,22,23,24,25,26]]
          [[],[],[],[],[],[],[],[],[],[],[],[],[],[],[],[],[],[],[],[],[],[],[],[],[23],[24],[25],[26]]
          [[],[],[],[],[],[],[],[],[],[],[],[],[],[],[],[],[],[],[],[],[],[],[],[],[],[],[],[]]
          [(10,.slice (some al) nn cc),(11,.slice PA j pc),(12,.int .i64 (k:Int))]
          (by kernel_rfl) rfl (by decide) (by rfl) rfl (by decide +kernel) (by decide +kernel) (by rfl) rfl rfl (by decide) (by simp) (H) ?hstep ?hend
         case hstep =>
          refine ⟨?_,⟨?_,⟨?_,⟨?_,⟨?_,⟨?_,⟨?_,⟨?_,⟨?_,⟨?_,⟨?_,⟨?_,⟨?_,⟨?_,⟨?_,⟨?_,⟨?_,⟨?_,⟨?_,⟨?_,⟨?_,⟨?_,⟨?_,⟨?_,⟨?_,⟨?_,⟨?_,⟨?_,trivial⟩⟩⟩⟩⟩⟩⟩⟩⟩⟩⟩⟩⟩⟩⟩⟩⟩⟩⟩⟩⟩⟩⟩⟩⟩⟩⟩⟩
          ·intro x wx A rest hN hS hE H K hK0
           have e11:A.tmps[11]?.getD undef=.slice PA j pc:=hN (11,.slice PA j pc) (by simp) (by rfl)
           replace H:Sp w0 (rest) wx:=H
           have hK:Hid (∀ (v:Value) (w' : World),v=.slice PA j pc→Sp w0 (rest) w'→K (A.put (some 83) v) w'):=Lib.hid hK0
           clear hK0 hN hS hE
           change Oper.wp _ _ A wx K _
           go_step
           exact hK.out _ _ rfl (H)
          ·intro x wx A rest hN hS hE H K hK0
           have e10:A.tmps[10]?.getD undef=.slice (some al) nn cc:=hN (10,.slice (some al) nn cc) (by simp) (by rfl)
           replace H:Sp w0 (rest) wx:=H
           have hK:Hid (∀ (v:Value) (w' : World),v=.slice (some al) nn cc→Sp w0 (rest) w'→K (A.put (some 84) v) w'):=Lib.hid hK0
           clear hK0 hN hS hE
           change Oper.wp _ _ A wx K _
           go_step
           exact hK.out _ _ rfl (H)
          ·intro x wx A rest hN hS hE H K hK0
           have e12:A.tmps[12]?.getD undef=.int .i64 (k:Int):=hN (12,.int .i64 (k:Int)) (by simp) (by rfl)
           replace H:Sp w0 (rest) wx:=H
           have hK:Hid (∀ (v:Value) (w' : World),v=.int .i64 (k:Int)→Sp w0 (rest) w'→K (A.put (some 85) v) w'):=Lib.hid hK0
           clear hK0 hN hS hE
           change Oper.wp _ _ A wx K _
           go_step
           exact hK.out _ _ rfl (H)
          ·intro x wx A rest hN hS hE H K hK0
           have e84:A.tmps[84]?.getD undef=.slice (some al) nn cc:=((hS 1 (by decide)).2 84 rfl).trans (hS 1 (by decide)).1
           have e85:A.tmps[85]?.getD undef=.int .i64 (k:Int):=((hS 2 (by decide)).2 85 rfl).trans (hS 2 (by decide)).1
           replace H:Sp w0 (rest) wx:=H
           have hK:Hid (∀ (v:Value) (w' : World),v=.pointer (some (al.add (k * 3)))→Sp w0 (rest) w'→K (A.put (some 86) v) w'):=Lib.hid hK0
           clear hK0 hN hS hE
           change Oper.wp _ _ A wx K _
           go_step
           exact hK.out _ _ rfl (H)
          ·intro x wx A rest hN hS hE H K hK0
           have e86:A.tmps[86]?.getD undef=.pointer (some (al.add (k * 3))):=((hS 3 (by decide)).2 86 rfl).trans (hS 3 (by decide)).1
           replace H:Sp w0 (rest) wx:=H
           have hK:Hid (∀ (v:Value) (w' : World),v=.pointer (some (al.add (k * 3)))→Sp w0 (rest) w'→K (A.put (some 87) v) w'):=Lib.hid hK0
           clear hK0 hN hS hE
           change Oper.wp _ _ A wx K _
           go_step
           exact hK.out _ _ rfl (H)
          ·intro x wx A rest hN hS hE H K hK0
           have e87:A.tmps[87]?.getD undef=.pointer (some (al.add (k * 3))):=((hS 4 (by decide)).2 87 rfl).trans (hS 4 (by decide)).1
           replace H:Sp w0 (rest) wx:=H
           have hK:Hid (∀ (v:Value) (w' : World),v=.int .i64 ca→Sp w0 (rest) w'→K (A.put (some 88) v) w'):=Lib.hid hK0
           clear hK0 hN hS
           have hrd:∀ jj vv,pa.cells[jj]?=some vv→wx.cell? ((al.add (k * 3)).add jj)=some vv:=by
            obtain ⟨al2,e9,hc9⟩:=rdK (hE (fun w=>Rd w (some al) (cellsK xs)) (Ent.cons _ (Ent.cons _ HX.out.2.2.1)) _ _ H) (i:=k) HEpa.out.2.1
            injection e9 with e9
            rw [HEpa.out.1,← e9] at hc9
            exact hc9
           have hcc:wx.cell? (al.add (k * 3))=some (.int .i64 ca):=by
            have h9:=hrd 0 _ rfl
            rw [addr_add0,HEpa.out.2.2] at h9
            exact h9
           clear hrd
           change Oper.wp _ _ A wx K _
           go_step
           exact hK.out _ _ rfl (H)
          ·intro x wx A rest hN hS hE H K hK0
           have e10:A.tmps[10]?.getD undef=.slice (some al) nn cc:=hN (10,.slice (some al) nn cc) (by simp) (by rfl)
           replace H:Sp w0 (rest) wx:=H
           have hK:Hid (∀ (v:Value) (w' : World),v=.slice (some al) nn cc→Sp w0 (rest) w'→K (A.put (some 89) v) w'):=Lib.hid hK0
           clear hK0 hN hS hE
           change Oper.wp _ _ A wx K _
           go_step
           exact hK.out _ _ rfl (H)
          ·intro x wx A rest hN hS hE H K hK0
           have e12:A.tmps[12]?.getD undef=.int .i64 (k:Int):=hN (12,.int .i64 (k:Int)) (by simp) (by rfl)
           replace H:Sp w0 (rest) wx:=H
           have hK:Hid (∀ (v:Value) (w' : World),v=.int .i64 (k:Int)→Sp w0 (rest) w'→K (A.put (some 90) v) w'):=Lib.hid hK0
           clear hK0 hN hS hE
           change Oper.wp _ _ A wx K _
           go_step
           exact hK.out _ _ rfl (H)
          ·intro x wx A rest hN hS hE H K hK0
           have e90:A.tmps[90]?.getD undef=.int .i64 (k:Int):=((hS 7 (by decide)).2 90 rfl).trans (hS 7 (by decide)).1
           replace H:Sp w0 (rest) wx:=H
           have hK:Hid (∀ (v:Value) (w' : World),v=.int .i64 (k1:Int)→Sp w0 (rest) w'→K (A.put (some 91) v) w'):=Lib.hid hK0
           clear hK0 hN hS hE
           change Oper.wp _ _ A wx K _
           go_step
           exact hK.out _ _ rfl (H)
          ·intro x wx A rest hN hS hE H K hK0
           have e89:A.tmps[89]?.getD undef=.slice (some al) nn cc:=((hS 6 (by decide)).2 89 rfl).trans (hS 6 (by decide)).1
           have e91:A.tmps[91]?.getD undef=.int .i64 (k1:Int):=((hS 8 (by decide)).2 91 rfl).trans (hS 8 (by decide)).1
           replace H:Sp w0 (rest) wx:=H
           have hK:Hid (∀ (v:Value) (w' : World),v=.pointer (some (al.add (k1 * 3)))→Sp w0 (rest) w'→K (A.put (some 92) v) w'):=Lib.hid hK0
           clear hK0 hN hS hE
           change Oper.wp _ _ A wx K _
           go_step
           exact hK.out _ _ rfl (H)
          ·intro x wx A rest hN hS hE H K hK0
           have e92:A.tmps[92]?.getD undef=.pointer (some (al.add (k1 * 3))):=((hS 9 (by decide)).2 92 rfl).trans (hS 9 (by decide)).1
           replace H:Sp w0 (rest) wx:=H
           have hK:Hid (∀ (v:Value) (w' : World),v=.pointer (some (al.add (k1 * 3)))→Sp w0 (rest) w'→K (A.put (some 93) v) w'):=Lib.hid hK0
           clear hK0 hN hS hE
           change Oper.wp _ _ A wx K _
           go_step
           exact hK.out _ _ rfl (H)
          ·intro x wx A rest hN hS hE H K hK0
           have e93:A.tmps[93]?.getD undef=.pointer (some (al.add (k1 * 3))):=((hS 10 (by decide)).2 93 rfl).trans (hS 10 (by decide)).1
           replace H:Sp w0 (rest) wx:=H
           have hK:Hid (∀ (v:Value) (w' : World),v=.int .i64 cb→Sp w0 (rest) w'→K (A.put (some 94) v) w'):=Lib.hid hK0
           clear hK0 hN hS
           have hrd:∀ jj vv,pb.cells[jj]?=some vv→wx.cell? ((al.add (k1 * 3)).add jj)=some vv:=by
            obtain ⟨al2,e9,hc9⟩:=rdK (hE (fun w=>Rd w (some al) (cellsK xs)) (Ent.cons _ (Ent.cons _ HX.out.2.2.1)) _ _ H) (i:=k1) HEpb.out.2.1
            injection e9 with e9
            rw [HEpb.out.1,← e9] at hc9
            exact hc9
           have hcc:wx.cell? (al.add (k1 * 3))=some (.int .i64 cb):=by
            have h9:=hrd 0 _ rfl
            rw [addr_add0,HEpb.out.2.2] at h9
            exact h9
           clear hrd
           change Oper.wp _ _ A wx K _
           go_step
           exact hK.out _ _ rfl (H)
          ·intro x wx A rest hN hS hE H K hK0
           have e88:A.tmps[88]?.getD undef=.int .i64 ca:=((hS 5 (by decide)).2 88 rfl).trans (hS 5 (by decide)).1
           have e94:A.tmps[94]?.getD undef=.int .i64 cb:=((hS 11 (by decide)).2 94 rfl).trans (hS 11 (by decide)).1
           replace H:Sp w0 (rest) wx:=H
           have hK:Hid (∀ (v:Value) (w' : World),v=.int .i64 (cc2:Int)→Sp w0 (rest) w'→K (A.put (some 95) v) w'):=Lib.hid hK0
           clear hK0 hN hS hE
           change Oper.wp _ _ A wx K _
           go_step
           exact hK.out _ _ rfl (H)
          ·intro x wx A rest hN hS hE H K hK0
           have e10:A.tmps[10]?.getD undef=.slice (some al) nn cc:=hN (10,.slice (some al) nn cc) (by simp) (by rfl)
           replace H:Sp w0 (rest) wx:=H
           have hK:Hid (∀ (v:Value) (w' : World),v=.slice (some al) nn cc→Sp w0 (rest) w'→K (A.put (some 96) v) w'):=Lib.hid hK0
           clear hK0 hN hS hE
           change Oper.wp _ _ A wx K _
           go_step
           exact hK.out _ _ rfl (H)
          ·intro x wx A rest hN hS hE H K hK0
           have e12:A.tmps[12]?.getD undef=.int .i64 (k:Int):=hN (12,.int .i64 (k:Int)) (by simp) (by rfl)
           replace H:Sp w0 (rest) wx:=H
           have hK:Hid (∀ (v:Value) (w' : World),v=.int .i64 (k:Int)→Sp w0 (rest) w'→K (A.put (some 97) v) w'):=Lib.hid hK0
           clear hK0 hN hS hE
           change Oper.wp _ _ A wx K _
           go_step
           exact hK.out _ _ rfl (H)
          ·intro x wx A rest hN hS hE H K hK0
           have e96:A.tmps[96]?.getD undef=.slice (some al) nn cc:=((hS 13 (by decide)).2 96 rfl).trans (hS 13 (by decide)).1
           have e97:A.tmps[97]?.getD undef=.int .i64 (k:Int):=((hS 14 (by decide)).2 97 rfl).trans (hS 14 (by decide)).1
           replace H:Sp w0 (rest) wx:=H
           have hK:Hid (∀ (v:Value) (w' : World),v=.pointer (some (al.add (k * 3)))→Sp w0 (rest) w'→K (A.put (some 98) v) w'):=Lib.hid hK0
           clear hK0 hN hS hE
           change Oper.wp _ _ A wx K _
           go_step
           exact hK.out _ _ rfl (H)
          ·intro x wx A rest hN hS hE H K hK0
           have e98:A.tmps[98]?.getD undef=.pointer (some (al.add (k * 3))):=((hS 15 (by decide)).2 98 rfl).trans (hS 15 (by decide)).1
           replace H:Sp w0 (rest) wx:=H
           have hK:Hid (∀ (v:Value) (w' : World),v=.agg #[.int .i64 ca,.int .i64 pa.s,pa.ptr]→Sp w0 (rest) w'→K (A.put (some 99) v) w'):=Lib.hid hK0
           clear hK0 hN hS
           have hrd:∀ jj vv,pa.cells[jj]?=some vv→wx.cell? ((al.add (k * 3)).add jj)=some vv:=by
            obtain ⟨al2,e9,hc9⟩:=rdK (hE (fun w=>Rd w (some al) (cellsK xs)) (Ent.cons _ (Ent.cons _ HX.out.2.2.1)) _ _ H) (i:=k) HEpa.out.2.1
            injection e9 with e9
            rw [HEpa.out.1,← e9] at hc9
            exact hc9
           change Oper.wp _ _ A wx K _
           exact wp_load_agg 141 _ rfl _ pa.cells (ev e98) hrd Tryd.isAgg141 Tryd.sizeOf141 (hK.out _ _ (by rw [← HEpa.out.2.2]; rfl) H)
          ·intro x wx A rest hN hS hE H K hK0
           have e10:A.tmps[10]?.getD undef=.slice (some al) nn cc:=hN (10,.slice (some al) nn cc) (by simp) (by rfl)
           replace H:Sp w0 (rest) wx:=H
           have hK:Hid (∀ (v:Value) (w' : World),v=.slice (some al) nn cc→Sp w0 (rest) w'→K (A.put (some 100) v) w'):=Lib.hid hK0
           clear hK0 hN hS hE
           change Oper.wp _ _ A wx K _
           go_step
           exact hK.out _ _ rfl (H)
          ·intro x wx A rest hN hS hE H K hK0
           have e12:A.tmps[12]?.getD undef=.int .i64 (k:Int):=hN (12,.int .i64 (k:Int)) (by simp) (by rfl)
           replace H:Sp w0 (rest) wx:=H
           have hK:Hid (∀ (v:Value) (w' : World),v=.int .i64 (k:Int)→Sp w0 (rest) w'→K (A.put (some 101) v) w'):=Lib.hid hK0
           clear hK0 hN hS hE
           change Oper.wp _ _ A wx K _
           go_step
           exact hK.out _ _ rfl (H)
          ·intro x wx A rest hN hS hE H K hK0
           have e101:A.tmps[101]?.getD undef=.int .i64 (k:Int):=((hS 18 (by decide)).2 101 rfl).trans (hS 18 (by decide)).1
           replace H:Sp w0 (rest) wx:=H
           have hK:Hid (∀ (v:Value) (w' : World),v=.int .i64 (k1:Int)→Sp w0 (rest) w'→K (A.put (some 102) v) w'):=Lib.hid hK0
           clear hK0 hN hS hE
           change Oper.wp _ _ A wx K _
           go_step
           exact hK.out _ _ rfl (H)
          ·intro x wx A rest hN hS hE H K hK0
           have e100:A.tmps[100]?.getD undef=.slice (some al) nn cc:=((hS 17 (by decide)).2 100 rfl).trans (hS 17 (by decide)).1
           have e102:A.tmps[102]?.getD undef=.int .i64 (k1:Int):=((hS 19 (by decide)).2 102 rfl).trans (hS 19 (by decide)).1
           replace H:Sp w0 (rest) wx:=H
           have hK:Hid (∀ (v:Value) (w' : World),v=.pointer (some (al.add (k1 * 3)))→Sp w0 (rest) w'→K (A.put (some 103) v) w'):=Lib.hid hK0
           clear hK0 hN hS hE
           change Oper.wp _ _ A wx K _
           go_step
           exact hK.out _ _ rfl (H)
          ·intro x wx A rest hN hS hE H K hK0
           have e103:A.tmps[103]?.getD undef=.pointer (some (al.add (k1 * 3))):=((hS 20 (by decide)).2 103 rfl).trans (hS 20 (by decide)).1
           replace H:Sp w0 (rest) wx:=H
           have hK:Hid (∀ (v:Value) (w' : World),v=.agg #[.int .i64 cb,.int .i64 pb.s,pb.ptr]→Sp w0 (rest) w'→K (A.put (some 104) v) w'):=Lib.hid hK0
           clear hK0 hN hS
           have hrd:∀ jj vv,pb.cells[jj]?=some vv→wx.cell? ((al.add (k1 * 3)).add jj)=some vv:=by
            obtain ⟨al2,e9,hc9⟩:=rdK (hE (fun w=>Rd w (some al) (cellsK xs)) (Ent.cons _ (Ent.cons _ HX.out.2.2.1)) _ _ H) (i:=k1) HEpb.out.2.1
            injection e9 with e9
            rw [HEpb.out.1,← e9] at hc9
            exact hc9
           change Oper.wp _ _ A wx K _
           exact wp_load_agg 141 _ rfl _ pb.cells (ev e103) hrd Tryd.isAgg141 Tryd.sizeOf141 (hK.out _ _ (by rw [← HEpb.out.2.2]; rfl) H)
          ·intro x wx A rest hN hS hE H K hK0
           have e99:A.tmps[99]?.getD undef=.agg #[.int .i64 ca,.int .i64 pa.s,pa.ptr]:=((hS 16 (by decide)).2 99 rfl).trans (hS 16 (by decide)).1
           have e104:A.tmps[104]?.getD undef=.agg #[.int .i64 cb,.int .i64 pb.s,pb.ptr]:=((hS 21 (by decide)).2 104 rfl).trans (hS 21 (by decide)).1
           replace H:Sp w0 (rest) wx:=H
           have hK:Hid (∀ (v:Value) (w' : World),v=.agg #[.int .i64 ca,.int .i64 pa.s,pa.ptr,.int .i64 cb,.int .i64 pb.s,pb.ptr]→Sp w0 (rest) w'→K (A.put (some 105) v) w'):=Lib.hid hK0
           clear hK0 hN hS hE
           change Oper.wp _ _ A wx K _
           go_step
           exact hK.out _ _ rfl (H)
          ·intro x wx A rest hN hS hE H K hK0
           have e105:A.tmps[105]?.getD undef=.agg #[.int .i64 ca,.int .i64 pa.s,pa.ptr,.int .i64 cb,.int .i64 pb.s,pb.ptr]:=((hS 22 (by decide)).2 105 rfl).trans (hS 22 (by decide)).1
           replace H:Sp w0 (rest) wx:=H
           have hK:Hid (∀ (v:Value) (w' : World),(fun v=>∃ g,v=.pointer (some ⟨g,0,none⟩)) v→Sp w0 ((Bk (ptB v) 143 [.int .i64 ca,.int .i64 pa.s,pa.ptr,.int .i64 cb,.int .i64 pb.s,pb.ptr])::rest) w'→K (A.put (some 106) v) w'):=Lib.hid hK0
           clear hK0 hN hS hE
           change Oper.wp _ _ A wx K _
           go_step
           exact hK.out _ _ ⟨_,rfl⟩ (H.newBk _ _)
          ·intro x wx A rest hN hS hE H K hK0
           have e95:A.tmps[95]?.getD undef=.int .i64 (cc2:Int):=((hS 12 (by decide)).2 95 rfl).trans (hS 12 (by decide)).1
           have q106:=(hS 23 (by decide)).1
           have e106:A.tmps[106]?.getD undef=x 23:=(hS 23 (by decide)).2 106 rfl
           replace H:Sp w0 ((Bk (ptB (x 23)) 143 [.int .i64 ca,.int .i64 pa.s,pa.ptr,.int .i64 cb,.int .i64 pb.s,pb.ptr])::rest) wx:=H
           have hK:Hid (∀ (v:Value) (w' : World),(fun v=>∃ g,v=.agg #[.int .i64 (cc2:Int),.int .i64 0,.pointer (some ⟨g,0,none⟩)]) v→Sp w0 ((Bk (agB v) 143 [.int .i64 ca,.int .i64 pa.s,pa.ptr,.int .i64 cb,.int .i64 pb.s,pb.ptr])::rest) w'→K (A.put (some 107) v) w'):=Lib.hid hK0
           clear hK0 hN hS hE
           obtain ⟨g9,e9⟩:=q106
           rw [e9] at H e106
           change Oper.wp _ _ A wx K _
           go_step
           exact hK.out _ _ ⟨_,rfl⟩ H
          ·intro x wx A rest hN hS hE H K hK0
           have q107:=(hS 24 (by decide)).1
           have e107:A.tmps[107]?.getD undef=x 24:=(hS 24 (by decide)).2 107 rfl
           replace H:Sp w0 ((Bk (agB (x 24)) 143 [.int .i64 ca,.int .i64 pa.s,pa.ptr,.int .i64 cb,.int .i64 pb.s,pb.ptr])::rest) wx:=H
           have hK:Hid (∀ (v:Value) (w' : World),(fun v=>∃ g,v=.slice (some ⟨g,0,none⟩) 1 1) v→Sp w0 ((Ex fun g=>Star (Bk (v.ownBlock.getD 0) 141 [.int .i64 (cc2:Int),.int .i64 0,.pointer (some ⟨g,0,none⟩)]) (Bk g 143 [.int .i64 ca,.int .i64 pa.s,pa.ptr,.int .i64 cb,.int .i64 pb.s,pb.ptr]))::rest) w'→K (A.put (some 108) v) w'):=Lib.hid hK0
           clear hK0 hN hS hE
           obtain ⟨g9,e9⟩:=q107
           rw [e9] at H e107
           change Oper.wp _ _ A wx K _
           go_step
           exact hK.out _ _ ⟨_,rfl⟩ (Sp.ex g9 (H.newBk _ _).star)
          ·intro x wx A rest hN hS hE H K hK0
           have e83:A.tmps[83]?.getD undef=.slice PA j pc:=((hS 0 (by decide)).2 83 rfl).trans (hS 0 (by decide)).1
           have q108:=(hS 25 (by decide)).1
           have e108:A.tmps[108]?.getD undef=x 25:=(hS 25 (by decide)).2 108 rfl
           replace H:Sp w0 ((RowK (.slice PA j pc) ps)::(Ex fun g=>Star (Bk ((x 25).ownBlock.getD 0) 141 [.int .i64 (cc2:Int),.int .i64 0,.pointer (some ⟨g,0,none⟩)]) (Bk g 143 [.int .i64 ca,.int .i64 pa.s,pa.ptr,.int .i64 cb,.int .i64 pb.s,pb.ptr]))::rest) wx:=H
           have hK:Hid (∀ (v:Value) (w' : World),(fun _=>True) v→Sp w0 ((Ex fun g=>Star (RowK v (ps++[⟨(cc2:Int),0,some g⟩])) (Bk g 143 [.int .i64 ca,.int .i64 pa.s,pa.ptr,.int .i64 cb,.int .i64 pb.s,pb.ptr]))::rest) w'→K (A.put (some 109) v) w'):=Lib.hid hK0
           clear hK0 hN hS hE
           obtain ⟨g9,e9⟩:=q108
           rw [e9] at H e108
           obtain ⟨g8,H⟩:=H.swap.unex
           replace H:=H.unstar.pick 3 [2,0,1]
           change Oper.wp _ _ A wx K _
           refine wp_append_sp _ _ 138 rfl 141 i0 (.agg #[.int .i64 0,.int .i64 0,.pointer none]) 3 24 Tryd.underlying138 hi hz0 hz1 hz2 rfl (by decide) (.slice PA j pc) ps.length (cellsK ps) (ev e83) H (some ⟨g9,0,none⟩) 1 1 [.int .i64 (cc2:Int),.int .i64 0,.pointer (some ⟨g8,0,none⟩)] (ev e108) rfl (Rd.of_blk (H.blk 1 rfl)) (PK.one ⟨(cc2:Int),0,some g8⟩) (by simp only [maxLen]; have:=HPL.out; omega) (by have:=HPL.out; omega) ?_
           intro v1 w2 H2 _
           refine hK.out _ _ trivial (Sp.ex g8 (Sp.star ?_))
           unfold RowK
           rw [List.length_append,cellsK_append]
           exact H2.pick 3 [0,2]
          ·intro x wx A rest hN hS hE H K hK0
           have q109:=(hS 26 (by decide)).1
           have e109:A.tmps[109]?.getD undef=x 26:=(hS 26 (by decide)).2 109 rfl
           replace H:Sp w0 ((Ex fun g=>Star (RowK (x 26) (ps++[⟨(cc2:Int),0,some g⟩])) (Bk g 143 [.int .i64 ca,.int .i64 pa.s,pa.ptr,.int .i64 cb,.int .i64 pb.s,pb.ptr]))::rest) wx:=H
           have hK:Hid (∀ (v:Value) (w' : World),(fun _=>True) v→Sp w0 ((Ex fun g=>Star (RowK v (ps++[⟨(cc2:Int),0,some g⟩])) (Bk g 143 [.int .i64 ca,.int .i64 pa.s,pa.ptr,.int .i64 cb,.int .i64 pb.s,pb.ptr]))::rest) w'→K (A.put (some 11) v) w'):=Lib.hid hK0
           clear hK0 hN hS hE
           change Oper.wp _ _ A wx K _
           go_step
           exact hK.out _ _ trivial H
         case hend =>
          intro x wx A hA hS H
          replace H:Sp w0 ((Ex fun g=>Star (RowK (x 27) (ps++[⟨(cc2:Int),0,some g⟩])) (Bk g 143 [.int .i64 ca,.int .i64 pa.s,pa.ptr,.int .i64 cb,.int .i64 pb.s,pb.ptr]))::Pool F2::Row 3 1 (.slice (some ad) i i) i (cntR i [])::(Rs++L)) wx:=H
          clear hS
          simp only [putAll,Act.put,List.setIfInBounds_toArray,List.set_cons_succ,List.set_cons_zero,Nat.reduceAdd] at hA
          subst hA
          obtain ⟨g,H⟩:=H.unex
          replace H:=H.unstar
          have e6:[.int .i64 ca,.int .i64 pa.s,pa.ptr,.int .i64 cb,.int .i64 pb.s,pb.ptr]=pa.cells++pb.cells:=by
           rw [← HEpa.out.2.2,← HEpb.out.2.2]; rfl
          rw [e6] at H
          have H2:Sp w0 (Pool ((g,pa,pb)::F2)::RowK (x 27) (ps++[(⟨(cc2:Int),0,some g⟩:PK)])::Row 3 1 (.slice (some ad) i i) i (cntR i [])::(Rs++L)) wx:=Pool.cons (H.pick 3 [1,2,0])
          go_wp2_with fail
          go_roundw
          case rel =>
           refine ⟨k+2,j+1,(g,pa,pb)::F2,ps++[(⟨(cc2:Int),0,some g⟩:PK)],by go_num,Lib.hid ⟨by have:=HJ.out.1; omega,?_,fun e he=>List.mem_cons_of_mem _ (HJ.out.2.2 e he)⟩,by omega,H2.swap⟩
           rw [HNXT.out]
           exact (HJ.out.2.1.mono fun _ h=>List.mem_cons_of_mem _ h).snoc (HENC2.out g (List.mem_cons_self ..))
          case measure=>first | (simp [intOf]; omega) | simp [intOf]
        ·have k6:¬ (k:Int)+1<(nn:Int):=by omega
         have hpe:PL.pairsTo (PL.lst it q) j=PL.pairs (PL.lst it q):=by
          unfold PL.pairs
          rw [HNL.out,show nn / 2=j by have:=HJ.out.1; omega]
         have hjn:j≤nn:=by have:=HJ.out.1; omega
         have hencs:EncL F2 (PL.lst it (q+1)) (SS.isort keyK (S++ps)):=by
          have h1:=HJ.out.2.1
          rw [hpe] at h1
          exact EncL.isort (show EncL F2 (it++PL.pairs (PL.lst it q)) (S++ps) from (HE2.out.mono fun _ h=>by cases h).append h1)
         have hmg:=merge_ok VB PA kk Vd j pc S ps H HSL.out hpl (Ent.cons _ (Ent.cons _ (Ent.cons _ HX.out.2.2.2))) (fun _ _ H=>by
          obtain ⟨A9,c9,e9,hr9,_,_⟩:=H.row_rd 0 rfl
          injection e9 with e9
          rw [e9]; exact hr9) (by omega) (by omega)
         have HMG:=Lib.hid hmg
         have HENCS:=Lib.hid hencs
         have HPL:=Lib.hid hpl
         clear hpe hencs hmg hpl
         go_wp2_with fail
         refine HMG.out.mono ?_
         rintro _ w7 ⟨v,rfl,H8⟩
         clear HMG H
         obtain ⟨VN,Vm,hvf,hvm,_⟩:=RowK.form H8 0 rfl
         subst hvf
         have H9:Sp w0 (Pool F2::Row 3 1 (.slice (some ad) i i) i (cntR i [])::(([RowK (.slice VN (SS.isort keyK (S++ps)).length Vm) (SS.isort keyK (S++ps))]++Rs)++L)) w7:=H8.pick 4 [2,3,0]
         have hbN:Ent (([RowK (.slice VN (SS.isort keyK (S++ps)).length Vm) (SS.isort keyK (S++ps))]++Rs)++L) (fun w=>Rd w VN (cellsK (SS.isort keyK (S++ps)))):=fun _ _ H=>by
          obtain ⟨A9,c9,e9,hr9,_,_⟩:=H.row_rd 0 rfl
          injection e9 with e9
          rw [e9]; exact hr9
         have hbS2:Ent (([RowK (.slice VN (SS.isort keyK (S++ps)).length Vm) (SS.isort keyK (S++ps))]++Rs)++L) (fun w=>Rd w VB (cellsK S)):=HX.out.2.2.2.cons _
         have HBN:=Lib.hid hbN
         have HBS2:=Lib.hid hbS2
         clear hbN hbS2 H8
         go_wp2_with fail
         go_roundw
         case rel=>exact ⟨q+1,_,Vm,VN,F2,_,_,by go_num,rfl,by omega,hvm,Lib.hid ⟨rfl,HENCS.out,HBN.out,HBS2.out⟩,H9⟩
         case measure=>first | (simp [intOf]; omega) | simp [intOf]
      ·have k5:¬ (q:Int)<(l1:Int):=by omega
       obtain rfl:q=l1:=by omega
       obtain ⟨k2,hk2b⟩:∃ k2,2 * kk=k2:=⟨_,rfl⟩
       have y5:(2:Int) * (kk:Int)=(k2:Int):=by omega
       obtain ⟨t,ht⟩:∃ t,k2=t+2:=⟨k2 - 2,by omega⟩
       have y6:(k2:Int) - 2=(t:Int):=by omega
       have htn:t≤nn:=by
        have:=HEN.out
        rw [show lm - 1=q by have:=HL1.out; omega,hnl,HIT.out] at this
        omega
       have htc:t≤cc:=by omega
       have k6:(t:Int)≤(cc:Int):=by omega
       have k7:(0:Int)≤(t:Int):=by omega
       have hTT:T=((PL.lst it q).take t).flatMap Prod.snd:=by
        rw [HT2.out,show lm - 1=q by have:=HL1.out; omega,show 2 * kk - 2=t by omega]
       have HTT:=Lib.hid hTT
       have HNL:=Lib.hid hnl
       clear hk2b ht hTT hnl HT2 HEN HL1
       go_wp2_with fail
       go_loopw [121] (fun iv wr=>∃ (r:Nat),iv=.int .i64 (r:Int)∧r≤t∧Sp w0 (Row 3 1 (.slice (some ad) i i) i (cntR i (((PL.lst it q).take r).flatMap Prod.snd))::Pool F::(Rs++L)) wr) (fun iv _=>t - (intOf iv).toNat)
       case atStart=>exact ⟨0,rfl,Nat.zero_le _,H.swap⟩
       case round =>
        clear H
        obtain ⟨r,rfl,hrt,H⟩:=hrel
        by_cases hr:r<t
        ·have k8:(r:Int)<(t:Int):=by omega
         obtain ⟨px,hpx⟩:∃ px,xs.getD r pk0=px:=⟨_,rfl⟩
         obtain ⟨tx,htx⟩:∃ tx,(PL.lst it q).getD r PL.pk0=tx:=⟨_,rfl⟩
         have hrx:r<xs.length:=by rw [HX.out.1]; omega
         have hex:Enc F tx.1 tx.2 px:=by
          rw [← htx,← hpx]
          exact HX.out.2.1.get PL.pk0 pk0 r (by rw [HNL.out]; omega)
         obtain ⟨al,hal,hrd⟩:=rdK (HX.out.2.2.1 _ _ H.tail2) hrx
         subst hal
         rw [hpx] at hrd
         obtain ⟨acc,hacc⟩:∃ acc,((PL.lst it q).take r).flatMap Prod.snd=acc:=⟨_,rfl⟩
         have hnext:((PL.lst it q).take (r+1)).flatMap Prod.snd=acc++tx.2:=by
          have hrl:r<(PL.lst it q).length:=by rw [HNL.out]; omega
          have e9:(PL.lst it q)[r]=tx:=by rw [← htx,List.getD_eq_getElem?_getD,List.getElem?_eq_getElem hrl]; rfl
          rw [List.take_succ_eq_append_getElem hrl,List.flatMap_append,hacc,e9]; simp
         rw [hacc] at H
         have hlenf:∀ l:List PL.Pk,(l.flatMap Prod.snd).length=PL.wt (fun p=>p.2.length) l:=by
          intro l
          induction l with
          | nil=>rfl
          | cons p l ih=>rw [List.flatMap_cons,List.length_append,ih]; rfl
         have hal2:acc.length+tx.2.length≤1000000000:=by
          rw [← List.length_append,← hnext,hlenf]
          have h1:=PL.wt_take (fun p=>p.2.length) (PL.lst it q) (r+1)
          have h2:=PL.wt_lst (fun p=>p.2.length) (fun _ _=>List.length_append) it q
          have h3:PL.wt (fun p=>p.2.length) it≤it.length:=by
           have:∀ l:List PL.Pk,(∀ p ∈ l,p.2.length=1)→PL.wt (fun p=>p.2.length) l≤l.length:=by
            intro l
            induction l with
            | nil=>intro _; exact Nat.le_refl _
            | cons p l ih =>
             intro hp
             have h1:=hp p (List.mem_cons_self ..)
             have h2:=ih fun q hq=>hp q (List.mem_cons_of_mem _ hq)
             show p.2.length+PL.wt _ l≤l.length+1
             omega
           exact this it fun p hp=>(HME.out p hp).2.1
          rw [HIT.out] at h3
          have h4:(q+1) * PL.wt (fun p=>p.2.length) it≤2000 * 2000:=Nat.mul_le_mul (by omega) (by omega)
          omega
         have hsy:∀ z ∈ tx.2,z<i:=by
          have:=PL.lst_mem (fun p=>∀ z ∈ p.2,z<i) (fun a b ha hb z hz=>by
           rcases List.mem_append.1 hz with hz | hz
           ·exact ha z hz
           ·exact hb z hz) it (fun p hp=>(HME.out p hp).2.2) q tx (by
            rw [← htx,List.getD_eq_getElem?_getD,List.getElem?_eq_getElem (by rw [HNL.out]; omega)]; exact List.getElem_mem _)
          exact this
         have hsp:=fun w=>spread_ok (n:=i) (v:=.slice (some ad) i i) (w0:=w0) (by omega) hex (Rs++L) acc w hsy hal2
         have HSP:=Lib.hid hsp
         have HNXT:=Lib.hid hnext
         have HRD:=Lib.hid hrd
         clear hpx htx hrx hex hrd hacc hnext hlenf hal2 hsy hsp
         have hnb:=H.newBk [.int .i64 0,.int .i64 0,.pointer none] 141
         have HNB:=Lib.hid hnb
         clear hnb
         go_wp2_with (first | (refine wpList_load_agg rfl 141 _ rfl (al.add (r * 3)) px.cells rfl HRD.out Tryd.isAgg141 Tryd.sizeOf141 ?_) | (refine wpList_store_whole rfl 141 _ _ rfl wr.heap.size 141 [.int .i64 0,.int .i64 0,.pointer none] px.cells rfl rfl HNB.out rfl Tryd.sizeOf141 px.one ?_))
         intro w8 H8
         generalize wr.heap.size=g8 at H8 ⊢
         have HB8:=Lib.hid (H8.blk 0 rfl)
         clear HNB HRD H
         go_wp2_with (refine wpList_load_whole rfl 141 _ rfl g8 141 px.cells rfl HB8.out Tryd.isAgg141 Tryd.sizeOf141 ?_)
         refine (HSP.out _ H8.tail).mono ?_
         rintro _ w9 ⟨rfl,H9⟩
         clear HSP H8 HB8
         go_wp2_with fail
         go_roundw
         case rel=>exact ⟨r+1,by go_num,by omega,by rw [HNXT.out]; exact H9⟩
         case measure=>first | (simp [intOf]; omega) | simp [intOf]
        ·have k8:¬ (r:Int)<(t:Int):=by omega
         obtain rfl:r=t:=by omega
         rw [← HTT.out] at H
         go_wp2_with fail
         go_ret2
         exact ⟨_,rfl,Sp.dropMid 1 [Pool F] rfl H⟩
end Go.Proofs.YtloijdbkikccgaaDoor

