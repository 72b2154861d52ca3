/- A pack. -/
import Derived.Test.YtnjpnmpemhldcaaGreatDoorPk13
import Derived.Test.YtnjpnmpemhldcaaGreatDoorPk14
set_option linter.all false
set_option maxRecDepth 100000
set_option maxHeartbeats 8000000
namespace Go.Proofs.YtnjpnmpemhldcaaGreatDoor
variable {w0 w:World} {L:List Pr}
open Go.RowKit
theorem rdK {w:World} {A:Option Addr} {l:List PK} (h:Rd w A (cellsK l)) {i:Nat} (hi:i<l.length):∃ad,A=some ad/\∀j v,(l.getD i pk0).cells[j]?=some v->w.cell? ((ad.add (i * 3)).add j)=some v:=by
 obtain⟨ad,e,a⟩:=h (by intro b; have:=ZC l; rw [b] at this; simp at this; omega);refine⟨ad,e,fun j v hj=>?_⟩;rw [Go.Addr.add_add];exact a _ _ (Y3 l i j hi v hj)
theorem XF (ad:Addr) (k:Nat):(ad.add k).add 0=ad.add k:=by rw [Go.Addr.add_add,Nat.add_zero]
theorem Uo (n:Nat):List.replicate n (Value.int .i64 0)=cntR n []:=by
 apply List.ext_getElem?;intro i;by_cases h:i<n
 ·rw [Z0 _ _ _ h,List.getElem?_replicate,if_pos h]; rfl
 ·rw [List.getElem?_eq_none (by simp; omega),List.getElem?_eq_none (by rw [Yd]; omega)]
theorem Sp.dropMid {A:Pr} {Rs L:List Pr} (k:Nat) (K:List Pr) (hk:K.length=k) (H:Sp w0 (A::(K++(Rs++L))) w):Sp w0 (A::L) w:=by
 have h:=H.pick (1+k+Rs.length) [0] ⟨by simp,by intro i a; simp at a; omega⟩;have e:(A::(K++(Rs++L))).drop (1+k+Rs.length)=L:=by
  rw [show 1+k+Rs.length=(k+Rs.length)+1 by omega,List.drop_succ_cons,List.drop_append,hk,List.drop_eq_nil_of_le (by omega),List.nil_append,show k+Rs.length - k=Rs.length by omega,List.drop_left]
 rw [e] at h;exact h
def ptB:Value->Nat
 | .pointer (some a)=>a.block
 | _=>0
def agB:Value->Nat
 | .agg a=>ptB (a.getD 2 undef)
 | _=>0
def castN (m:List Nat):List Int:=m.map fun n:Nat=>(n:Int)
theorem WH (A:Option Addr) (n c:Nat) (cs:List Nat) (lm:Nat) (H:Sp w0 L w) (hn:n=cs.length) (hb:Ent L fun w=>Rd w A (cells64 (castN cs))) (hl:n<=1024) (h1:1<=lm) (h15:lm<=15) (hc:∀x ∈ cs,x<=4294967296) (hk:(PL.items cs).length<=2 ^ lm) :
  Calls Tryz.prog 80 #[.slice A n c,.int .i64 lm] w fun e w'=>∃v,e=.returned (.tuple #[v,.int .i64 0])/\Sp w0 (Row 3 1 v n (cellsN (PL.lens cs lm))::L) w':=by
 obtain⟨i0,hi,f7,f8,f9⟩:=info_parts infoK;obtain⟨i1,hj,l5,l6,l7⟩:=info_parts infoJ;have HN:=hid hn;have HB:=hid hb;have HC:=hid hc;have HK:=hid hk;have c3:cellsN (PL.lens cs lm)=cntR n (PL.flat cs lm):=by
  unfold cellsN PL.lens cntR;rw [List.map_map,<- hn]; rfl
 rw [c3];obtain⟨T,hT⟩:∃T,PL.flat cs lm=T:=⟨_,rfl⟩;rw [hT];have HT:=hid hT;obtain⟨pw,a3⟩:∃p,2 ^ lm=p:=⟨_,rfl⟩;have n6:pw<=32768:=by
  rw [<- a3];have:(2:Nat) ^ lm<=2 ^ 15:=Nat.pow_le_pow_right (by omega) h15;exact this
 have y1:(2:Int) ^ lm=(pw:Int):=by rw [<- a3]; simp
 rw [a3] at HK;have l8:=hid a3;clear hn hb hc hk c3 hT a3;go_enter Tryz.func80,Tryz.ntmps80
 go_wp2_with fail
 go_loopw [6,28] (fun vv iv wr=>∃(i:Nat),iv=.int .i64 i/\i<=n/\Sp w0 (RowK vv (leafs cs i)::L) wr) (fun _ iv _=>n - (intOf iv).toNat)
 case atStart=>exact⟨0,rfl,Nat.zero_le _,H.rowNil _ _⟩
 case round =>
  clear H;obtain⟨i,rfl,o0,H⟩:=hrel;obtain⟨D,hD⟩:∃D,leafs cs i=D:=⟨_,rfl⟩;have l9:D.length<=i:=by rw [<- hD,XE]; exact PL.itemsTo_len cs i
  rw [hD] at H;obtain⟨VA,Vc,X,_,_⟩:=RowK.form H 0 rfl;subst X;by_cases m0:i<n
  ·have k1:(i:Int)<(n:Int):=by omega
   have d2:i<cs.length:=by rw [<- HN.out]; exact m0
   obtain⟨al,a4,a5⟩:=(HB.out _ _ H.tail).at64 (k:=i) (by simpa [castN] using d2);obtain⟨x,hx⟩:∃x,cs.getD i 0=x:=⟨_,rfl⟩;have d3:cs[i]=x:=by rw [<- hx,List.getD_eq_getElem?_getD,List.getElem?_eq_getElem d2]; rfl
   have o1:x<=4294967296:=by rw [<- d3]; exact HC.out _ (List.getElem_mem d2)
   replace a5:wr.cell? (al.add i)=some (.int .i64 x):=by
    rw [a5];simp [castN,d3]
   have m:=WG cs i;rw [hx,hD] at m;have g0:=hid m;have k2:¬ (x:Int)<0:=by omega
   have k3:¬ 4294967296<(x:Int):=by omega
   subst a4;clear hx d3 m hD;by_cases g1:0<x
   ·have k4:(0:Int)<(x:Int):=by omega
    have G:=Rd.of_blk (Blk.new wr 183 [.int .i64 x,.int .i64 i,.pointer none]);have g2:=hid G;have h9:=(H.newBk [.int .i64 x,.int .i64 i,.pointer none] 183).swap;have g3:=hid h9;clear G h9 H;go_wp2_with (at_builtin; refine Za rfl _ _ 180 rfl 183 i0 (.agg #[.int .i64 0,.int .i64 0,.pointer none]) 3 24 Tryz.underlying180 hi f7 f8 f9 rfl (by decide) (.slice VA D.length Vc) D.length (cellsK D) rfl g3.out (some ⟨wr.heap.size,0,none⟩) 1 1 [.int .i64 x,.int .i64 i,.pointer none] rfl rfl g2.out (PK.one ⟨x,i,none⟩) (by simp only [maxLen]; omega) (by omega) ?_)
    intro v6 w6 H6 _;clear g2 g3;go_wp2_with fail
    go_roundw
    case rel =>
     refine⟨i+1,by go_num,by omega,?_⟩;rw [g0.out,if_pos g1];unfold RowK;rw [List.length_append,Zy];exact H6.pick 2 [0]
    case measure=>first | (simp [intOf]; omega) | simp [intOf]
   ·have k4:¬ (0:Int)<(x:Int):=by omega
    go_wp2_with fail
    go_roundw
    case rel=>exact⟨i+1,by go_num,by omega,by rw [g0.out,if_neg g1]; exact H⟩
    case measure=>first | (simp [intOf]; omega) | simp [intOf]
  ·have k1:¬ (i:Int)<(n:Int):=by omega
   obtain rfl:i=n:=by omega
   have hit:leafs cs i=leafs cs cs.length:=by rw [<- HN.out]
   have m1:D.length=(PL.items cs).length:=by rw [<- hD,hit,XE]; rfl
   have E:EncL [] (PL.items cs) D:=by rw [<- hD,hit]; exact Vr [] cs cs.length
   obtain⟨kk,V⟩:∃kk,D.length=kk:=⟨_,rfl⟩;have m2:kk<=pw:=by have:=HK.out; omega
   have c4:(PL.items cs).length=kk:=by omega
   rw [V] at l9;unfold RowK at H;rw [V] at H;have a6:=hid V;have I:=hid c4;have a7:=hid E;have g4:D=(PL.items cs).map fun p=>⟨(p.1:Int),((p.2.getD 0 0:Nat):Int),none⟩:=by rw [<- hD,hit]; rfl
   have d4:=hid g4;have k2:¬ (pw:Int)<(kk:Int):=by omega
   rw [V];clear hit m1 E V c4 hD g4;go_wp2_with (at_make; refine Zr rfl _ _ _ rfl 3 i1 (.int .i64 0) Tryz.underlying141 hj l5 l6 rfl i rfl rfl (by rw [l7]; omega) (by unfold maxLen; omega) H ?_)
   intro ad w5 H5;rw [Uo] at H5;by_cases Y:kk=1
   ·have k3:((kk:Int) == 1)=true:=by rw [beq_iff_eq]; omega
    have k4:(kk:Int)<2:=by omega
    obtain⟨p,Q⟩:=List.length_eq_one_iff.1 (by rw [I.out,Y]:(PL.items cs).length=1);have d5:=PL.itemsTo_mem cs cs.length p (by rw [show PL.itemsTo cs cs.length=PL.items cs from rfl,Q]; exact List.mem_singleton.2 rfl);obtain⟨pc,B⟩:=p;obtain⟨sy,a8⟩:=List.length_eq_one_iff.1 d5.2.1;simp only at a8;subst a8;have g5:sy<i:=by rw [HN.out]; exact d5.2.2.2 sy (List.mem_singleton.2 rfl)
    have m3:D=[⟨(pc:Int),(sy:Int),none⟩]:=by rw [d4.out,Q]; rfl
    have m4:T=[sy]:=by
     rw [<- HT.out,PL.flat,if_pos (by rw [I.out]; omega),Q]; rfl
    subst m3 m4;subst Y;obtain⟨A9,c9,o,G,_,_⟩:=H5.row_rd 1 rfl;injection o with o e10 e11
    clear e10 e11;obtain⟨ai,rfl,g6⟩:=G (by simp [cellsK,PK.cells]);subst o;have d1:w5.cell? ⟨ai.block,ai.off+1,none⟩=some (.int .i64 sy):=g6 1 _ rfl;obtain⟨o2,c2,ev,_,hc,hz,c5⟩:=H5.rowSet g5;injection ev with ev ev2 ev3
    injection ev with ev
    subst ev;clear ev2 ev3;rw [Z0 _ _ _ g5] at hc;replace hc:w5.cell? (ad.add sy)=some (.int .i64 0):=hc;have d6:=c5 (.int .i64 1);rw [Xl i sy [] 1 (by simp),List.nil_append] at d6;have m5:=hid d6;have k5:(sy:Int)<(i:Int):=by omega
    clear c5 d6 g6 Q d5 d4 a7 a6;go_wp2_with fail
    go_ret2;exact⟨_,rfl,m5.out.pick 2 [0]⟩
   ·have k3:((kk:Int) == 1)=false:=by rw [beq_eq_false_iff_ne]; omega
    by_cases m6:kk<2
    ·have k4:(kk:Int)<2:=by omega
     have g7:PL.items cs=[]:=List.eq_nil_of_length_eq_zero (by rw [I.out]; omega);have m7:T=[]:=by rw [<- HT.out,PL.flat,if_pos (by rw [I.out]; omega),g7]; rfl
     subst m7;clear g7;go_wp2_with fail
     go_ret2;exact⟨_,rfl,H5.pick 2 [0]⟩
    ·have k4:¬ (kk:Int)<2:=by omega
     have h0:Sp w0 (RowK (.slice VA kk Vc) D::Row 3 1 (.slice (some ad) i i) i (cntR i [])::L) w5:=by
      unfold RowK; rw [a6.out]; exact H5.swap
     have Z:=Wg VA none kk Vc 0 0 D [] h0 a6.out rfl (fun _ _ H=>by
      obtain⟨A9,c9,o,G,_,_⟩:=H.row_rd 0 rfl;injection o with o
      rw [o]; exact G) (fun _ _ _=>Rd.nil) (by omega) (by omega)
     rw [List.append_nil] at Z;have a0:=hid Z;have E:=a7.out.isort;have d7:(SS.isort keyK D).length=kk:=by rw [SS.len_isort,a6.out]
     obtain⟨S,u⟩:∃S,SS.isort keyK D=S:=⟨_,rfl⟩;obtain⟨it,hit⟩:∃it,PL.sorted cs=it:=⟨_,rfl⟩;rw [u] at a0 d7 E;replace E:EncL [] it S:=by rw [<- hit]; exact E
     have a9:it.length=kk:=by rw [<- hit,PL.sorted,SS.len_isort,I.out]
     have h6:T=((PL.lst it (lm - 1)).take (2 * kk - 2)).flatMap Prod.snd:=by
      rw [<- HT.out,PL.flat,if_neg (by rw [I.out]; exact m6),I.out,hit]
     have h7:=PL.lst_enough it lm h1 (by rw [a9,l8.out]; exact m2);have c6:∀p ∈ it,p.1<=4294967296/\p.2.length=1/\∀s ∈ p.2,s<i:=by
      intro p Q;rw [<- hit] at Q;have h9:=PL.itemsTo_mem cs cs.length p (SS.mem_isort.1 Q);exact⟨HC.out _ h9.1,h9.2.1,fun s hs=>by rw [HN.out]; exact h9.2.2.2 s hs⟩
     have h8:=hid E;have d8:=hid d7;have b8:=hid a9;have i2:=hid h6;have i3:=hid h7;have d9:=hid c6;clear Z E d7 u hit a9 h6 h7 c6 d4 a7 a6;go_wp2_with fail
     refine a0.out.mono ?_;rintro _ w6 ⟨v,rfl,H6⟩;clear a0 H5 h0;obtain⟨VB,Vd,X,e0,_⟩:=RowK.form H6 0 rfl;subst X;have H7:Sp w0 (Row 3 1 (.slice (some ad) i i) i (cntR i [])::([RowK (.slice VB S.length Vd) S]++L)) w6:=H6.pick 3 [2,0];replace H7:=Pool.nil H7;have e1:Ent ([RowK (.slice VB S.length Vd) S]++L) (fun w=>Rd w VB (cellsK S)):=fun _ _ H=>by
      obtain⟨A9,c9,o,G,_,_⟩:=H.row_rd 0 rfl;injection o with o
      rw [o]; exact G
     rw [d8.out] at H7 e1 e0 ⊢;have e2:=hid e1;obtain⟨l1,e3⟩:∃l1,lm=l1+1:=⟨lm - 1,by omega⟩;have y2:(lm:Int) - 1=(l1:Int):=by omega
     have e4:=hid e3;have m8:=e3;clear e3 e1 H6 m8 H;go_wp2_with fail
     go_loopw [10,74] (fun lv iv wr=>∃(q nn cc:Nat) (AA:Option Addr) (F:PoolT) (xs:List PK) (Rs:List Pr),iv=.int .i64 q/\lv=.slice AA nn cc/\q<=l1/\nn<=cc/\Hid (xs.length=nn/\EncL F (PL.lst it q) xs/\Ent (Rs++L) (fun w=>Rd w AA (cellsK xs))/\Ent (Rs++L) (fun w=>Rd w VB (cellsK S)))/\Sp w0 (Pool F::Row 3 1 (.slice (some ad) i i) i (cntR i [])::(Rs++L)) wr) (fun _ iv _=>l1 - (intOf iv).toNat)
     case atStart=>exact⟨0,kk,Vd,VB,[],S,_,rfl,rfl,Nat.zero_le _,e0,hid ⟨d8.out,h8.out,e2.out,e2.out⟩,H7⟩
     case round =>
      clear H7 e2 e0;obtain⟨q,nn,cc,AA,F,xs,Rs,rfl,rfl,hq,o3,W,H⟩:=hrel;have a1:(PL.lst it q).length=nn:=by rw [<- W.out.1]; exact W.out.2.1.len
      have o4:nn<=2048:=by
       rw [<- a1];have:=PL.lst_le it q;have:=b8.out; omega
      by_cases o5:q<l1
      ·have k5:(q:Int)<(l1:Int):=by omega
       have R:=hid a1;clear a1;go_wp2_with fail
       go_loopw [11,12] (fun pv kv wr=>∃(k j:Nat) (F2:PoolT) (B:List PK),kv=.int .i64 k/\Hid (k=2 * j/\EncL F2 (PL.pairsTo (PL.lst it q) j) B/\∀e ∈ F,e ∈ F2)/\k<=nn/\Sp w0 (RowK pv B::Pool F2::Row 3 1 (.slice (some ad) i i) i (cntR i [])::(Rs++L)) wr) (fun _ kv _=>nn - (intOf kv).toNat)
       case atStart=>exact⟨0,0,F,[],rfl,hid ⟨rfl,trivial,fun _ h=>h⟩,Nat.zero_le _,H.rowNil _ _⟩
       case round =>
        clear H;obtain⟨k,j,F2,B,rfl,HJ,o6,H⟩:=hrel;have a2:B.length=j:=by
         rw [<- HJ.out.2.1.len];simp [PL.pairsTo]
        obtain⟨PA,pc,X,_,_⟩:=RowK.form H 0 rfl;subst X;rw [a2] at H ⊢;by_cases o7:k+1<nn
        ·have k6:(k:Int)+1<(nn:Int):=by omega
         obtain⟨k1,Y⟩:∃k1,k+1=k1:=⟨_,rfl⟩;have y3:(k:Int)+1=(k1:Int):=by omega
         have k7:(k:Int)<(nn:Int):=by omega
         have k8:(k1:Int)<(nn:Int):=by omega
         obtain⟨pa,e5⟩:∃pa,xs.getD k pk0=pa:=⟨_,rfl⟩;obtain⟨pb,e7⟩:∃pb,xs.getD k1 pk0=pb:=⟨_,rfl⟩;obtain⟨ta,b9⟩:∃ta,(PL.lst it q).getD k PL.pk0=ta:=⟨_,rfl⟩;obtain⟨tb,c0⟩:∃tb,(PL.lst it q).getD k1 PL.pk0=tb:=⟨_,rfl⟩;have e8:Enc F2 ta.1 ta.2 pa:=by
          rw [<- b9,<- e5];exact(W.out.2.1.get PL.pk0 pk0 k (by rw [R.out]; omega)).mono HJ.out.2.2
         have f0:Enc F2 tb.1 tb.2 pb:=by
          rw [<- c0,<- e7];exact(W.out.2.1.get PL.pk0 pk0 k1 (by rw [R.out]; omega)).mono HJ.out.2.2
         have f1:∀t ∈ PL.lst it q,t.1<=17179869184000000:=by
          intro t ht;have h1:=PL.wt_mem Prod.fst ht;have h2:=PL.wt_lst Prod.fst (fun _ _=>rfl) it q;have h3:PL.wt Prod.fst it<=it.length * 4294967296:=by
           have:∀l:List PL.Pk,(∀p ∈ l,p.1<=4294967296)->PL.wt Prod.fst l<=l.length * 4294967296:=by
            intro l;induction l with
            | nil=>intro _; exact Nat.le_refl _
            | cons p l ih =>
             intro Q;have h1:=Q p (List.mem_cons_self ..);have h2:=ih fun q hq=>Q q (List.mem_cons_of_mem _ hq);show p.1+PL.wt Prod.fst l<=(l.length+1) * 4294967296;rw [Nat.succ_mul]; omega
           exact this it fun p Q=>(d9.out p Q).1
          rw [b8.out] at h3;have h4:kk * 4294967296<=8589934592000:=by omega
          have h5:(q+1) * PL.wt Prod.fst it<=2000 * 8589934592000:=Nat.mul_le_mul (by omega) (by omega);omega
         have m9:ta.1<=17179869184000000:=by
          rw [<- b9];refine f1 _ ?_;rw [List.getD_eq_getElem?_getD,List.getElem?_eq_getElem (by rw [R.out]; omega)]; exact List.getElem_mem _
         have n0:tb.1<=17179869184000000:=by
          rw [<- c0];refine f1 _ ?_;rw [List.getD_eq_getElem?_getD,List.getElem?_eq_getElem (by rw [R.out]; omega)]; exact List.getElem_mem _
         obtain⟨ca,b0⟩:∃ca,pa.c=ca:=⟨_,rfl⟩;obtain⟨cb,b1⟩:∃cb,pb.c=cb:=⟨_,rfl⟩;have i4:ca=(ta.1:Int):=by rw [<- b0]; exact e8.count
         have i5:cb=(tb.1:Int):=by rw [<- b1]; exact f0.count
         obtain⟨cc2,b2⟩:∃cc2,ta.1+tb.1=cc2:=⟨_,rfl⟩;have y4:ca+cb=(cc2:Int):=by omega
         have o8:0<=ca:=by omega
         have o9:ca<=20000000000000000:=by omega
         have q0:0<=cb:=by omega
         have q1:cb<=20000000000000000:=by omega
         have m:PL.pairsTo (PL.lst it q) (j+1)=PL.pairsTo (PL.lst it q) j++[(cc2,ta.2++tb.2)]:=by
          rw [PL.pairsTo_succ,<- HJ.out.1,Y,b9,c0,<- b2]; rfl
         have b3:∀g,(g,pa,pb) ∈ (g,pa,pb)::F2->Enc ((g,pa,pb)::F2) cc2 (ta.2++tb.2) ⟨(cc2:Int),0,some g⟩:=fun g hg=>by
          rw [<- b2];exact .node hg (e8.mono fun _ h=>List.mem_cons_of_mem _ h) (f0.mono fun _ h=>List.mem_cons_of_mem _ h)
         have q2:j<nn:=by have:=HJ.out.1; omega
         have b4:=hid m;have f2:=hid b3;have J:Hid (xs.getD k pk0=pa/\k<xs.length/\pa.c=ca):=hid ⟨e5,by rw [W.out.1]; omega,b0⟩;have M:Hid (xs.getD k1 pk0=pb/\k1<xs.length/\pb.c=cb):=hid ⟨e7,by rw [W.out.1]; omega,b1⟩;have q3:=hid Y;have f3:=hid a2;obtain⟨al,a4⟩:∃al,AA=some al:=by
          obtain⟨al,e,_⟩:=rdK (W.out.2.2.1 _ _ H.tail2.tail) (i:=k) (by rw [W.out.1]; omega);exact⟨al,e⟩
         subst a4;clear e5 e7 b9 c0 e8 f0 f1 m9 n0 b0 b1 i4 i5 b2 m b3 Y a2;go_wp2_with fail
         refine Zb (L:=Pool F2::Row 3 1 (.slice (some ad) i i) i (cntR i [])::(Rs++L)) [some (.slice PA j pc),some (.slice (some al) nn cc),some (.int .i64 k),some (.pointer (some (al.add (k * 3)))),some (.pointer (some (al.add (k * 3)))),some (.int .i64 ca),some (.slice (some al) nn cc),some (.int .i64 k),some (.int .i64 k1),some (.pointer (some (al.add (k1 * 3)))),some (.pointer (some (al.add (k1 * 3)))),some (.int .i64 cb),some (.int .i64 cc2),some (.slice (some al) nn cc),some (.int .i64 k),some (.pointer (some (al.add (k * 3)))),some (.agg #[.int .i64 ca,.int .i64 pa.s,pa.ptr]),some (.slice (some al) nn cc),some (.int .i64 k),some (.int .i64 k1),some (.pointer (some (al.add (k1 * 3)))),some (.agg #[.int .i64 cb,.int .i64 pb.s,pb.ptr]),some (.agg #[.int .i64 ca,.int .i64 pa.s,pa.ptr,.int .i64 cb,.int .i64 pb.s,pb.ptr]),none,none,none,none,none] (fun ix vx=>match ix with | 23=>(fun v=>∃g,v=.pointer (some ⟨g,0,none⟩)) vx | 24=>(fun v=>∃g,v=.agg #[.int .i64 cc2,.int .i64 0,.pointer (some ⟨g,0,none⟩)]) vx | 25=>(fun v=>∃g,v=.slice (some ⟨g,0,none⟩) 1 1) vx | 26=>(fun _=>True) vx | 27=>(fun _=>True) vx | _=>True) (fun ix vx=>match ix with | 23=>(fun v=>[Bk (ptB v) 185 [.int .i64 ca,.int .i64 pa.s,pa.ptr,.int .i64 cb,.int .i64 pb.s,pb.ptr]]) vx | 24=>(fun v=>[Bk (agB v) 185 [.int .i64 ca,.int .i64 pa.s,pa.ptr,.int .i64 cb,.int .i64 pb.s,pb.ptr]]) vx | 25=>(fun v=>[Ex fun g=>Star (Bk (v.ownBlock.getD 0) 183 [.int .i64 cc2,.int .i64 0,.pointer (some ⟨g,0,none⟩)]) (Bk g 185 [.int .i64 ca,.int .i64 pa.s,pa.ptr,.int .i64 cb,.int .i64 pb.s,pb.ptr])]) vx | 26=>(fun v=>[Ex fun g=>Star (RowK v (B++[⟨(cc2:Int),0,some g⟩])) (Bk g 185 [.int .i64 ca,.int .i64 pa.s,pa.ptr,.int .i64 cb,.int .i64 pb.s,pb.ptr])]) vx | 27=>(fun v=>[Ex fun g=>Star (RowK v (B++[⟨(cc2:Int),0,some g⟩])) (Bk g 185 [.int .i64 ca,.int .i64 pa.s,pa.ptr,.int .i64 cb,.int .i64 pb.s,pb.ptr])]) vx | _=>[]) (fun ix=>match ix with | 26=>[RowK (.slice PA j pc) B] | _=>[]) 28 130
          [some 83,some 84,some 85,some 86,some 87,some 88,some 89,some 90,some 91,some 92,some 93,some 94,some 95,some 96,some 97,some 98,some 99,some 100,some 101,some 102,some 103,some 104,some 105,some 106,some 107,some 108,some 109,some 11]
          [[],[],[],[1,2],[3],[4],[],[],[7],[6,8],[9],[10],[5,11],[],[],[13,14],[15],[],[],[18],[17,19],[20],[16,21],[22],[12,23],[24],[0,25],[26,26,0,1,2,3,4,5,6,7,8,9,10,11,12,13,14,15,16,17,18,19,20,21,22,23,24,25,26]]
          [[],[],[],[1,2],[1,2,3],[1,2,3,4],[],[],[7],[6,7,8],[6,7,8,9],[6,7,8,9,10],[1,2,3,4,5,6,7,8,9,10,11],[],[],[13,14],[13,14,15],[],[],[18],[17,18,19],[17,18,19,20],[13,14,15,16,17,18,19,20,21],[13,14,15,16,17,18,19,20,21,22],[1,2,3,4,5,6,7,8,9,10,11,12,13,14,15,16,17,18,19,20,21,22,23],[1,2,3,4,5,6,7,8,9,10,11,12,13,14,15,16,17,18,19,20,21,22,23,24],[0,1,2,3,4,5,6,7,8,9,10,11,12,13,14,15,16,17,18,19,20,21,22,23,24,25],[0,1,2,3,4,5,6,7,8,9,10,11,12,13,14,15,16,17,18,19,20,21,22,23,24,25,26]]
          [[],[],[],[],[],[],[],[],[],[],[],[],[],[],[],[],[],[],[],[],[],[],[],[],[23],[24],[25],[26]] [[],[],[],[],[],[],[],[],[],[],[],[],[],[],[],[],[],[],[],[],[],[],[],[],[],[],[],[]] [(10,.slice (some al) nn cc),(11,.slice PA j pc),(12,.int .i64 k)]
          (by kernel_rfl) rfl (by decide) (by rfl) (by decide +kernel) rfl rfl (by simp) (H) ?hstep ?hend
         case hstep =>
          refine⟨?p0,⟨?p1,⟨?p2,⟨?p3,⟨?p4,⟨?p5,⟨?p6,⟨?p7,⟨?p8,⟨?p9,⟨?p10,⟨?p11,⟨?p12,⟨?p13,⟨?p14,⟨?p15,⟨?p16,⟨?p17,⟨?p18,⟨?p19,⟨?p20,⟨?p21,⟨?p22,⟨?p23,⟨?p24,⟨?p25,⟨?p26,⟨?p27,trivial⟩⟩⟩⟩⟩⟩⟩⟩⟩⟩⟩⟩⟩⟩⟩⟩⟩⟩⟩⟩⟩⟩⟩⟩⟩⟩⟩⟩
          case p0 | p1 | p2 | p3 | p4 | p6 | p7 | p8 | p9 | p10 | p12 | p13 | p14 | p15 | p17 | p18 | p19 | p20 | p22 =>
           intro x wx A d y P u U H K O;replace O:=hid O;clear u U y;repeat (obtain⟨_,P⟩:=P)
           refine so ?_;go_step;exact O.out _ _ rfl H
          case p5 =>
           intro x wx A d y P u U H K f;have q4:A.tmps[87]?.getD undef=.pointer (some (al.add (k * 3))):=tq u 4;have O:=hid f;clear f P u y;have C:∀jj vv,pa.cells[jj]?=some vv->wx.cell? ((al.add (k * 3)).add jj)=some vv:=by
            obtain⟨f4,o,N⟩:=rdK (U (fun w=>Rd w (some al) (cellsK xs)) (Ent.cons _ (Ent.cons _ W.out.2.2.1)) _ _ H) (i:=k) J.out.2.1;injection o with o
            rw [J.out.1,<- o] at N;exact N
           have b2:wx.cell? (al.add (k * 3))=some (.int .i64 ca):=by
            have h9:=C 0 _ rfl;rw [XF,J.out.2.2] at h9;exact h9
           clear C;refine so ?_;go_step;exact O.out _ _ rfl H
          case p11 =>
           intro x wx A d y P u U H K f;have q5:A.tmps[93]?.getD undef=.pointer (some (al.add (k1 * 3))):=tq u 10;have O:=hid f;clear f P u y;have C:∀jj vv,pb.cells[jj]?=some vv->wx.cell? ((al.add (k1 * 3)).add jj)=some vv:=by
            obtain⟨f4,o,N⟩:=rdK (U (fun w=>Rd w (some al) (cellsK xs)) (Ent.cons _ (Ent.cons _ W.out.2.2.1)) _ _ H) (i:=k1) M.out.2.1;injection o with o
            rw [M.out.1,<- o] at N;exact N
           have b2:wx.cell? (al.add (k1 * 3))=some (.int .i64 cb):=by
            have h9:=C 0 _ rfl;rw [XF,M.out.2.2] at h9;exact h9
           clear C;refine so ?_;go_step;exact O.out _ _ rfl H
          case p16 =>
           intro x wx A d y P u U H K f;have n1:A.tmps[98]?.getD undef=.pointer (some (al.add (k * 3))):=tq u 15;have O:Hid (∀(v:Value) (w' : World),(v=.agg #[.int .i64 ca,.int .i64 pa.s,pa.ptr])->Sp w0 (d) w'->K (A.put (some 99) v) w'):=hid f;clear f P u y;have C:∀jj vv,pa.cells[jj]?=some vv->wx.cell? ((al.add (k * 3)).add jj)=some vv:=by
            obtain⟨f4,o,N⟩:=rdK (U (fun w=>Rd w (some al) (cellsK xs)) (Ent.cons _ (Ent.cons _ W.out.2.2.1)) _ _ H) (i:=k) J.out.2.1;injection o with o
            rw [J.out.1,<- o] at N;exact N
           refine so ?_;exact Ze 183 _ rfl _ pa.cells (ev n1) C Tryz.isAgg183 Tryz.sizeOf183 (O.out _ _ (by rw [<- J.out.2.2]; rfl) H)
          case p21 =>
           intro x wx A d y P u U H K f;have i6:A.tmps[103]?.getD undef=.pointer (some (al.add (k1 * 3))):=tq u 20;have O:Hid (∀(v:Value) (w' : World),(v=.agg #[.int .i64 cb,.int .i64 pb.s,pb.ptr])->Sp w0 (d) w'->K (A.put (some 104) v) w'):=hid f;clear f P u y;have C:∀jj vv,pb.cells[jj]?=some vv->wx.cell? ((al.add (k1 * 3)).add jj)=some vv:=by
            obtain⟨f4,o,N⟩:=rdK (U (fun w=>Rd w (some al) (cellsK xs)) (Ent.cons _ (Ent.cons _ W.out.2.2.1)) _ _ H) (i:=k1) M.out.2.1;injection o with o
            rw [M.out.1,<- o] at N;exact N
           refine so ?_;exact Ze 183 _ rfl _ pb.cells (ev i6) C Tryz.isAgg183 Tryz.sizeOf183 (O.out _ _ (by rw [<- M.out.2.2]; rfl) H)
          case p23 =>
           intro x wx A d y P u U H K f;have n7:A.tmps[105]?.getD undef=.agg #[.int .i64 ca,.int .i64 pa.s,pa.ptr,.int .i64 cb,.int .i64 pb.s,pb.ptr]:=tq u 22;have O:Hid (∀(v:Value) (w' : World),(∃g,v=.pointer (some ⟨g,0,none⟩))->Sp w0 ((Bk (ptB v) 185 [.int .i64 ca,.int .i64 pa.s,pa.ptr,.int .i64 cb,.int .i64 pb.s,pb.ptr])::d) w'->K (A.put (some 106) v) w'):=hid f;clear f P u U y;refine so ?_;go_step;exact O.out _ _ ⟨_,rfl⟩ (H.newBk _ _)
          case p24 =>
           intro x wx A d y P u U H K f;have q6:A.tmps[95]?.getD undef=.int .i64 cc2:=tq u 12;have i7:∃g,(x 23)=.pointer (some ⟨g,0,none⟩):=(u 23 (by decide)).1;have i8:A.tmps[106]?.getD undef=x 23:=(u 23 (by decide)).2 106 rfl;replace H:Sp w0 ((Bk (ptB (x 23)) 185 [.int .i64 ca,.int .i64 pa.s,pa.ptr,.int .i64 cb,.int .i64 pb.s,pb.ptr])::d) wx:=H;have O:Hid (∀(v:Value) (w' : World),(∃g,v=.agg #[.int .i64 cc2,.int .i64 0,.pointer (some ⟨g,0,none⟩)])->Sp w0 ((Bk (agB v) 185 [.int .i64 ca,.int .i64 pa.s,pa.ptr,.int .i64 cb,.int .i64 pb.s,pb.ptr])::d) w'->K (A.put (some 107) v) w'):=hid f;clear f P u U y;obtain⟨g9,o⟩:=i7;rw [o] at H i8;refine so ?_;go_step;exact O.out _ _ ⟨_,rfl⟩ H
          case p25 =>
           intro x wx A d y P u U H K f;have i9:∃g,(x 24)=.agg #[.int .i64 cc2,.int .i64 0,.pointer (some ⟨g,0,none⟩)]:=(u 24 (by decide)).1;have j0:A.tmps[107]?.getD undef=x 24:=(u 24 (by decide)).2 107 rfl;replace H:Sp w0 ((Bk (agB (x 24)) 185 [.int .i64 ca,.int .i64 pa.s,pa.ptr,.int .i64 cb,.int .i64 pb.s,pb.ptr])::d) wx:=H;have O:Hid (∀(v:Value) (w' : World),(∃g,v=.slice (some ⟨g,0,none⟩) 1 1)->Sp w0 ((Ex fun g=>Star (Bk (v.ownBlock.getD 0) 183 [.int .i64 cc2,.int .i64 0,.pointer (some ⟨g,0,none⟩)]) (Bk g 185 [.int .i64 ca,.int .i64 pa.s,pa.ptr,.int .i64 cb,.int .i64 pb.s,pb.ptr]))::d) w'->K (A.put (some 108) v) w'):=hid f;clear f P u U y;obtain⟨g9,o⟩:=i9;rw [o] at H j0;refine so ?_;go_step;exact O.out _ _ ⟨_,rfl⟩ (Sp.ex g9 (H.newBk _ _).star)
          case p26 =>
           intro x wx A d y P u U H K f;have n2:A.tmps[83]?.getD undef=.slice PA j pc:=tq u 0;have j1:∃g,(x 25)=.slice (some ⟨g,0,none⟩) 1 1:=(u 25 (by decide)).1;have c7:A.tmps[108]?.getD undef=x 25:=(u 25 (by decide)).2 108 rfl;replace H:Sp w0 ((RowK (.slice PA j pc) B)::(Ex fun g=>Star (Bk ((x 25).ownBlock.getD 0) 183 [.int .i64 cc2,.int .i64 0,.pointer (some ⟨g,0,none⟩)]) (Bk g 185 [.int .i64 ca,.int .i64 pa.s,pa.ptr,.int .i64 cb,.int .i64 pb.s,pb.ptr]))::d) wx:=H;have O:Hid (∀(v:Value) (w' : World),(True)->Sp w0 ((Ex fun g=>Star (RowK v (B++[⟨(cc2:Int),0,some g⟩])) (Bk g 185 [.int .i64 ca,.int .i64 pa.s,pa.ptr,.int .i64 cb,.int .i64 pb.s,pb.ptr]))::d) w'->K (A.put (some 109) v) w'):=hid f;clear f P u U y;obtain⟨g9,o⟩:=j1;rw [o] at H c7;obtain⟨g8,H⟩:=H.swap.unex;replace H:=H.unstar.pick 3 [2,0,1];refine so ?_;refine Zi _ _ 180 rfl 183 i0 (.agg #[.int .i64 0,.int .i64 0,.pointer none]) 3 24 Tryz.underlying180 hi f7 f8 f9 rfl (by decide) (.slice PA j pc) B.length (cellsK B) (ev n2) H (some ⟨g9,0,none⟩) 1 1 [.int .i64 cc2,.int .i64 0,.pointer (some ⟨g8,0,none⟩)] (ev c7) rfl (Rd.of_blk (H.blk 1 rfl)) (PK.one ⟨(cc2:Int),0,some g8⟩) (by simp only [maxLen]; have:=f3.out; omega) (by have:=f3.out; omega) ?_;intro v1 w2 H2 _;refine O.out _ _ trivial (Sp.ex g8 (Sp.star ?_));unfold RowK;rw [List.length_append,Zy];exact H2.pick 3 [0,2]
          case p27 =>
           intro x wx A d y P u U H K f;have n8:True:=(u 26 (by decide)).1;have n9:A.tmps[109]?.getD undef=x 26:=(u 26 (by decide)).2 109 rfl;replace H:Sp w0 ((Ex fun g=>Star (RowK (x 26) (B++[⟨(cc2:Int),0,some g⟩])) (Bk g 185 [.int .i64 ca,.int .i64 pa.s,pa.ptr,.int .i64 cb,.int .i64 pb.s,pb.ptr]))::d) wx:=H;have O:Hid (∀(v:Value) (w' : World),(True)->Sp w0 ((Ex fun g=>Star (RowK v (B++[⟨(cc2:Int),0,some g⟩])) (Bk g 185 [.int .i64 ca,.int .i64 pa.s,pa.ptr,.int .i64 cb,.int .i64 pb.s,pb.ptr]))::d) w'->K (A.put (some 11) v) w'):=hid f;clear f P u U y;refine so ?_;go_step;exact O.out _ _ trivial H
         case hend =>
          intro x wx A hA u H;replace H:Sp w0 ((Ex fun g=>Star (RowK (x 27) (B++[⟨(cc2:Int),0,some g⟩])) (Bk g 185 [.int .i64 ca,.int .i64 pa.s,pa.ptr,.int .i64 cb,.int .i64 pb.s,pb.ptr]))::Pool F2::Row 3 1 (.slice (some ad) i i) i (cntR i [])::(Rs++L)) wx:=H;clear u;simp only [putAll,Act.put,List.setIfInBounds_toArray,List.set_cons_succ,List.set_cons_zero,Nat.reduceAdd] at hA;subst hA;obtain⟨g,H⟩:=H.unex;replace H:=H.unstar;have e6:[.int .i64 ca,.int .i64 pa.s,pa.ptr,.int .i64 cb,.int .i64 pb.s,pb.ptr]=pa.cells++pb.cells:=by
           rw [<- J.out.2.2,<- M.out.2.2]; rfl
          rw [e6] at H;have H2:Sp w0 (Pool ((g,pa,pb)::F2)::RowK (x 27) (B++[(⟨(cc2:Int),0,some g⟩:PK)])::Row 3 1 (.slice (some ad) i i) i (cntR i [])::(Rs++L)) wx:=Pool.cons (H.pick 3 [1,2,0]);go_wp2_with fail
          go_roundw
          case rel =>
           refine⟨k+2,j+1,(g,pa,pb)::F2,B++[(⟨(cc2:Int),0,some g⟩:PK)],by go_num,hid ⟨by have:=HJ.out.1; omega,?_,fun e he=>List.mem_cons_of_mem _ (HJ.out.2.2 e he)⟩,by omega,H2.swap⟩;rw [b4.out];exact(HJ.out.2.1.mono fun _ h=>List.mem_cons_of_mem _ h).snoc (f2.out g (List.mem_cons_self ..))
          case measure=>first | (simp [intOf]; omega) | simp [intOf]
        ·have k6:¬ (k:Int)+1<(nn:Int):=by omega
         have j2:PL.pairsTo (PL.lst it q) j=PL.pairs (PL.lst it q):=by
          unfold PL.pairs;rw [R.out,show nn / 2=j by have:=HJ.out.1; omega]
         have q7:j<=nn:=by have:=HJ.out.1; omega
         have b5:EncL F2 (PL.lst it (q+1)) (SS.isort keyK (S++B)):=by
          have h1:=HJ.out.2.1;rw [j2] at h1;exact EncL.isort (show EncL F2 (it++PL.pairs (PL.lst it q)) (S++B) from(h8.out.mono fun _ h=>by cases h).append h1)
         have Z:=Wg VB PA kk Vd j pc S B H d8.out a2 (Ent.cons _ (Ent.cons _ (Ent.cons _ W.out.2.2.2))) (fun _ _ H=>by
          obtain⟨A9,c9,o,G,_,_⟩:=H.row_rd 0 rfl;injection o with o
          rw [o]; exact G) (by omega) (by omega)
         have a0:=hid Z;have f5:=hid b5;have f3:=hid a2;clear j2 b5 Z a2;go_wp2_with fail
         refine a0.out.mono ?_;rintro _ w7 ⟨v,rfl,H8⟩;clear a0 H;obtain⟨VN,Vm,X,n3,_⟩:=RowK.form H8 0 rfl;subst X;have H9:Sp w0 (Pool F2::Row 3 1 (.slice (some ad) i i) i (cntR i [])::(([RowK (.slice VN (SS.isort keyK (S++B)).length Vm) (SS.isort keyK (S++B))]++Rs)++L)) w7:=H8.pick 4 [2,3,0];have j3:Ent (([RowK (.slice VN (SS.isort keyK (S++B)).length Vm) (SS.isort keyK (S++B))]++Rs)++L) (fun w=>Rd w VN (cellsK (SS.isort keyK (S++B)))):=fun _ _ H=>by
          obtain⟨A9,c9,o,G,_,_⟩:=H.row_rd 0 rfl;injection o with o
          rw [o]; exact G
         have c8:Ent (([RowK (.slice VN (SS.isort keyK (S++B)).length Vm) (SS.isort keyK (S++B))]++Rs)++L) (fun w=>Rd w VB (cellsK S)):=W.out.2.2.2.cons _;have n4:=hid j3;have j4:=hid c8;clear j3 c8 H8;go_wp2_with fail
         go_roundw
         case rel=>exact⟨q+1,_,Vm,VN,F2,_,_,by go_num,rfl,by omega,n3,hid ⟨rfl,f5.out,n4.out,j4.out⟩,H9⟩
         case measure=>first | (simp [intOf]; omega) | simp [intOf]
      ·have k5:¬ (q:Int)<(l1:Int):=by omega
       obtain rfl:q=l1:=by omega
       obtain⟨k2,j5⟩:∃k2,2 * kk=k2:=⟨_,rfl⟩;have y5:(2:Int) * (kk:Int)=(k2:Int):=by omega
       obtain⟨t,ht⟩:∃t,k2=t+2:=⟨k2 - 2,by omega⟩;have y6:(k2:Int) - 2=(t:Int):=by omega
       have q8:t<=nn:=by
        have:=i3.out;rw [show lm - 1=q by have:=e4.out; omega,a1,b8.out] at this;omega
       have q9:t<=cc:=by omega
       have k6:(t:Int)<=(cc:Int):=by omega
       have k7:(0:Int)<=(t:Int):=by omega
       have j6:T=((PL.lst it q).take t).flatMap Prod.snd:=by
        rw [i2.out,show lm - 1=q by have:=e4.out; omega,show 2 * kk - 2=t by omega]
       have n5:=hid j6;have R:=hid a1;clear j5 ht j6 a1 i2 i3 e4;go_wp2_with fail
       go_loopw [121] (fun iv wr=>∃(r:Nat),iv=.int .i64 r/\r<=t/\Sp w0 (Row 3 1 (.slice (some ad) i i) i (cntR i (((PL.lst it q).take r).flatMap Prod.snd))::Pool F::(Rs++L)) wr) (fun iv _=>t - (intOf iv).toNat)
       case atStart=>exact⟨0,rfl,Nat.zero_le _,H.swap⟩
       case round =>
        clear H;obtain⟨r,rfl,r0,H⟩:=hrel;by_cases hr:r<t
        ·have k8:(r:Int)<(t:Int):=by omega
         obtain⟨px,f6⟩:∃px,xs.getD r pk0=px:=⟨_,rfl⟩;obtain⟨tx,c1⟩:∃tx,(PL.lst it q).getD r PL.pk0=tx:=⟨_,rfl⟩;have j7:r<xs.length:=by rw [W.out.1]; omega
         have j8:Enc F tx.1 tx.2 px:=by
          rw [<- c1,<- f6];exact W.out.2.1.get PL.pk0 pk0 r (by rw [R.out]; omega)
         obtain⟨al,a4,C⟩:=rdK (W.out.2.2.1 _ _ H.tail2) j7;subst a4;rw [f6] at C;obtain⟨acc,b6⟩:∃acc,((PL.lst it q).take r).flatMap Prod.snd=acc:=⟨_,rfl⟩;have m:((PL.lst it q).take (r+1)).flatMap Prod.snd=acc++tx.2:=by
          have j9:r<(PL.lst it q).length:=by rw [R.out]; omega
          have o:(PL.lst it q)[r]=tx:=by rw [<- c1,List.getD_eq_getElem?_getD,List.getElem?_eq_getElem j9]; rfl
          rw [List.take_succ_eq_append_getElem j9,List.flatMap_append,b6,o]; simp
         rw [b6] at H;have b7:∀l:List PL.Pk,(l.flatMap Prod.snd).length=PL.wt (fun p=>p.2.length) l:=by
          intro l;induction l with
          | nil=>rfl
          | cons p l ih=>rw [List.flatMap_cons,List.length_append,ih]; rfl
         have d0:acc.length+tx.2.length<=1000000000:=by
          rw [<- List.length_append,<- m,b7];have h1:=PL.wt_take (fun p=>p.2.length) (PL.lst it q) (r+1);have h2:=PL.wt_lst (fun p=>p.2.length) (fun _ _=>List.length_append) it q;have h3:PL.wt (fun p=>p.2.length) it<=it.length:=by
           have:∀l:List PL.Pk,(∀p ∈ l,p.2.length=1)->PL.wt (fun p=>p.2.length) l<=l.length:=by
            intro l;induction l with
            | nil=>intro _; exact Nat.le_refl _
            | cons p l ih =>
             intro Q;have h1:=Q p (List.mem_cons_self ..);have h2:=ih fun q hq=>Q q (List.mem_cons_of_mem _ hq);show p.2.length+PL.wt _ l<=l.length+1;omega
           exact this it fun p Q=>(d9.out p Q).2.1
          rw [b8.out] at h3;have h4:(q+1) * PL.wt (fun p=>p.2.length) it<=2000 * 2000:=Nat.mul_le_mul (by omega) (by omega);omega
         have a8:∀z ∈ tx.2,z<i:=by
          have:=PL.lst_mem (fun p=>∀z ∈ p.2,z<i) (fun a b ha hb z hz=>by
           rcases List.mem_append.1 hz with hz | hz
           ·exact ha z hz
           ·exact hb z hz) it (fun p Q=>(d9.out p Q).2.2) q tx (by
            rw [<- c1,List.getD_eq_getElem?_getD,List.getElem?_eq_getElem (by rw [R.out]; omega)]; exact List.getElem_mem _)
          exact this
         have k0:=fun w=>Vq (n:=i) (v:=.slice (some ad) i i) (w0:=w0) (by omega) j8 (Rs++L) acc w a8 d0;have k9:=hid k0;have b4:=hid m;have l0:=hid C;clear f6 c1 j7 j8 C b6 m b7 d0 a8 k0;have l2:=H.newBk [.int .i64 0,.int .i64 0,.pointer none] 183;have l3:=hid l2;clear l2;go_wp2_with (first | (refine YD rfl 183 _ rfl (al.add (r * 3)) px.cells rfl l0.out Tryz.isAgg183 Tryz.sizeOf183 ?_) | (refine Zq rfl 183 _ _ rfl wr.heap.size 183 [.int .i64 0,.int .i64 0,.pointer none] px.cells rfl rfl l3.out rfl Tryz.sizeOf183 px.one ?_))
         intro w8 H8;generalize wr.heap.size=g8 at H8 ⊢;have l4:=hid (H8.blk 0 rfl);clear l3 l0 H;go_wp2_with (refine Zz rfl 183 _ rfl g8 183 px.cells rfl l4.out Tryz.isAgg183 Tryz.sizeOf183 ?_)
         refine(k9.out _ H8.tail).mono ?_;rintro _ w9 ⟨rfl,H9⟩;clear k9 H8 l4;go_wp2_with fail
         go_roundw
         case rel=>exact⟨r+1,by go_num,by omega,by rw [b4.out]; exact H9⟩
         case measure=>first | (simp [intOf]; omega) | simp [intOf]
        ·have k8:¬ (r:Int)<(t:Int):=by omega
         obtain rfl:r=t:=by omega
         rw [<- n5.out] at H;go_wp2_with fail
         go_ret2;exact⟨_,rfl,Sp.dropMid 1 [Pool F] rfl H⟩
end Go.Proofs.YtnjpnmpemhldcaaGreatDoor

