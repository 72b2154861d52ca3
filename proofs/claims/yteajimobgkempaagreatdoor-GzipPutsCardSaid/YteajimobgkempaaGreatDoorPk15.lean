/- A pack. -/
import Derived.Test.YteajimobgkempaaGreatDoorPk13
import Derived.Test.YteajimobgkempaaGreatDoorPk14
set_option linter.all false
set_option maxRecDepth 100000
set_option maxHeartbeats 8000000
namespace Go.Proofs.YteajimobgkempaaGreatDoor
variable {w0 w:World} {L:List Pr}
open Go.RowKit
theorem rdK {w:World} {A:Option Addr} {l:List PK} (h:Rd w A (cellsK l)) {i:Nat} (hi:i<l.length):∃ad,A=some ad/\∀j v,(l.getD i pk0).cells[j]?=some v->w.cell? ((ad.add (i * 3)).add j)=some v:=by
 obtain⟨ad,e,a⟩:=h (by intro b; have:=ZN l; rw [b] at this; simp at this; omega);refine⟨ad,e,fun j v hj=>?_⟩;rw [Go.Addr.add_add];exact a _ _ (Y6 l i j hi v hj)
theorem XG (ad:Addr) (k:Nat):(ad.add k).add 0=ad.add k:=by rw [Go.Addr.add_add,Nat.add_zero]
theorem Yj (n:Nat):List.replicate n (Value.int .i64 0)=cntR n []:=by
 apply List.ext_getElem?;intro i;by_cases h:i<n
 ·rw [Zx _ _ _ h,List.getElem?_replicate,if_pos h]; rfl
 ·rw [List.getElem?_eq_none (by simp; omega),List.getElem?_eq_none (by rw [Yh]; omega)]
theorem Sp.dropMid {A:Pr} {Rs L:List Pr} (k:Nat) (K:List Pr) (hk:K.length=k) (H:Sp w0 (A::(K++(Rs++L))) w):Sp w0 (A::L) w:=by
 have h:=H.pick (1+k+Rs.length) [0] ⟨by simp,by intro i a; simp at a; omega⟩;have e:(A::(K++(Rs++L))).drop (1+k+Rs.length)=L:=by
  rw [show 1+k+Rs.length=(k+Rs.length)+1 by omega,List.drop_succ_cons,List.drop_append,hk,List.drop_eq_nil_of_le (by omega),List.nil_append,show k+Rs.length - k=Rs.length by omega,List.drop_left]
 rw [e] at h;exact h
def ptB:Value->Nat
 | .pointer (some a)=>a.block
 | _=>0
def agB:Value->Nat
 | .agg a=>ptB (a.getD 2 undef)
 | _=>0
def castN (m:List Nat):List Int:=m.map fun n:Nat=>(n:Int)
theorem WK (A:Option Addr) (n c:Nat) (cs:List Nat) (lm:Nat) (H:Sp w0 L w) (hn:n=cs.length) (hb:Ent L fun w=>Rd w A (cells64 (castN cs))) (hl:n<=1024) (h1:1<=lm) (h15:lm<=15) (hc:∀x ∈ cs,x<=4294967296) (hk:(PL.items cs).length<=2 ^ lm) :
  Calls Tryz.prog 55 #[.slice A n c,.int .i64 lm] w fun e w'=>∃v,e=.returned (.tuple #[v,.int .i64 0])/\Sp w0 (Row 3 1 v n (cellsN (PL.lens cs lm))::L) w':=by
 obtain⟨i0,hi,g1,g2,g3⟩:=info_parts infoK;obtain⟨i1,hj,l9,m0,m1⟩:=info_parts infoJ;have HN:=hid hn;have HB:=hid hb;have HC:=hid hc;have HK:=hid hk;have c6:cellsN (PL.lens cs lm)=cntR n (PL.flat cs lm):=by
  unfold cellsN PL.lens cntR;rw [List.map_map,<- hn]; rfl
 rw [c6];obtain⟨T,hT⟩:=exq (PL.flat cs lm);rw [hT];have HT:=hid hT;obtain⟨pw,a6⟩:=exq (2 ^ lm);have o0:pw<=32768:=by
  rw [<- a6];have:(2:Nat) ^ lm<=2 ^ 15:=Nat.pow_le_pow_right (by omega) h15;exact this
 have y1:(2:Int) ^ lm=(pw:Int):=by rw [<- a6]; simp
 rw [a6] at HK;have m2:=hid a6;clear hn hb hc hk c6 hT a6;go_enter Tryz.func55,Tryz.ntmps55
 go_wp2_with fail
 go_loopw [6,28] (fun vv iv wr=>∃(i:Nat),iv=.int .i64 i/\i<=n/\Sp w0 (RowK vv (leafs cs i)::L) wr) (fun _ iv _=>n - (intOf iv).toNat)
 case atStart=>exact⟨0,rfl,Nat.zero_le _,H.rowNil _ _⟩
 case round =>
  clear H;obtain⟨i,rfl,o4,H⟩:=hrel;obtain⟨D,hD⟩:=exq (leafs cs i);have m3:D.length<=i:=by rw [<- hD,XE]; exact PL.itemsTo_len cs i
  rw [hD] at H;obtain⟨VA,Vc,a0,_,_⟩:=RowK.form H 0 rfl;subst a0;by_cases m4:i<n
  ·have U:(i:Int)<(n:Int):=by omega
   have d5:i<cs.length:=by rw [<- HN.out]; exact m4
   obtain⟨al,a7,a8⟩:=(HB.out _ _ H.tail).at64 (k:=i) (by simpa [castN] using d5);obtain⟨x,hx⟩:=exq (cs.getD i 0);have d6:cs[i]=x:=by rw [<- hx,List.getD_eq_getElem?_getD,List.getElem?_eq_getElem d5]; rfl
   have o5:x<=4294967296:=by rw [<- d6]; exact HC.out _ (List.getElem_mem d5)
   replace a8:wr.cell? (al.add i)=some (.int .i64 x):=by
    rw [a8];simp [castN,d6]
   have m:=WJ cs i;rw [hx,hD] at m;have g4:=hid m;have k2:¬ (x:Int)<0:=by omega
   have k3:¬ 4294967296<(x:Int):=by omega
   subst a7;clear hx d6 m hD;by_cases g5:0<x
   ·have k4:(0:Int)<(x:Int):=by omega
    have J:=Rd.of_blk (Blk.new wr 143 [.int .i64 x,.int .i64 i,.pointer none]);have g6:=hid J;have h9:=(H.newBk [.int .i64 x,.int .i64 i,.pointer none] 143).swap;have g7:=hid h9;clear J h9 H;go_wp2_with (at_builtin; refine wpList_append_sp rfl _ _ 140 rfl 143 i0 (.agg #[.int .i64 0,.int .i64 0,.pointer none]) 3 24 Tryz.underlying140 hi g1 g2 g3 rfl (by decide) (.slice VA D.length Vc) D.length (cellsK D) rfl g7.out (some ⟨wr.heap.size,0,none⟩) 1 1 [.int .i64 x,.int .i64 i,.pointer none] rfl rfl g6.out (PK.one ⟨x,i,none⟩) (by simp only [maxLen]; omega) (by omega) ?_)
    intro v6 w6 H6 _;clear g6 g7;go_wp2_with fail
    go_roundw
    case rel =>
     refine⟨i+1,by go_num,by omega,?_⟩;rw [g4.out,if_pos g5];unfold RowK;rw [List.length_append,ZE];exact H6.pick 2 [0]
    case measure=>first | (simp [intOf]; omega) | simp [intOf]
   ·have k4:¬ (0:Int)<(x:Int):=by omega
    go_wp2_with fail
    go_roundw
    case rel=>exact⟨i+1,by go_num,by omega,by rw [g4.out,if_neg g5]; exact H⟩
    case measure=>first | (simp [intOf]; omega) | simp [intOf]
  ·have U:¬ (i:Int)<(n:Int):=by omega
   obtain rfl:i=n:=by omega
   have hit:leafs cs i=leafs cs cs.length:=by rw [<- HN.out]
   have m5:D.length=(PL.items cs).length:=by rw [<- hD,hit,XE]; rfl
   have G:EncL [] (PL.items cs) D:=by rw [<- hD,hit]; exact Vq [] cs cs.length
   obtain⟨kk,Y⟩:=exq D.length;have m6:kk<=pw:=by have:=HK.out; omega
   have c7:(PL.items cs).length=kk:=by omega
   rw [Y] at m3;unfold RowK at H;rw [Y] at H;have a9:=hid Y;have M:=hid c7;have b0:=hid G;have h0:D=(PL.items cs).map fun p=>⟨(p.1:Int),((p.2.getD 0 0:Nat):Int),none⟩:=by rw [<- hD,hit]; rfl
   have d7:=hid h0;have k2:¬ (pw:Int)<(kk:Int):=by omega
   rw [Y];clear hit m5 G Y c7 hD h0;go_wp2_with (at_make; refine Zk rfl _ _ _ rfl 3 i1 (.int .i64 0) Tryz.underlying97 hj l9 m0 rfl i rfl rfl (by rw [m1]; omega) (by unfold maxLen; omega) H ?_)
   intro ad w5 H5;rw [Yj] at H5;by_cases a1:kk=1
   ·have k3:((kk:Int) == 1)=true:=by rw [beq_iff_eq]; omega
    have k4:(kk:Int)<2:=by omega
    obtain⟨p,V⟩:=List.length_eq_one_iff.1 (by rw [M.out,a1]:(PL.items cs).length=1);have d8:=PL.itemsTo_mem cs cs.length p (by rw [show PL.itemsTo cs cs.length=PL.items cs from rfl,V]; exact List.mem_singleton.2 rfl);obtain⟨pc,I⟩:=p;obtain⟨sy,b1⟩:=List.length_eq_one_iff.1 d8.2.1;simp only at b1;subst b1;have h6:sy<i:=by rw [HN.out]; exact d8.2.2.2 sy (List.mem_singleton.2 rfl)
    have m7:D=[⟨(pc:Int),(sy:Int),none⟩]:=by rw [d7.out,V]; rfl
    have m8:T=[sy]:=by
     rw [<- HT.out,PL.flat,if_pos (by rw [M.out]; omega),V]; rfl
    subst m7 m8;subst a1;obtain⟨A9,c9,o,J,_,_⟩:=H5.row_rd 1 rfl;injection o with o e10 e11
    clear e10 e11;obtain⟨ai,rfl,h7⟩:=J (by simp [cellsK,PK.cells]);subst o;have d1:w5.cell? ⟨ai.block,ai.off+1,none⟩=some (.int .i64 sy):=h7 1 _ rfl;obtain⟨o6,c2,ev,_,hc,hz,c8⟩:=H5.rowSet h6;injection ev with ev ev2 ev3
    injection ev with ev
    subst ev;clear ev2 ev3;rw [Zx _ _ _ h6] at hc;replace hc:w5.cell? (ad.add sy)=some (.int .i64 0):=hc;have d9:=c8 (.int .i64 1);rw [ZK i sy [] 1 (by simp),List.nil_append] at d9;have m9:=hid d9;have k5:(sy:Int)<(i:Int):=by omega
    clear c8 d9 h7 V d8 d7 b0 a9;go_wp2_with fail
    go_ret2;exact⟨_,rfl,m9.out.pick 2 [0]⟩
   ·have k3:((kk:Int) == 1)=false:=by rw [beq_eq_false_iff_ne]; omega
    by_cases n0:kk<2
    ·have k4:(kk:Int)<2:=by omega
     have h8:PL.items cs=[]:=List.eq_nil_of_length_eq_zero (by rw [M.out]; omega);have n1:T=[]:=by rw [<- HT.out,PL.flat,if_pos (by rw [M.out]; omega),h8]; rfl
     subst n1;clear h8;go_wp2_with fail
     go_ret2;exact⟨_,rfl,H5.pick 2 [0]⟩
    ·have k4:¬ (kk:Int)<2:=by omega
     have i2:Sp w0 (RowK (.slice VA kk Vc) D::Row 3 1 (.slice (some ad) i i) i (cntR i [])::L) w5:=by
      unfold RowK; rw [a9.out]; exact H5.swap
     have a2:=Wg VA none kk Vc 0 0 D [] i2 a9.out rfl (fun _ _ H=>by
      obtain⟨A9,c9,o,J,_,_⟩:=H.row_rd 0 rfl;injection o with o
      rw [o]; exact J) (fun _ _ _=>Rd.nil) (by omega) (by omega)
     rw [List.append_nil] at a2;have a3:=hid a2;have G:=b0.out.isort;have e0:(SS.isort keyK D).length=kk:=by rw [SS.len_isort,a9.out]
     obtain⟨S,y⟩:=exq (SS.isort keyK D);obtain⟨C,hit⟩:=exq (PL.sorted cs);rw [y] at a3 e0 G;replace G:EncL [] C S:=by rw [<- hit]; exact G
     have b2:C.length=kk:=by rw [<- hit,PL.sorted,SS.len_isort,M.out]
     have i3:T=((PL.lst C (lm - 1)).take (2 * kk - 2)).flatMap Prod.snd:=by
      rw [<- HT.out,PL.flat,if_neg (by rw [M.out]; exact n0),M.out,hit]
     have i4:=PL.lst_enough C lm h1 (by rw [b2,m2.out]; exact m6);have d0:∀p ∈ C,p.1<=4294967296/\p.2.length=1/\∀s ∈ p.2,s<i:=by
      intro p V;rw [<- hit] at V;have h9:=PL.itemsTo_mem cs cs.length p (SS.mem_isort.1 V);exact⟨HC.out _ h9.1,h9.2.1,fun s hs=>by rw [HN.out]; exact h9.2.2.2 s hs⟩
     have i5:=hid G;have e1:=hid e0;have c1:=hid b2;have i6:=hid i3;have i7:=hid i4;have e2:=hid d0;clear a2 G e0 y hit b2 i3 i4 d0 d7 b0 a9;go_wp2_with fail
     refine a3.out.mono ?_;rintro _ w6 ⟨v,rfl,H6⟩;clear a3 H5 i2;obtain⟨VB,Vd,a0,e3,_⟩:=RowK.form H6 0 rfl;subst a0;have H7:Sp w0 (Row 3 1 (.slice (some ad) i i) i (cntR i [])::([RowK (.slice VB S.length Vd) S]++L)) w6:=H6.pick 3 [2,0];replace H7:=Pool.nil H7;have e4:Ent ([RowK (.slice VB S.length Vd) S]++L) (fun w=>Rd w VB (cellsK S)):=fun _ _ H=>by
      obtain⟨A9,c9,o,J,_,_⟩:=H.row_rd 0 rfl;injection o with o
      rw [o]; exact J
     rw [e1.out] at H7 e4 e3 ⊢;have e5:=hid e4;obtain⟨l1,e7⟩:∃l1,lm=l1+1:=⟨lm - 1,by omega⟩;have y2:(lm:Int) - 1=(l1:Int):=by omega
     have e8:=hid e7;have n2:=e7;clear e7 e4 H6 n2 H;go_wp2_with fail
     go_loopw [10,74] (fun lv iv wr=>∃(q nn cc:Nat) (AA:Option Addr) (F:PoolT) (xs:List PK) (Rs:List Pr),iv=.int .i64 q/\lv=.slice AA nn cc/\q<=l1/\nn<=cc/\Hid (xs.length=nn/\EncL F (PL.lst C q) xs/\Ent (Rs++L) (fun w=>Rd w AA (cellsK xs))/\Ent (Rs++L) (fun w=>Rd w VB (cellsK S)))/\Sp w0 (Pool F::Row 3 1 (.slice (some ad) i i) i (cntR i [])::(Rs++L)) wr) (fun _ iv _=>l1 - (intOf iv).toNat)
     case atStart=>exact⟨0,kk,Vd,VB,[],S,_,rfl,rfl,Nat.zero_le _,e3,hid ⟨e1.out,i5.out,e5.out,e5.out⟩,H7⟩
     case round =>
      clear H7 e5 e3;obtain⟨q,nn,cc,AA,F,xs,Rs,rfl,rfl,hq,o7,Z,H⟩:=hrel;have a4:(PL.lst C q).length=nn:=by rw [<- Z.out.1]; exact Z.out.2.1.len
      have o8:nn<=2048:=by
       rw [<- a4];have:=PL.lst_le C q;have:=c1.out; omega
      by_cases o9:q<l1
      ·have k5:(q:Int)<(l1:Int):=by omega
       have W:=hid a4;clear a4;go_wp2_with fail
       go_loopw [11,12] (fun pv kv wr=>∃(k j:Nat) (F2:PoolT) (I:List PK),kv=.int .i64 k/\Hid (k=2 * j/\EncL F2 (PL.pairsTo (PL.lst C q) j) I/\∀e ∈ F,e ∈ F2)/\k<=nn/\Sp w0 (RowK pv I::Pool F2::Row 3 1 (.slice (some ad) i i) i (cntR i [])::(Rs++L)) wr) (fun _ kv _=>nn - (intOf kv).toNat)
       case atStart=>exact⟨0,0,F,[],rfl,hid ⟨rfl,trivial,fun _ h=>h⟩,Nat.zero_le _,H.rowNil _ _⟩
       case round =>
        clear H;obtain⟨k,j,F2,I,rfl,HJ,q0,H⟩:=hrel;have a5:I.length=j:=by
         rw [<- HJ.out.2.1.len];simp [PL.pairsTo]
        obtain⟨PA,pc,a0,_,_⟩:=RowK.form H 0 rfl;subst a0;rw [a5] at H ⊢;by_cases q1:k+1<nn
        ·have k6:(k:Int)+1<(nn:Int):=by omega
         obtain⟨U,a1⟩:=exq (k+1);have y3:(k:Int)+1=(U:Int):=by omega
         have k7:(k:Int)<(nn:Int):=by omega
         have k8:(U:Int)<(nn:Int):=by omega
         obtain⟨pa,f0⟩:=exq (xs.getD k pk0);obtain⟨pb,f1⟩:=exq (xs.getD U pk0);obtain⟨ta,c3⟩:=exq ((PL.lst C q).getD k PL.pk0);obtain⟨tb,c4⟩:=exq ((PL.lst C q).getD U PL.pk0);have f2:Enc F2 ta.1 ta.2 pa:=by
          rw [<- c3,<- f0];exact(Z.out.2.1.get PL.pk0 pk0 k (by rw [W.out]; omega)).mono HJ.out.2.2
         have f3:Enc F2 tb.1 tb.2 pb:=by
          rw [<- c4,<- f1];exact(Z.out.2.1.get PL.pk0 pk0 U (by rw [W.out]; omega)).mono HJ.out.2.2
         have f4:∀t ∈ PL.lst C q,t.1<=17179869184000000:=by
          intro t ht;have h1:=PL.wt_mem Prod.fst ht;have h2:=PL.wt_lst Prod.fst (fun _ _=>rfl) C q;have h3:PL.wt Prod.fst C<=C.length * 4294967296:=by
           have:∀l:List PL.Pk,(∀p ∈ l,p.1<=4294967296)->PL.wt Prod.fst l<=l.length * 4294967296:=by
            intro l;induction l with
            | nil=>intro _; exact Nat.le_refl _
            | cons p l ih =>
             intro V;have h1:=V p (List.mem_cons_self ..);have h2:=ih fun q hq=>V q (List.mem_cons_of_mem _ hq);show p.1+PL.wt Prod.fst l<=(l.length+1) * 4294967296;rw [Nat.succ_mul]; omega
           exact this C fun p V=>(e2.out p V).1
          rw [c1.out] at h3;have h4:kk * 4294967296<=8589934592000:=by omega
          have h5:(q+1) * PL.wt Prod.fst C<=2000 * 8589934592000:=Nat.mul_le_mul (by omega) (by omega);omega
         have n3:ta.1<=17179869184000000:=by
          rw [<- c3];refine f4 _ ?_;rw [List.getD_eq_getElem?_getD,List.getElem?_eq_getElem (by rw [W.out]; omega)]; exact List.getElem_mem _
         have n4:tb.1<=17179869184000000:=by
          rw [<- c4];refine f4 _ ?_;rw [List.getD_eq_getElem?_getD,List.getElem?_eq_getElem (by rw [W.out]; omega)]; exact List.getElem_mem _
         obtain⟨ca,b3⟩:=exq pa.c;obtain⟨cb,b4⟩:=exq pb.c;have i8:ca=(ta.1:Int):=by rw [<- b3]; exact f2.count
         have i9:cb=(tb.1:Int):=by rw [<- b4]; exact f3.count
         obtain⟨u,b5⟩:=exq (ta.1+tb.1);have y4:ca+cb=(u:Int):=by omega
         have q2:0<=ca:=by omega
         have q3:ca<=20000000000000000:=by omega
         have q4:0<=cb:=by omega
         have q5:cb<=20000000000000000:=by omega
         have m:PL.pairsTo (PL.lst C q) (j+1)=PL.pairsTo (PL.lst C q) j++[(u,ta.2++tb.2)]:=by
          rw [PL.pairsTo_succ,<- HJ.out.1,a1,c3,c4,<- b5]; rfl
         have b6:∀g,(g,pa,pb) ∈ (g,pa,pb)::F2->Enc ((g,pa,pb)::F2) u (ta.2++tb.2) ⟨(u:Int),0,some g⟩:=fun g hg=>by
          rw [<- b5];exact .node hg (f2.mono fun _ h=>List.mem_cons_of_mem _ h) (f3.mono fun _ h=>List.mem_cons_of_mem _ h)
         have q6:j<nn:=by have:=HJ.out.1; omega
         have b7:=hid m;have f5:=hid b6;have N:Hid (xs.getD k pk0=pa/\k<xs.length/\pa.c=ca):=hid ⟨f0,by rw [Z.out.1]; omega,b3⟩;have O:Hid (xs.getD U pk0=pb/\U<xs.length/\pb.c=cb):=hid ⟨f1,by rw [Z.out.1]; omega,b4⟩;have q7:=hid a1;have f6:=hid a5;obtain⟨al,a7⟩:∃al,AA=some al:=by
          obtain⟨al,e,_⟩:=rdK (Z.out.2.2.1 _ _ H.tail2.tail) (i:=k) (by rw [Z.out.1]; omega);exact⟨al,e⟩
         subst a7;clear f0 f1 c3 c4 f2 f3 f4 n3 n4 b3 b4 i8 i9 b5 m b6 a1 a5;go_wp2_with fail
         refine Zb (L:=Pool F2::Row 3 1 (.slice (some ad) i i) i (cntR i [])::(Rs++L)) [some (.slice PA j pc),some (.slice (some al) nn cc),some (.int .i64 k),some (.pointer (some (al.add (k * 3)))),some (.pointer (some (al.add (k * 3)))),some (.int .i64 ca),some (.slice (some al) nn cc),some (.int .i64 k),some (.int .i64 U),some (.pointer (some (al.add (U * 3)))),some (.pointer (some (al.add (U * 3)))),some (.int .i64 cb),some (.int .i64 u),some (.slice (some al) nn cc),some (.int .i64 k),some (.pointer (some (al.add (k * 3)))),some (.agg #[.int .i64 ca,.int .i64 pa.s,pa.ptr]),some (.slice (some al) nn cc),some (.int .i64 k),some (.int .i64 U),some (.pointer (some (al.add (U * 3)))),some (.agg #[.int .i64 cb,.int .i64 pb.s,pb.ptr]),some (.agg #[.int .i64 ca,.int .i64 pa.s,pa.ptr,.int .i64 cb,.int .i64 pb.s,pb.ptr]),none,none,none,none,none] (fun ix vx=>match ix with | 23=>(fun v=>∃g,v=.pointer (some ⟨g,0,none⟩)) vx | 24=>(fun v=>∃g,v=.agg #[.int .i64 u,.int .i64 0,.pointer (some ⟨g,0,none⟩)]) vx | 25=>(fun v=>∃g,v=.slice (some ⟨g,0,none⟩) 1 1) vx | 26=>(fun _=>True) vx | 27=>(fun _=>True) vx | _=>True) (fun ix vx=>match ix with | 23=>(fun v=>[Bk (ptB v) 145 [.int .i64 ca,.int .i64 pa.s,pa.ptr,.int .i64 cb,.int .i64 pb.s,pb.ptr]]) vx | 24=>(fun v=>[Bk (agB v) 145 [.int .i64 ca,.int .i64 pa.s,pa.ptr,.int .i64 cb,.int .i64 pb.s,pb.ptr]]) vx | 25=>(fun v=>[Ex fun g=>Star (Bk (v.ownBlock.getD 0) 143 [.int .i64 u,.int .i64 0,.pointer (some ⟨g,0,none⟩)]) (Bk g 145 [.int .i64 ca,.int .i64 pa.s,pa.ptr,.int .i64 cb,.int .i64 pb.s,pb.ptr])]) vx | 26=>(fun v=>[Ex fun g=>Star (RowK v (I++[⟨(u:Int),0,some g⟩])) (Bk g 145 [.int .i64 ca,.int .i64 pa.s,pa.ptr,.int .i64 cb,.int .i64 pb.s,pb.ptr])]) vx | 27=>(fun v=>[Ex fun g=>Star (RowK v (I++[⟨(u:Int),0,some g⟩])) (Bk g 145 [.int .i64 ca,.int .i64 pa.s,pa.ptr,.int .i64 cb,.int .i64 pb.s,pb.ptr])]) vx | _=>[]) (fun ix=>match ix with | 26=>[RowK (.slice PA j pc) I] | _=>[]) 28 130
          [some 83,some 84,some 85,some 86,some 87,some 88,some 89,some 90,some 91,some 92,some 93,some 94,some 95,some 96,some 97,some 98,some 99,some 100,some 101,some 102,some 103,some 104,some 105,some 106,some 107,some 108,some 109,some 11]
          [[],[],[],[1,2],[3],[4],[],[],[7],[6,8],[9],[10],[5,11],[],[],[13,14],[15],[],[],[18],[17,19],[20],[16,21],[22],[12,23],[24],[0,25],[26,26,0,1,2,3,4,5,6,7,8,9,10,11,12,13,14,15,16,17,18,19,20,21,22,23,24,25,26]]
          [[],[],[],[1,2],[1,2,3],[1,2,3,4],[],[],[7],[6,7,8],[6,7,8,9],[6,7,8,9,10],[1,2,3,4,5,6,7,8,9,10,11],[],[],[13,14],[13,14,15],[],[],[18],[17,18,19],[17,18,19,20],[13,14,15,16,17,18,19,20,21],[13,14,15,16,17,18,19,20,21,22],[1,2,3,4,5,6,7,8,9,10,11,12,13,14,15,16,17,18,19,20,21,22,23],[1,2,3,4,5,6,7,8,9,10,11,12,13,14,15,16,17,18,19,20,21,22,23,24],[0,1,2,3,4,5,6,7,8,9,10,11,12,13,14,15,16,17,18,19,20,21,22,23,24,25],[0,1,2,3,4,5,6,7,8,9,10,11,12,13,14,15,16,17,18,19,20,21,22,23,24,25,26]]
          [[],[],[],[],[],[],[],[],[],[],[],[],[],[],[],[],[],[],[],[],[],[],[],[],[23],[24],[25],[26]] [[],[],[],[],[],[],[],[],[],[],[],[],[],[],[],[],[],[],[],[],[],[],[],[],[],[],[],[]] [(10,.slice (some al) nn cc),(11,.slice PA j pc),(12,.int .i64 k)]
          (by kernel_rfl) rfl (by decide) (by rfl) (by decide +kernel) rfl rfl (by simp) (H) ?hstep ?hend
         case hstep =>
          refine⟨?p0,⟨?p1,⟨?p2,⟨?p3,⟨?p4,⟨?p5,⟨?p6,⟨?p7,⟨?p8,⟨?p9,⟨?p10,⟨?p11,⟨?p12,⟨?p13,⟨?p14,⟨?p15,⟨?p16,⟨?p17,⟨?p18,⟨?p19,⟨?p20,⟨?p21,⟨?p22,⟨?p23,⟨?p24,⟨?p25,⟨?p26,⟨?p27,trivial⟩⟩⟩⟩⟩⟩⟩⟩⟩⟩⟩⟩⟩⟩⟩⟩⟩⟩⟩⟩⟩⟩⟩⟩⟩⟩⟩⟩
          case p0 | p1 | p2 | p3 | p4 | p6 | p7 | p8 | p9 | p10 | p12 | p13 | p14 | p15 | p17 | p18 | p19 | p20 | p22 =>
           intro x wx A d B R y X H K Q;replace Q:=hid Q;clear y X B;repeat (obtain⟨_,R⟩:=R)
           refine so ?_;go_step;exact Q.out _ _ rfl H
          case p5 =>
           intro x wx A d B R y X H K f;have q8:=tq y 4;have Q:=hid f;clear f R y B;have E:∀jj vv,pa.cells[jj]?=some vv->wx.cell? ((al.add (k * 3)).add jj)=some vv:=by
            obtain⟨f7,o,P⟩:=rdK (X (fun w=>Rd w (some al) (cellsK xs)) (Ent.cons _ (Ent.cons _ Z.out.2.2.1)) _ _ H) (i:=k) N.out.2.1;injection o with o
            rw [N.out.1,<- o] at P;exact P
           have b5:wx.cell? (al.add (k * 3))=some (.int .i64 ca):=by
            have h9:=E 0 _ rfl;rw [XG,N.out.2.2] at h9;exact h9
           clear E;refine so ?_;go_step;exact Q.out _ _ rfl H
          case p11 =>
           intro x wx A d B R y X H K f;have q9:=tq y 10;have Q:=hid f;clear f R y B;have E:∀jj vv,pb.cells[jj]?=some vv->wx.cell? ((al.add (U * 3)).add jj)=some vv:=by
            obtain⟨f7,o,P⟩:=rdK (X (fun w=>Rd w (some al) (cellsK xs)) (Ent.cons _ (Ent.cons _ Z.out.2.2.1)) _ _ H) (i:=U) O.out.2.1;injection o with o
            rw [O.out.1,<- o] at P;exact P
           have b5:wx.cell? (al.add (U * 3))=some (.int .i64 cb):=by
            have h9:=E 0 _ rfl;rw [XG,O.out.2.2] at h9;exact h9
           clear E;refine so ?_;go_step;exact Q.out _ _ rfl H
          case p16 =>
           intro x wx A d B R y X H K f;have n5:=tq y 15;have Q:Hid (∀(v:Value) (w' : World),(v=.agg #[.int .i64 ca,.int .i64 pa.s,pa.ptr])->Sp w0 (d) w'->K (A.put (some 99) v) w'):=hid f;clear f R y B;have E:∀jj vv,pa.cells[jj]?=some vv->wx.cell? ((al.add (k * 3)).add jj)=some vv:=by
            obtain⟨f7,o,P⟩:=rdK (X (fun w=>Rd w (some al) (cellsK xs)) (Ent.cons _ (Ent.cons _ Z.out.2.2.1)) _ _ H) (i:=k) N.out.2.1;injection o with o
            rw [N.out.1,<- o] at P;exact P
           refine so ?_;exact Zc 143 _ rfl _ pa.cells (ev n5) E Tryz.isAgg143 Tryz.sizeOf143 (Q.out _ _ (by rw [<- N.out.2.2]; rfl) H)
          case p21 =>
           intro x wx A d B R y X H K f;have j0:=tq y 20;have Q:Hid (∀(v:Value) (w' : World),(v=.agg #[.int .i64 cb,.int .i64 pb.s,pb.ptr])->Sp w0 (d) w'->K (A.put (some 104) v) w'):=hid f;clear f R y B;have E:∀jj vv,pb.cells[jj]?=some vv->wx.cell? ((al.add (U * 3)).add jj)=some vv:=by
            obtain⟨f7,o,P⟩:=rdK (X (fun w=>Rd w (some al) (cellsK xs)) (Ent.cons _ (Ent.cons _ Z.out.2.2.1)) _ _ H) (i:=U) O.out.2.1;injection o with o
            rw [O.out.1,<- o] at P;exact P
           refine so ?_;exact Zc 143 _ rfl _ pb.cells (ev j0) E Tryz.isAgg143 Tryz.sizeOf143 (Q.out _ _ (by rw [<- O.out.2.2]; rfl) H)
          case p23 =>
           intro x wx A d B R y X H K f;have o1:=tq y 22;have Q:Hid (∀(v:Value) (w' : World),(∃g,v=.pointer (some ⟨g,0,none⟩))->Sp w0 ((Bk (ptB v) 145 [.int .i64 ca,.int .i64 pa.s,pa.ptr,.int .i64 cb,.int .i64 pb.s,pb.ptr])::d) w'->K (A.put (some 106) v) w'):=hid f;clear f R y X B;refine so ?_;go_step;exact Q.out _ _ ⟨_,rfl⟩ (H.newBk _ _)
          case p24 =>
           intro x wx A d B R y X H K f;have r0:=tq y 12;have j1:∃g,(x 23)=.pointer (some ⟨g,0,none⟩):=(y 23 (by decide)).1;have j2:=(y 23 (by decide)).2 106 rfl;replace H:Sp w0 ((Bk (ptB (x 23)) 145 [.int .i64 ca,.int .i64 pa.s,pa.ptr,.int .i64 cb,.int .i64 pb.s,pb.ptr])::d) wx:=H;have Q:Hid (∀(v:Value) (w' : World),(∃g,v=.agg #[.int .i64 u,.int .i64 0,.pointer (some ⟨g,0,none⟩)])->Sp w0 ((Bk (agB v) 145 [.int .i64 ca,.int .i64 pa.s,pa.ptr,.int .i64 cb,.int .i64 pb.s,pb.ptr])::d) w'->K (A.put (some 107) v) w'):=hid f;clear f R y X B;obtain⟨g9,o⟩:=j1;rw [o] at H j2;refine so ?_;go_step;exact Q.out _ _ ⟨_,rfl⟩ H
          case p25 =>
           intro x wx A d B R y X H K f;have j3:∃g,(x 24)=.agg #[.int .i64 u,.int .i64 0,.pointer (some ⟨g,0,none⟩)]:=(y 24 (by decide)).1;have j4:=(y 24 (by decide)).2 107 rfl;replace H:Sp w0 ((Bk (agB (x 24)) 145 [.int .i64 ca,.int .i64 pa.s,pa.ptr,.int .i64 cb,.int .i64 pb.s,pb.ptr])::d) wx:=H;have Q:Hid (∀(v:Value) (w' : World),(∃g,v=.slice (some ⟨g,0,none⟩) 1 1)->Sp w0 ((Ex fun g=>Star (Bk (v.ownBlock.getD 0) 143 [.int .i64 u,.int .i64 0,.pointer (some ⟨g,0,none⟩)]) (Bk g 145 [.int .i64 ca,.int .i64 pa.s,pa.ptr,.int .i64 cb,.int .i64 pb.s,pb.ptr]))::d) w'->K (A.put (some 108) v) w'):=hid f;clear f R y X B;obtain⟨g9,o⟩:=j3;rw [o] at H j4;refine so ?_;go_step;exact Q.out _ _ ⟨_,rfl⟩ (Sp.ex g9 (H.newBk _ _).star)
          case p26 =>
           intro x wx A d B R y X H K f;have n6:=tq y 0;have j5:∃g,(x 25)=.slice (some ⟨g,0,none⟩) 1 1:=(y 25 (by decide)).1;have d2:=(y 25 (by decide)).2 108 rfl;replace H:Sp w0 (_::(Ex fun g=>Star (Bk ((x 25).ownBlock.getD 0) 143 [.int .i64 u,.int .i64 0,.pointer (some ⟨g,0,none⟩)]) (Bk g 145 [.int .i64 ca,.int .i64 pa.s,pa.ptr,.int .i64 cb,.int .i64 pb.s,pb.ptr]))::d) wx:=H;have Q:Hid (∀(v:Value) (w' : World),(True)->Sp w0 ((Ex fun g=>Star (RowK v (I++[⟨(u:Int),0,some g⟩])) (Bk g 145 [.int .i64 ca,.int .i64 pa.s,pa.ptr,.int .i64 cb,.int .i64 pb.s,pb.ptr]))::d) w'->K (A.put (some 109) v) w'):=hid f;clear f R y X B;obtain⟨g9,o⟩:=j5;rw [o] at H d2;obtain⟨g8,H⟩:=H.swap.unex;replace H:=H.unstar.pick 3 [2,0,1];refine so ?_;refine Zg _ _ 140 rfl 143 i0 (.agg #[.int .i64 0,.int .i64 0,.pointer none]) 3 24 Tryz.underlying140 hi g1 g2 g3 rfl (by decide) (.slice PA j pc) I.length (cellsK I) (ev n6) H (some ⟨g9,0,none⟩) 1 1 [.int .i64 u,.int .i64 0,.pointer (some ⟨g8,0,none⟩)] (ev d2) rfl (Rd.of_blk (H.blk 1 rfl)) (PK.one ⟨(u:Int),0,some g8⟩) (by simp only [maxLen]; have:=f6.out; omega) (by have:=f6.out; omega) ?_;intro v1 w2 H2 _;refine Q.out _ _ trivial (Sp.ex g8 (Sp.star ?_));unfold RowK;rw [List.length_append,ZE];exact H2.pick 3 [0,2]
          case p27 =>
           intro x wx A d B R y X H K f;have o2:True:=(y 26 (by decide)).1;have o3:=(y 26 (by decide)).2 109 rfl;replace H:Sp w0 ((Ex fun g=>Star (RowK (x 26) (I++[⟨(u:Int),0,some g⟩])) (Bk g 145 [.int .i64 ca,.int .i64 pa.s,pa.ptr,.int .i64 cb,.int .i64 pb.s,pb.ptr]))::d) wx:=H;have Q:Hid (∀(v:Value) (w' : World),(True)->Sp w0 ((Ex fun g=>Star (RowK v (I++[⟨(u:Int),0,some g⟩])) (Bk g 145 [.int .i64 ca,.int .i64 pa.s,pa.ptr,.int .i64 cb,.int .i64 pb.s,pb.ptr]))::d) w'->K (A.put (some 11) v) w'):=hid f;clear f R y X B;refine so ?_;go_step;exact Q.out _ _ trivial H
         case hend =>
          intro x wx A hA y H;replace H:Sp w0 ((Ex fun g=>Star (RowK (x 27) (I++[⟨(u:Int),0,some g⟩])) (Bk g 145 [.int .i64 ca,.int .i64 pa.s,pa.ptr,.int .i64 cb,.int .i64 pb.s,pb.ptr]))::_::_::(Rs++L)) wx:=H;clear y;simp only [putAll,Act.put,List.setIfInBounds_toArray,List.set_cons_succ,List.set_cons_zero,Nat.reduceAdd] at hA;subst hA;obtain⟨g,H⟩:=H.unex;replace H:=H.unstar;have e6:[.int .i64 ca,.int .i64 pa.s,pa.ptr,.int .i64 cb,.int .i64 pb.s,pb.ptr]=pa.cells++pb.cells:=by
           rw [<- N.out.2.2,<- O.out.2.2]; rfl
          rw [e6] at H;have H2:Sp w0 (Pool ((g,pa,pb)::F2)::RowK (x 27) (I++[(⟨(u:Int),0,some g⟩:PK)])::Row 3 1 (.slice (some ad) i i) i (cntR i [])::(Rs++L)) wx:=Pool.cons (H.pick 3 [1,2,0]);go_wp2_with fail
          go_roundw
          case rel =>
           refine⟨k+2,j+1,(g,pa,pb)::F2,I++[(⟨(u:Int),0,some g⟩:PK)],by go_num,hid ⟨by have:=HJ.out.1; omega,?_,fun e he=>List.mem_cons_of_mem _ (HJ.out.2.2 e he)⟩,by omega,H2.swap⟩;rw [b7.out];exact(HJ.out.2.1.mono fun _ h=>List.mem_cons_of_mem _ h).snoc (f5.out g (List.mem_cons_self ..))
          case measure=>first | (simp [intOf]; omega) | simp [intOf]
        ·have k6:¬ (k:Int)+1<(nn:Int):=by omega
         have j6:PL.pairsTo (PL.lst C q) j=PL.pairs (PL.lst C q):=by
          unfold PL.pairs;rw [W.out,show nn / 2=j by have:=HJ.out.1; omega]
         have r1:j<=nn:=by have:=HJ.out.1; omega
         have b8:EncL F2 (PL.lst C (q+1)) (SS.isort keyK (S++I)):=by
          have h1:=HJ.out.2.1;rw [j6] at h1;exact EncL.isort (show EncL F2 (C++PL.pairs (PL.lst C q)) (S++I) from(i5.out.mono fun _ h=>by cases h).append h1)
         have a2:=Wg VB PA kk Vd j pc S I H e1.out a5 (Ent.cons _ (Ent.cons _ (Ent.cons _ Z.out.2.2.2))) (fun _ _ H=>by
          obtain⟨A9,c9,o,J,_,_⟩:=H.row_rd 0 rfl;injection o with o
          rw [o]; exact J) (by omega) (by omega)
         have a3:=hid a2;have f8:=hid b8;have f6:=hid a5;clear j6 b8 a2 a5;go_wp2_with fail
         refine a3.out.mono ?_;rintro _ w7 ⟨v,rfl,H8⟩;clear a3 H;obtain⟨VN,Vm,a0,n7,_⟩:=RowK.form H8 0 rfl;subst a0;have H9:Sp w0 (Pool F2::Row 3 1 (.slice (some ad) i i) i (cntR i [])::(([RowK (.slice VN (SS.isort keyK (S++I)).length Vm) (SS.isort keyK (S++I))]++Rs)++L)) w7:=H8.pick 4 [2,3,0];have j7:Ent (([RowK (.slice VN (SS.isort keyK (S++I)).length Vm) (SS.isort keyK (S++I))]++Rs)++L) (fun w=>Rd w VN (cellsK (SS.isort keyK (S++I)))):=fun _ _ H=>by
          obtain⟨A9,c9,o,J,_,_⟩:=H.row_rd 0 rfl;injection o with o
          rw [o]; exact J
         have d3:Ent (([RowK (.slice VN (SS.isort keyK (S++I)).length Vm) (SS.isort keyK (S++I))]++Rs)++L) (fun w=>Rd w VB (cellsK S)):=Z.out.2.2.2.cons _;have n8:=hid j7;have j8:=hid d3;clear j7 d3 H8;go_wp2_with fail
         go_roundw
         case rel=>exact⟨q+1,_,Vm,VN,F2,_,_,by go_num,rfl,by omega,n7,hid ⟨rfl,f8.out,n8.out,j8.out⟩,H9⟩
         case measure=>first | (simp [intOf]; omega) | simp [intOf]
      ·have k5:¬ (q:Int)<(l1:Int):=by omega
       obtain rfl:q=l1:=by omega
       obtain⟨k2,j9⟩:=exq (2 * kk);have y5:(2:Int) * (kk:Int)=(k2:Int):=by omega
       obtain⟨t,ht⟩:∃t,k2=t+2:=⟨k2 - 2,by omega⟩;have y6:(k2:Int) - 2=(t:Int):=by omega
       have r2:t<=nn:=by
        have:=i7.out;rw [show lm - 1=q by have:=e8.out; omega,a4,c1.out] at this;omega
       have r3:t<=cc:=by omega
       have k6:(t:Int)<=(cc:Int):=by omega
       have k7:(0:Int)<=(t:Int):=by omega
       have k0:T=((PL.lst C q).take t).flatMap Prod.snd:=by
        rw [i6.out,show lm - 1=q by have:=e8.out; omega,show 2 * kk - 2=t by omega]
       have n9:=hid k0;have W:=hid a4;clear j9 ht k0 a4 i6 i7 e8;go_wp2_with fail
       go_loopw [121] (fun iv wr=>∃(r:Nat),iv=.int .i64 r/\r<=t/\Sp w0 (Row 3 1 (.slice (some ad) i i) i (cntR i (((PL.lst C q).take r).flatMap Prod.snd))::Pool F::(Rs++L)) wr) (fun iv _=>t - (intOf iv).toNat)
       case atStart=>exact⟨0,rfl,Nat.zero_le _,H.swap⟩
       case round =>
        clear H;obtain⟨r,rfl,r4,H⟩:=hrel;by_cases hr:r<t
        ·have k8:(r:Int)<(t:Int):=by omega
         obtain⟨px,f9⟩:=exq (xs.getD r pk0);obtain⟨tx,c5⟩:=exq ((PL.lst C q).getD r PL.pk0);have k9:r<xs.length:=by rw [Z.out.1]; omega
         have l0:Enc F tx.1 tx.2 px:=by
          rw [<- c5,<- f9];exact Z.out.2.1.get PL.pk0 pk0 r (by rw [W.out]; omega)
         obtain⟨al,a7,E⟩:=rdK (Z.out.2.2.1 _ _ H.tail2) k9;subst a7;rw [f9] at E;obtain⟨g0,b9⟩:=exq (((PL.lst C q).take r).flatMap Prod.snd);have m:((PL.lst C q).take (r+1)).flatMap Prod.snd=g0++tx.2:=by
          have l2:r<(PL.lst C q).length:=by rw [W.out]; omega
          have o:(PL.lst C q)[r]=tx:=by rw [<- c5,List.getD_eq_getElem?_getD,List.getElem?_eq_getElem l2]; rfl
          rw [List.take_succ_eq_append_getElem l2,List.flatMap_append,b9,o]; simp
         rw [b9] at H;have c0:∀l:List PL.Pk,(l.flatMap Prod.snd).length=PL.wt (fun p=>p.2.length) l:=by
          intro l;induction l with
          | nil=>rfl
          | cons p l ih=>rw [List.flatMap_cons,List.length_append,ih]; rfl
         have d4:g0.length+tx.2.length<=1000000000:=by
          rw [<- List.length_append,<- m,c0];have h1:=PL.wt_take (fun p=>p.2.length) (PL.lst C q) (r+1);have h2:=PL.wt_lst (fun p=>p.2.length) (fun _ _=>List.length_append) C q;have h3:PL.wt (fun p=>p.2.length) C<=C.length:=by
           have:∀l:List PL.Pk,(∀p ∈ l,p.2.length=1)->PL.wt (fun p=>p.2.length) l<=l.length:=by
            intro l;induction l with
            | nil=>intro _; exact Nat.le_refl _
            | cons p l ih =>
             intro V;have h1:=V p (List.mem_cons_self ..);have h2:=ih fun q hq=>V q (List.mem_cons_of_mem _ hq);show p.2.length+PL.wt _ l<=l.length+1;omega
           exact this C fun p V=>(e2.out p V).2.1
          rw [c1.out] at h3;have h4:(q+1) * PL.wt (fun p=>p.2.length) C<=2000 * 2000:=Nat.mul_le_mul (by omega) (by omega);omega
         have b1:∀z ∈ tx.2,z<i:=by
          have:=PL.lst_mem (fun p=>∀z ∈ p.2,z<i) (fun a b ha hb z hz=>by
           rcases List.mem_append.1 hz with hz | hz
           ·exact ha z hz
           ·exact hb z hz) C (fun p V=>(e2.out p V).2.2) q tx (by
            rw [<- c5,List.getD_eq_getElem?_getD,List.getElem?_eq_getElem (by rw [W.out]; omega)]; exact List.getElem_mem _)
          exact this
         have l3:=fun w=>Vp (n:=i) (v:=.slice (some ad) i i) (w0:=w0) (by omega) l0 (Rs++L) g0 w b1 d4;have l4:=hid l3;have b7:=hid m;have l5:=hid E;clear f9 c5 k9 l0 E b9 m c0 d4 b1 l3;have l6:=H.newBk [.int .i64 0,.int .i64 0,.pointer none] 143;have l7:=hid l6;clear l6;go_wp2_with (first | (refine YK rfl 143 _ rfl (al.add (r * 3)) px.cells rfl l5.out Tryz.isAgg143 Tryz.sizeOf143 ?_) | (refine Zn rfl 143 _ _ rfl wr.heap.size 143 [.int .i64 0,.int .i64 0,.pointer none] px.cells rfl rfl l7.out rfl Tryz.sizeOf143 px.one ?_))
         intro w8 H8;generalize wr.heap.size=g8 at H8 ⊢;have l8:=hid (H8.blk 0 rfl);clear l7 l5 H;go_wp2_with (refine ZH rfl 143 _ rfl g8 143 px.cells rfl l8.out Tryz.isAgg143 Tryz.sizeOf143 ?_)
         refine(l4.out _ H8.tail).mono ?_;rintro _ w9 ⟨rfl,H9⟩;clear l4 H8 l8;go_wp2_with fail
         go_roundw
         case rel=>exact⟨r+1,by go_num,by omega,by rw [b7.out]; exact H9⟩
         case measure=>first | (simp [intOf]; omega) | simp [intOf]
        ·have k8:¬ (r:Int)<(t:Int):=by omega
         obtain rfl:r=t:=by omega
         rw [<- n9.out] at H;go_wp2_with fail
         go_ret2;exact⟨_,rfl,Sp.dropMid 1 [Pool F] rfl H⟩
end Go.Proofs.YteajimobgkempaaGreatDoor

