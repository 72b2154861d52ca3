/- A pack. -/
import Derived.Test.YteajimobgkempaaGreatDoorPk34
set_option linter.all false
set_option maxRecDepth 100000
set_option maxHeartbeats 8000000
namespace Go.Proofs.YteajimobgkempaaGreatDoor
variable {w0 w:World} {L:List Pr}
open Go.RowKit
def blkH:Value->Nat
 | .pointer (some a)=>a.block
 | _=>0
abbrev RPoolT:=List ((Option Addr × Nat) × List Nat)
def RPool (F:RPoolT):Pr:=fun h=>∀e ∈ F,Row 3 1 (.slice e.1.1 e.2.length e.1.2) e.2.length (cellsN e.2) h
theorem Row.more {e:TypeId} {z n:Nat} {v:Value} {xs:List Value} {s:Nat->Prop} {h:Hp} (k:Row e z v n xs (rs s h)):Row e z v n xs h:=by
 refine⟨k.1,k.2.imp id ?_⟩;rintro⟨g,a,b,c,d,r⟩;exact⟨g,a,b,c,(Zz d).2,r⟩
theorem RPool.nil (H:Sp w0 L w):Sp w0 (RPool []::L) w:=by
 have:=H.rowNil 0 0;exact this.imp fun _ _ e he=>by cases he
theorem RPool.cons {F:RPoolT} {A:Option Addr} {c:Nat} {s:List Nat} (H:Sp w0 (Row 3 1 (.slice A s.length c) s.length (cellsN s)::RPool F::L) w):Sp w0 (RPool (((A,c),s)::F)::L) w:=by
 refine H.star.imp fun p hp=>?_;obtain⟨q,b,d⟩:=hp;intro e a;rcases List.mem_cons.1 a with rfl | a
 ·exact b.more
 ·exact(d e a).more
theorem RPool.rd {F:RPoolT} (H:Sp w0 (RPool F::L) w) {A:Option Addr} {c:Nat} {s:List Nat} (h:((A,c),s) ∈ F):Rd w A (cellsN s)/\s.length<=c/\c<=maxLen:=by
 have a:Sp w0 (Row 3 1 (.slice A s.length c) s.length (cellsN s)::L) w:=H.imp fun p hp=>hp _ h;obtain⟨g,i,b,d,e,f⟩:=a.row_rd 0 rfl;injection b with e1 e2 e3
 subst e1 e3;exact⟨d,e,f⟩
def EncR (F:RPoolT) (t:PL.Pk) (x:RK):Prop:=x.c=(t.1:Int)/\((x.A,x.cp),t.2) ∈ F/\x.n=t.2.length
def EncRL (F:RPoolT) (ts:List PL.Pk) (xs:List RK):Prop:=All2 (EncR F) ts xs
theorem EncR.mono {F F' : RPoolT} {t:PL.Pk} {x:RK} (h:EncR F t x) (k:∀e ∈ F,e ∈ F'):EncR F' t x:=⟨h.1,k _ h.2.1,h.2.2⟩
theorem EncRL.mono {F F' : RPoolT} {ts:List PL.Pk} {xs:List RK} (h:EncRL F ts xs) (k:∀e ∈ F,e ∈ F'):EncRL F' ts xs:=All2.mono (fun _ _ h=>EncR.mono h k) h
theorem EncRL.put {F:RPoolT} {ts:List PL.Pk} {xs:List RK} {t:PL.Pk} {x:RK} (h:EncRL F ts xs) (k:EncR F t x):EncRL F (SS.put PL.keyP ts t) (SS.put keyR xs x):=All2.put (fun _ _ h=>by show _=RK.c _; rw [h.1]; rfl) h k
theorem Xv (cs:List Nat) (k:Nat):SS.isort PL.keyP (PL.itemsTo cs (k+1))=if 0<cs.getD k 0 then SS.put PL.keyP (SS.isort PL.keyP (PL.itemsTo cs k)) (cs.getD k 0,[k]) else SS.isort PL.keyP (PL.itemsTo cs k):=by
 rw [PL.itemsTo_succ];split
 ·rw [SS.isort_snoc]
 ·rfl
theorem Tv (cs:List Nat) (l:List PL.Pk):PL.nxt (PL.sorted cs) l=SS.mrg PL.keyP (PL.sorted cs) (PL.pairs l):=by
 unfold PL.nxt;rw [SS.isort_app];unfold PL.sorted;rw [SS.isort_isort]
theorem YY (it l:List PL.Pk) (j:Nat):SS.mrg PL.keyP it (PL.pairsTo l (j+1))=SS.put PL.keyP (SS.mrg PL.keyP it (PL.pairsTo l j)) (PL.comb (l.getD (2 * j) PL.pk0) (l.getD (2 * j+1) PL.pk0)):=by
 rw [PL.pairsTo_succ,SS.mrg_app]; rfl
theorem Sp.dropMid2 {A:Pr} {Rs L:List Pr} (H:Sp w0 (A::(Rs++L)) w):Sp w0 (A::L) w:=Sp.dropMid 0 [] rfl H
theorem Ye (A:Option Addr) (n c:Nat) (cs:List Nat) (lm:Nat) (H:Sp w0 L w) (hn:n=cs.length) (hb:Ent L fun w=>Rd w A (cells64 (castN cs))) (hl:n<=1024) (h1:1<=lm) (h15:lm<=15) (hc:∀x ∈ cs,x<=4294967296) (hk:(PL.items cs).length<=2 ^ lm) :
  Calls Tryz.prog 91 #[.slice A n c,.int .i64 lm] w fun e w'=>∃v,e=.returned (.tuple #[v,.int .i64 0])/\Sp w0 (Row 3 1 v n (cellsN (PL.lens cs lm))::L) w':=by
 obtain⟨i1,hj,g0,h0,h3⟩:=info_parts infoJ;have HN:=hid hn;have HB:=hid hb;have HC:=hid hc;have HK:=hid hk;have f3:cellsN (PL.lens cs lm)=cntR n (PL.flat cs lm):=by
  unfold cellsN PL.lens cntR;rw [List.map_map,<- hn]; rfl
 rw [f3];obtain⟨T,hT⟩:=exq (PL.flat cs lm);rw [hT];have HT:=hid hT;obtain⟨pw,d6⟩:=exq (2 ^ lm);have r4:pw<=32768:=by
  rw [<- d6];have:(2:Nat) ^ lm<=2 ^ 15:=Nat.pow_le_pow_right (by omega) h15;exact this
 have h4:=fun w=>Wl lm h15 w;rw [d6] at HK h4;have j8:=hid h4;have p2:=hid d6;clear hn hb hc hk f3 hT d6 h4;go_enter Tryz.func91,Tryz.ntmps91
 go_wp2_with fail
 go_loopw [6,7] (fun vv iv wr=>∃(i nn cc:Nat) (AA:Option Addr) (F:RPoolT) (xs:List RK) (Rs:List Pr),iv=.int .i64 i/\vv=.slice AA nn cc/\i<=n/\nn<=i/\nn<=cc/\Hid (xs.length=nn/\EncRL F (SS.isort PL.keyP (PL.itemsTo cs i)) xs/\Ent (Rs++L) (fun w=>Rd w AA (cellsR xs)))/\Sp w0 (RPool F::(Rs++L)) wr) (fun _ iv _=>n - (intOf iv).toNat)
 case atStart=>exact⟨0,0,0,none,[],[],[],rfl,rfl,Nat.zero_le _,Nat.zero_le _,Nat.zero_le _,hid ⟨rfl,trivial,fun _ _ _=>Rd.nil⟩,RPool.nil H⟩
 case round =>
  clear H;obtain⟨i,nn,cc,AA,F,xs,Rs,rfl,rfl,u2,u3,d7,HX,H⟩:=hrel;by_cases p3:i<n
  ·have k1:(i:Int)<(n:Int):=by omega
   have h5:i<cs.length:=by rw [<- HN.out]; exact p3
   obtain⟨M,j9,b3⟩:=(HB.out _ _ (Sp.dropMid2 H).tail).at64 (k:=i) (by simpa [castN] using h5);obtain⟨x,hx⟩:=exq (cs.getD i 0);have h6:cs[i]=x:=by rw [<- hx,List.getD_eq_getElem?_getD,List.getElem?_eq_getElem h5]; rfl
   have u4:x<=4294967296:=by rw [<- h6]; exact HC.out _ (List.getElem_mem h5)
   replace b3:wr.cell? (M.add i)=some (.int .i64 x):=by
    rw [b3];simp [castN,h6]
   have I:=Xv cs i;rw [hx] at I;have d8:=hid I;have k2:¬ (x:Int)<0:=by omega
   have k3:¬ 4294967296<(x:Int):=by omega
   subst j9;clear hx h6 I;by_cases k0:0<x
   ·have k4:(0:Int)<(x:Int):=by omega
    have H9:=(H.newBk [.int .i64 i] 3).bkRow 1 1 rfl (by decide);have l0:Sp w0 (RPool (((some ⟨wr.heap.size,0,none⟩,1),[i])::F)::(Rs++L)) (wr.alloc (.cells #[.int .i64 i] 3)):=RPool.cons H9;have a0:=VW AA nn cc xs ⟨(x:Int),some ⟨wr.heap.size,0,none⟩,1,1⟩ l0 HX.out.1.symm (HX.out.2.2.cons _) d7 (by omega);have E:EncRL (((some ⟨wr.heap.size,0,none⟩,1),[i])::F) (SS.isort PL.keyP (PL.itemsTo cs (i+1))) (SS.put keyR xs ⟨(x:Int),some ⟨wr.heap.size,0,none⟩,1,1⟩):=by
     rw [d8.out,if_pos k0];exact(HX.out.2.1.mono fun _ h=>List.mem_cons_of_mem _ h).put ⟨rfl,List.mem_cons_self ..,rfl⟩
    have Q:(SS.put keyR xs ⟨(x:Int),some ⟨wr.heap.size,0,none⟩,1,1⟩).length=nn+1:=by rw [SS.len_put,HX.out.1]
    obtain⟨Y,hY⟩:=exq (SS.put keyR xs ⟨(x:Int),some ⟨wr.heap.size,0,none⟩,1,1⟩);rw [hY] at a0 E Q;unfold RK.val at a0;have b4:=hid a0;have P:=hid E;have b5:=hid Q;clear H9 l0 a0 E Q hY H;go_wp2_with fail
    refine b4.out.mono ?_;rintro _ w9 ⟨v9,rfl,a7⟩;clear b4;obtain⟨V9,c9,a8,h7,_⟩:=Row.form a7 0 rfl;subst a8;have a1:Ent (([Row 192 2 (.slice V9 (nn+1) c9) (nn+1) (cellsR Y)]++Rs)++L) (fun w=>Rd w V9 (cellsR Y)):=fun _ _ H=>by
     obtain⟨A9,c9,N,h8,_,_⟩:=H.row_rd 0 rfl;injection N with N
     rw [N]; exact h8
    have i0:=hid a1;have i2:=a7.swap;clear a1 a7;go_wp2_with fail
    go_roundw
    case rel=>exact⟨i+1,nn+1,c9,V9,_,Y,[Row 192 2 (.slice V9 (nn+1) c9) (nn+1) (cellsR Y)]++Rs,by go_num,rfl,by omega,by omega,h7,hid ⟨b5.out,P.out,i0.out⟩,i2⟩
    case measure=>first | (simp [intOf]; omega) | simp [intOf]
   ·have k4:¬ (0:Int)<(x:Int):=by omega
    go_wp2_with fail
    go_roundw
    case rel=>exact⟨i+1,nn,cc,AA,F,xs,Rs,by go_num,rfl,by omega,by omega,d7,hid ⟨HX.out.1,by rw [d8.out,if_neg k0]; exact HX.out.2.1,HX.out.2.2⟩,H⟩
    case measure=>first | (simp [intOf]; omega) | simp [intOf]
  ·have k1:¬ (i:Int)<(n:Int):=by omega
   obtain rfl:i=n:=by omega
   have E:EncRL F (PL.sorted cs) xs:=by
    have h:=HX.out.2.1;rw [HN.out] at h;exact h
   have l1:(PL.items cs).length=nn:=by
    have h:=E.len;rw [HX.out.1] at h;rw [<- h];unfold PL.sorted;rw [SS.len_isort]
   have p4:nn<=pw:=by have:=HK.out; omega
   have k2:¬ (pw:Int)<(nn:Int):=by omega
   have P:=hid E;have S:=hid l1;clear E l1;go_wp2_with fail
   refine(j8.out _).mono ?_;rintro _ _ ⟨rfl,rfl⟩;clear j8;go_wp2_with (at_make; refine Zk rfl _ _ _ rfl 3 i1 (.int .i64 0) Tryz.underlying97 hj g0 h0 rfl i rfl rfl (by rw [h3]; omega) (by unfold maxLen; omega) H ?_)
   intro ad w5 H5;rw [Yj] at H5;replace H5:=H5.swap;clear H;by_cases d9:nn=1
   ·have k3:((nn:Int) == 1)=true:=by rw [beq_iff_eq]; omega
    have k4:(nn:Int)<2:=by omega
    have l2:(PL.sorted cs).length=1:=by unfold PL.sorted; rw [SS.len_isort,S.out,d9]
    obtain⟨p,W⟩:=List.length_eq_one_iff.1 l2;have i3:PL.items cs=[p]:=by
     obtain⟨q,hq⟩:=List.length_eq_one_iff.1 (by rw [S.out,d9]:(PL.items cs).length=1);have:PL.sorted cs=[q]:=by unfold PL.sorted; rw [hq]; rfl
     rw [W] at this;injection this with this
     rw [hq,this]
    have i4:=PL.itemsTo_mem cs cs.length p (by rw [show PL.itemsTo cs cs.length=PL.items cs from rfl,i3]; exact List.mem_singleton.2 rfl);obtain⟨pc,ps⟩:=p;obtain⟨sy,b6⟩:=List.length_eq_one_iff.1 i4.2.1;simp only at b6;subst b6;have l3:sy<i:=by rw [HN.out]; exact i4.2.2.2 sy (List.mem_singleton.2 rfl)
    obtain⟨px,b7⟩:=List.length_eq_one_iff.1 (by rw [HX.out.1,d9]:xs.length=1);subst b7;have b8:=P.out;rw [W] at b8;obtain⟨⟨b9,a3,a4⟩,_⟩:=b8;have p5:T=[sy]:=by
     rw [<- HT.out,PL.flat,if_pos (by rw [S.out]; omega),i3]; rfl
    subst p5;obtain⟨xc,xA,xn,xp⟩:=px;simp only at b9 a3 a4;obtain⟨l4,_,_⟩:=RPool.rd H5 a3;obtain⟨U,c0,l5⟩:=l4 (by simp [cellsN]);subst c0;have s0:w5.cell? U=some (.int .i64 sy):=l5 0 _ rfl;obtain⟨ai,p6,d0,X⟩:=rdR (HX.out.2.2 _ _ H5.tail2) (i:=0) (by simp);subst p6;replace X:w5.cell? ⟨ai.block,ai.off+1,none⟩=some (.slice (some U) 1 xp):=by
     have h:(⟨(ai.add (0 * 2)).block,(ai.add (0 * 2)).off+1,none⟩:Addr)=⟨ai.block,ai.off+1,none⟩:=by rw [Nat.zero_mul]; rfl
     rw [h] at X;rw [X,a4]; rfl
    subst d9;obtain⟨p7,c2,ev,_,b1,hz,a5⟩:=(H5.swap).rowSet l3;injection ev with ev ev2 ev3
    injection ev with ev
    subst ev;clear ev2 ev3;rw [Zx _ _ _ l3] at b1;replace b1:w5.cell? (ad.add sy)=some (.int .i64 0):=b1;have b0:=a5 (.int .i64 1);rw [ZK i sy [] 1 (by simp),List.nil_append] at b0;have i5:=hid b0;have k5:(sy:Int)<(i:Int):=by omega
    clear a5 b0 l5 l4 W i4 P S i3 l2 b9 a3 a4 HX d0;go_wp2_with fail
    go_ret2;exact⟨_,rfl,Sp.dropMid 1 [_] rfl i5.out⟩
   ·have k3:((nn:Int) == 1)=false:=by rw [beq_eq_false_iff_ne]; omega
    by_cases p8:nn<2
    ·have k4:(nn:Int)<2:=by omega
     have l6:PL.items cs=[]:=List.eq_nil_of_length_eq_zero (by rw [S.out]; omega);have p9:T=[]:=by rw [<- HT.out,PL.flat,if_pos (by rw [S.out]; omega),l6]; rfl
     subst p9;clear l6;go_wp2_with fail
     go_ret2;exact⟨_,rfl,Sp.dropMid 1 [_] rfl H5.swap⟩
    ·have k4:¬ (nn:Int)<2:=by omega
     obtain⟨G,hit⟩:=exq (PL.sorted cs);have E:=P.out;rw [hit] at E;have c6:G.length=nn:=by rw [<- hit,PL.sorted,SS.len_isort,S.out]
     have l7:T=((PL.lst G (lm - 1)).take (2 * nn - 2)).flatMap Prod.snd:=by
      rw [<- HT.out,PL.flat,if_neg (by rw [S.out]; exact p8),S.out,hit]
     have b8:=PL.lst_enough G lm h1 (by rw [c6,p2.out]; exact p4);have f4:∀p ∈ G,p.1<=4294967296/\p.2.length=1/\∀s ∈ p.2,s<i:=by
      intro p W;rw [<- hit] at W;have h9:=PL.itemsTo_mem cs cs.length p (SS.mem_isort.1 W);exact⟨HC.out _ h9.1,h9.2.1,fun s hs=>by rw [HN.out]; exact h9.2.2.2 s hs⟩
     have l8:∀l,PL.nxt G l=SS.mrg PL.keyP G (PL.pairs l):=by rw [<- hit]; exact Tv cs
     have i6:=hid E;have c7:=hid c6;have l9:=hid l7;have m0:=hid b8;have e0:=hid f4;have m1:=hid l8;obtain⟨u5,m2⟩:=exq xs;clear E c6 l7 b8 f4 hit P S m2 l8;go_wp2_with fail
     go_loopw [10,11] (fun lv qv wr=>∃(q n2 c2:Nat) (A2:Option Addr) (F2:RPoolT) (ys:List RK) (R2:List Pr),qv=.int .i64 ((q+1:Nat):Int)/\lv=.slice A2 n2 c2/\q+1<=lm/\n2<=c2/\Hid (ys.length=n2/\EncRL F2 (PL.lst G q) ys/\EncRL F2 G xs/\Ent (R2++L) (fun w=>Rd w A2 (cellsR ys))/\Ent (R2++L) (fun w=>Rd w AA (cellsR xs)))/\Sp w0 (RPool F2::Row 3 1 (.slice (some ad) i i) i (cntR i [])::(R2++L)) wr) (fun _ qv _=>lm - (intOf qv).toNat)
     case atStart=>exact⟨0,nn,cc,AA,F,xs,Rs,rfl,rfl,h1,d7,hid ⟨HX.out.1,i6.out,i6.out,HX.out.2.2,HX.out.2.2⟩,H5⟩
     case round =>
      clear H5 i6;obtain⟨q,n2,c2,A2,F2,ys,R2,rfl,rfl,hq,r5,HY,H⟩:=hrel;have e1:((q+1:Nat):Int)=(q:Int)+1:=by omega
      rw [e1];have b2:(PL.lst G q).length=n2:=by rw [<- HY.out.1]; exact HY.out.2.1.len
      have r6:n2<=2048:=by
       rw [<- b2];have:=PL.lst_le G q;have:=c7.out; omega
      by_cases u6:q+1<lm
      ·have k5:(q:Int)+1<(lm:Int):=by omega
       have a2:=hid b2;clear b2;go_wp2_with fail
       go_loopw [12,13] (fun nv kv wr=>∃(k j n3 c3:Nat) (A3:Option Addr) (F3:RPoolT) (zs:List RK) (R3:List Pr),kv=.int .i64 k/\nv=.slice A3 n3 c3/\k<=n2/\n3<=c3/\n3<=2 * n2+2048/\Hid (k=2 * j/\zs.length=n3/\n3=nn+j/\EncRL F3 (SS.mrg PL.keyP G (PL.pairsTo (PL.lst G q) j)) zs/\(∀e ∈ F2,e ∈ F3)/\Ent (R3++L) (fun w=>Rd w A3 (cellsR zs))/\Ent (R3++L) (fun w=>Rd w A2 (cellsR ys))/\Ent (R3++L) (fun w=>Rd w AA (cellsR xs)))/\Sp w0 (RPool F3::Row 3 1 (.slice (some ad) i i) i (cntR i [])::(R3++L)) wr) (fun _ kv _=>n2 - (intOf kv).toNat)
       case atStart=>exact⟨0,0,nn,cc,AA,F2,xs,R2,rfl,rfl,Nat.zero_le _,d7,by omega,hid ⟨rfl,HX.out.1,rfl,HY.out.2.2.1,fun _ h=>h,HY.out.2.2.2.2,HY.out.2.2.2.1,HY.out.2.2.2.2⟩,H⟩
       case round =>
        clear H;obtain⟨k,j,n3,c3,A3,F3,zs,R3,rfl,rfl,u7,f5,u8,R,H⟩:=hrel;by_cases u9:k+1<n2
        ·have k6:(k:Int)+1<(n2:Int):=by omega
         obtain⟨k9,i7⟩:=exq (k+1);have y3:(k:Int)+1=(k9:Int):=by omega
         have k7:(k:Int)<(n2:Int):=by omega
         have k8:(k9:Int)<(n2:Int):=by omega
         obtain⟨pa,i8⟩:=exq (ys.getD k rk0);obtain⟨pb,i9⟩:=exq (ys.getD k9 rk0);obtain⟨ta,e2⟩:=exq ((PL.lst G q).getD k PL.pk0);obtain⟨tb,e3⟩:=exq ((PL.lst G q).getD k9 PL.pk0);have q0:EncR F3 ta pa:=by
          rw [<- e2,<- i8];exact(HY.out.2.1.get PL.pk0 rk0 k (by rw [a2.out]; omega)).mono R.out.2.2.2.2.1
         have q3:EncR F3 tb pb:=by
          rw [<- e3,<- i9];exact(HY.out.2.1.get PL.pk0 rk0 k9 (by rw [a2.out]; omega)).mono R.out.2.2.2.2.1
         have j0:∀t ∈ PL.lst G q,t.1<=17179869184000000/\t.2.length<=4000000:=by
          intro t ht;have g1:=PL.wt_mem Prod.fst ht;have g2:=PL.wt_lst Prod.fst (fun _ _=>rfl) G q;have g3:=PL.wt_mem (fun p=>p.2.length) ht;have g4:=PL.wt_lst (fun p=>p.2.length) (fun _ _=>List.length_append) G q;have m3:∀(f:PL.Pk->Nat) (B:Nat) (l:List PL.Pk),(∀p ∈ l,f p<=B)->PL.wt f l<=l.length * B:=by
           intro f B l;induction l with
           | nil=>intro _; simp [PL.wt]
           | cons p l ih =>
            intro W;have h1:=W p (List.mem_cons_self ..);have h2:=ih fun q hq=>W q (List.mem_cons_of_mem _ hq);show f p+PL.wt f l<=(l.length+1) * B;rw [Nat.succ_mul]; omega
          have g5:=m3 Prod.fst 4294967296 G fun p W=>(e0.out p W).1;have g6:=m3 (fun p=>p.2.length) 1 G fun p W=>by rw [(e0.out p W).2.1]; exact Nat.le_refl _
          rw [c7.out] at g5 g6;have g7:nn * 4294967296<=8589934592000:=by omega
          have g8:(q+1) * PL.wt Prod.fst G<=2000 * 8589934592000:=Nat.mul_le_mul (by omega) (by omega);have g9:(q+1) * PL.wt (fun p=>p.2.length) G<=2000 * 2000:=Nat.mul_le_mul (by omega) (by omega);omega
         have q4:=j0 ta (by rw [<- e2,List.getD_eq_getElem?_getD,List.getElem?_eq_getElem (by rw [a2.out]; omega)]; exact List.getElem_mem _);have q5:=j0 tb (by rw [<- e3,List.getD_eq_getElem?_getD,List.getElem?_eq_getElem (by rw [a2.out]; omega)]; exact List.getElem_mem _);obtain⟨ca,aA,O,ac⟩:=pa;obtain⟨cb,bA,bn,bc⟩:=pb;obtain⟨m4,e4,e5⟩:=q0;obtain⟨m5,e6,e7⟩:=q3;simp only at m4 e4 e5 m5 e6 e7;obtain⟨J,m6⟩:=exq (ta.1+tb.1);have y4:ca+cb=(J:Int):=by omega
         have v0:0<=ca:=by omega
         have v2:ca<=20000000000000000:=by omega
         have v3:0<=cb:=by omega
         have v4:cb<=20000000000000000:=by omega
         have j9:O<=4000000:=by omega
         have v5:bn<=4000000:=by omega
         obtain⟨U,c0⟩:=exq ta.2;obtain⟨sb,j1⟩:=exq tb.2;rw [c0] at e4 e5;rw [j1] at e6 e7;have I:SS.mrg PL.keyP G (PL.pairsTo (PL.lst G q) (j+1))=SS.put PL.keyP (SS.mrg PL.keyP G (PL.pairsTo (PL.lst G q) j)) (J,U++sb):=by
          rw [YY,<- R.out.1,i7,e2,e3,<- m6,<- c0,<- j1]; rfl
         have c8:Ent (RPool F3::Row 3 1 (.slice (some ad) i i) i (cntR i [])::(R3++L)) (fun w=>Rd w aA (cellsN U)):=fun _ _ H=>(RPool.rd H e4).1;have m7:Ent (RPool F3::Row 3 1 (.slice (some ad) i i) i (cntR i [])::(R3++L)) (fun w=>Rd w bA (cellsN sb)):=fun _ _ H=>(RPool.rd H e6).1;obtain⟨M,Z,_,_⟩:=rdR (R.out.2.2.2.2.2.2.1 _ _ H.tail2) (i:=k) (by rw [HY.out.1]; omega);have a6:Ent (R3++L) (fun w=>w.cell? (M.add (k * 2))=some (.int .i64 ca)/\w.cell? ⟨(M.add (k * 2)).block,(M.add (k * 2)).off+1,none⟩=some (.slice aA O ac)):=fun _ _ H=>by
          obtain⟨a9,N,d0,X⟩:=rdR (R.out.2.2.2.2.2.2.1 _ _ H) (i:=k) (by rw [HY.out.1]; omega);rw [Z] at N;injection N with N
          rw [i8] at d0 X;rw [N]; exact⟨d0,X⟩
         have f6:Ent (R3++L) (fun w=>w.cell? (M.add (k9 * 2))=some (.int .i64 cb)/\w.cell? ⟨(M.add (k9 * 2)).block,(M.add (k9 * 2)).off+1,none⟩=some (.slice bA bn bc)):=fun _ _ H=>by
          obtain⟨a9,N,d0,X⟩:=rdR (R.out.2.2.2.2.2.2.1 _ _ H) (i:=k9) (by rw [HY.out.1]; omega);rw [Z] at N;injection N with N
          rw [i9] at d0 X;rw [N]; exact⟨d0,X⟩
         have d8:=hid I;have e8:=hid c8;have m8:=hid m7;have d2:=hid a6;have j2:=hid f6;have f0:Hid (O=U.length/\bn=sb.length):=hid ⟨e5,e7⟩;have v6:=hid i7;subst Z;clear i8 i9 e2 e3 j0 q4 q5 m4 e4 e5 m5 e6 e7 m6 c0 j1 I c8 m7 a6 f6 i7;have m9:k+2<=n2:=by omega
         go_wp2_with fail
         refine ZR (L:=RPool F3::Row 3 1 (.slice (some ad) i i) i (cntR i [])::(R3++L)) (fun ix ux vx=>([(fun _=>(·=.slice (some M) n2 c2)),(fun _=>(·=.int .i64 k)),(fun _=>(·=.pointer (some (M.add (k * 2))))),(fun _=>(·=.pointer (some (M.add (k * 2))))),(fun _=>(·=.int .i64 ca)),(fun _=>(·=.slice (some M) n2 c2)),(fun _=>(·=.int .i64 k)),(fun _=>(·=.int .i64 k9)),(fun _=>(·=.pointer (some (M.add (k9 * 2))))),(fun _=>(·=.pointer (some (M.add (k9 * 2))))),(fun _=>(·=.int .i64 cb)),(fun _=>(·=.int .i64 J)),(fun _=>(·=.agg #[.int .i64 J,.slice none 0 0])),(fun _=>fun v=>v=.pointer (some ⟨blkH v,0,none⟩)),(fun _ _=>True)]:List (Value->Value->Prop)).getD ix (fun _ _=>True) ux vx)
          (fun ix ux vx=>([fun _ _=>[],fun _ _=>[],fun _ _=>[],fun _ _=>[],fun _ _=>[],fun _ _=>[],fun _ _=>[],fun _ _=>[],fun _ _=>[],fun _ _=>[],fun _ _=>[],fun _ _=>[],fun _ _=>[],fun _ v=>[Bk (blkH v) 192 [.int .i64 0,.slice none 0 0]],fun ux _=>[Bk (blkH ux) 192 [.int .i64 J,.slice none 0 0]]]:List (Value->Value->List Pr)).getD ix (fun _ _=>[]) ux vx) (fun ix=>([[],[],[],[],[],[],[],[],[],[],[],[],[],[],[]]:List (List Pr)).getD ix []) 15 163
          [some 96,some 97,some 98,some 99,some 100,some 101,some 102,some 103,some 104,some 105,some 106,some 107,some 108,some 14,none]
          [[],[],[0,1],[2],[3],[],[],[6],[5,7],[8],[9],[4,10],[11],[],[13,12,0,1,2,3,4,5,6,7,8,9,10,11,12,13]]
          [[],[],[0,1],[0,1,2],[0,1,2,3],[],[],[6],[5,6,7],[5,6,7,8],[5,6,7,8,9],[0,1,2,3,4,5,6,7,8,9,10],[0,1,2,3,4,5,6,7,8,9,10,11],[],[0,1,2,3,4,5,6,7,8,9,10,11,12,13]]
          [[],[],[],[],[],[],[],[],[],[],[],[],[],[],[13]]
          [[],[],[],[],[],[],[],[],[],[],[],[],[],[],[]]
          [none,none,none,none,none,none,none,none,none,none,none,none,none,none,some 13] (by decide) [(10,.slice (some M) n2 c2),(13,.int .i64 k)]
          (by kernel_rfl) rfl (by decide) (by rfl) rfl (by decide +kernel) (by decide +kernel) (by rfl) rfl rfl (by decide) (by simp) (by rfl) (H) ?hstep ?hend
         case hstep =>
          refine⟨?_,⟨?_,⟨?_,⟨?_,⟨?_,⟨?_,⟨?_,⟨?_,⟨?_,⟨?_,⟨?_,⟨?_,⟨?_,⟨?_,⟨?_,trivial⟩⟩⟩⟩⟩⟩⟩⟩⟩⟩⟩⟩⟩⟩⟩
          ·intro x wx A m y o C H K d;have j3:A.tmps[10]?.getD undef=.slice (some M) n2 c2:=y (10,_) (by simp);have D:=hid d;clear d y o C;refine so ?_;go_step;exact D.out _ _ rfl H
          ·intro x wx A m y o C H K d;have j4:A.tmps[13]?.getD undef=.int .i64 k:=y (13,_) (by simp);have D:=hid d;clear d y o C;refine so ?_;go_step;exact D.out _ _ rfl H
          ·intro x wx A m y o C H K d;have v7:=tq o 0;have v8:=tq o 1;have D:=hid d;clear d y o C;refine so ?_;go_step;exact D.out _ _ rfl H
          ·intro x wx A m y o C H K d;have w1:=tq o 2;have D:=hid d;clear d y o C;refine so ?_;go_step;exact D.out _ _ rfl H
          ·intro x wx A m y o C H K d;have w3:=tq o 3;have D:=hid d;clear d y o;obtain⟨d0,X⟩:=C _ (Ent.cons _ (Ent.cons _ (d2.out))) _ _ H;refine so ?_;go_step;exact D.out _ _ rfl H
          ·intro x wx A m y o C H K d;have j3:A.tmps[10]?.getD undef=.slice (some M) n2 c2:=y (10,_) (by simp);have D:=hid d;clear d y o C;refine so ?_;go_step;exact D.out _ _ rfl H
          ·intro x wx A m y o C H K d;have j4:A.tmps[13]?.getD undef=.int .i64 k:=y (13,_) (by simp);have D:=hid d;clear d y o C;refine so ?_;go_step;exact D.out _ _ rfl H
          ·intro x wx A m y o C H K d;have r7:=tq o 6;have D:=hid d;clear d y o C;refine so ?_;go_step;exact D.out _ _ rfl H
          ·intro x wx A m y o C H K d;have r8:=tq o 5;have r9:=tq o 7;have D:=hid d;clear d y o C;refine so ?_;go_step;exact D.out _ _ rfl H
          ·intro x wx A m y o C H K d;have s1:=tq o 8;have D:=hid d;clear d y o C;refine so ?_;go_step;exact D.out _ _ rfl H
          ·intro x wx A m y o C H K d;have s2:=tq o 9;have D:=hid d;clear d y o;obtain⟨d0,X⟩:=C _ (Ent.cons _ (Ent.cons _ (j2.out))) _ _ H;refine so ?_;go_step;exact D.out _ _ rfl H
          ·intro x wx A m y o C H K d;have s3:=tq o 4;have s4:=tq o 10;have D:=hid d;clear d y o C;refine so ?_;go_step;exact D.out _ _ rfl H
          ·intro x wx A m y o C H K d;have s5:=tq o 11;have D:=hid d;clear d y o C;refine so ?_;go_step;exact D.out _ _ rfl H
          ·intro x wx A m y o C H K d;have D:=hid d;clear d y o C;refine so ?_;go_step;exact D.out _ _ rfl (H.newBk _ _)
          ·intro x wx A m y o C H K d;have n0:=(o 13 (by decide)).1;have d3:=(o 13 (by decide)).2 14 rfl;have s6:=tq o 12;replace H:Sp w0 ((Bk (blkH (x 13)) 192 [.int .i64 0,.slice none 0 0])::m) wx:=H;have D:Hid (∀(v:Value) (w' : World),True->Sp w0 ((Bk (blkH (x 13)) 192 [.int .i64 J,.slice none 0 0])::m) w'->K (A.put none v) w'):=hid d;clear d y o C;obtain⟨g9,N⟩:=exq (blkH (x 13));have q:x 13=.pointer (some ⟨blkH (x 13),0,none⟩):=n0;rw [N] at q H;rw [q] at d3;clear q n0;have z0:wx.frozen? ⟨g9,0,none⟩=false:=H.frozen 0 rfl 0;have z1:wx.frozen? ⟨g9,1,none⟩=false:=H.frozen 0 rfl 1;have z3:wx.cell? ⟨g9,0,none⟩=some (.int .i64 0):=H.cell 0 rfl 0;have z4:wx.cell? ⟨g9,1,none⟩=some (.slice none 0 0):=H.cell 0 rfl 1;refine so ?_;go_step;refine D.out (x 13) _ trivial ?_;rw [N];exact(H.set 0 _).set 1 _
         case hend =>
          intro x wx A hA o H;replace H:Sp w0 ((Bk (blkH (x 13)) 192 [.int .i64 J,.slice none 0 0])::_::_::(R3++L)) wx:=H;have n1:(x 13)=.pointer (some ⟨blkH (x 13),0,none⟩):=o 13 (by decide);clear o;simp only [putAll,Act.put,List.setIfInBounds_toArray,List.set_cons_succ,List.set_cons_zero,Nat.reduceAdd] at hA;subst hA;obtain⟨g,hg⟩:=exq (blkH (x 13));have f7:x 13=.pointer (some ⟨g,0,none⟩):=by rw [n1,hg]
          rw [hg] at H;rw [f7];clear n1 f7 hg;go_wp2_with fail
          refine ZR (L:=RPool F3::Row 3 1 (.slice (some ad) i i) i (cntR i [])::(R3++L)) (fun ix ux vx=>([(fun _=>(·=.pointer (some ⟨g,1,none⟩))),(fun _=>(·=.slice none 0 0)),(fun _=>(·=.slice (some M) n2 c2)),(fun _=>(·=.int .i64 k)),(fun _=>(·=.pointer (some (M.add (k * 2))))),(fun _=>(·=.pointer (some ⟨(M.add (k * 2)).block,(M.add (k * 2)).off+1,none⟩))),(fun _=>(·=.slice aA O ac)),(fun _=>fun v=>∃V c,v=.slice V O c),(fun _=>(·=.pointer (some ⟨g,1,none⟩))),(fun _ _=>True)]:List (Value->Value->Prop)).getD ix (fun _ _=>True) ux vx)
           (fun ix ux vx=>([fun _ _=>[],fun _ _=>[],fun _ _=>[],fun _ _=>[],fun _ _=>[],fun _ _=>[],fun _ _=>[],fun _ v=>[Row 3 1 v O (cellsN U)],fun _ _=>[],fun ux _=>[Bk g 192 [.int .i64 J,ux]]]:List (Value->Value->List Pr)).getD ix (fun _ _=>[]) ux vx) (fun ix=>([[],[],[],[],[],[],[],[Row 3 1 (.slice none 0 0) 0 (cellsN ([]:List Nat))],[],[Bk g 192 [.int .i64 J,.slice none 0 0]]]:List (List Pr)).getD ix []) 10 163
           [some 109,some 110,some 111,some 112,some 113,some 114,some 115,some 116,some 117,none]
           [[],[0],[],[],[2,3],[4],[5],[1,6],[0,1,2,3,4,5,6,7],[8,7,7,0,1,2,3,4,5,6,7]]
           [[],[0],[],[],[2,3],[2,3,4],[2,3,4,5],[0,1,2,3,4,5,6],[0,1,2,3,4,5,6,7],[0,1,2,3,4,5,6,7,8]]
           [[],[],[],[],[],[],[],[],[],[]]
           [[],[9],[],[],[],[],[],[],[],[]]
           [none,none,none,none,none,none,none,none,none,some 7] (by decide) [(10,.slice (some M) n2 c2),(13,.int .i64 k),(14,.pointer (some ⟨g,0,none⟩))]
           (by kernel_rfl) rfl (by decide) (by rfl) rfl (by decide +kernel) (by decide +kernel) (by rfl) rfl rfl (by decide) (by simp) (by rfl) ((H.rowNil 3 1)) ?hstep ?hend
          case hstep =>
           refine⟨?_,⟨?_,⟨?_,⟨?_,⟨?_,⟨?_,⟨?_,⟨?_,⟨?_,⟨?_,trivial⟩⟩⟩⟩⟩⟩⟩⟩⟩⟩
           ·intro x wx A m y o C H K d;have d3:A.tmps[14]?.getD undef=.pointer (some ⟨g,0,none⟩):=y (14,_) (by simp);have D:=hid d;clear d y o C;refine so ?_;go_step;exact D.out _ _ rfl H
           ·intro x wx A m y o C H K d;have s7:=tq o 0;replace H:Sp w0 (_::m) wx:=H;have D:=hid d;clear d y o C;have q6:wx.cell? ⟨g,1,none⟩=some (.slice none 0 0):=H.cell 0 rfl 1;refine so ?_;go_step;exact D.out _ _ rfl H
           ·intro x wx A m y o C H K d;have j3:A.tmps[10]?.getD undef=.slice (some M) n2 c2:=y (10,_) (by simp);have D:=hid d;clear d y o C;refine so ?_;go_step;exact D.out _ _ rfl H
           ·intro x wx A m y o C H K d;have j4:A.tmps[13]?.getD undef=.int .i64 k:=y (13,_) (by simp);have D:=hid d;clear d y o C;refine so ?_;go_step;exact D.out _ _ rfl H
           ·intro x wx A m y o C H K d;have s8:=tq o 2;have s9:=tq o 3;have D:=hid d;clear d y o C;refine so ?_;go_step;exact D.out _ _ rfl H
           ·intro x wx A m y o C H K d;have t0:=tq o 4;have D:=hid d;clear d y o C;refine so ?_;go_step;exact D.out _ _ rfl H
           ·intro x wx A m y o C H K d;have t1:=tq o 5;have D:=hid d;clear d y o;obtain⟨d0,X⟩:=C _ (Ent.cons _ (Ent.cons _ (d2.out))) _ _ H;refine so ?_;go_step;exact D.out _ _ rfl H
           ·intro x wx A m y o C H K d;have n4:=tq o 1;have n5:=tq o 6;replace H:Sp w0 (_::m) wx:=H;have D:Hid (∀(v:Value) (w' : World),(fun v=>∃V c,v=.slice V O c) v->Sp w0 ((Row 3 1 v O (cellsN U))::m) w'->K (A.put (some 116) v) w'):=hid d;clear d y o;have a1:=C _ e8.out _ _ H.tail;refine so ?_;refine Zg _ _ 97 rfl 3 i1 (.int .i64 0) 1 8 Tryz.underlying97 hj g0 h0 h3 rfl (by decide) (.slice none 0 0) 0 (cellsN ([]:List Nat)) (ev n4) H aA O ac (cellsN U) (ev n5) (by rw [show(cellsN U).length=U.length by simp [cellsN]]; have:=f0.out; omega) a1 (by intro u hu; obtain⟨x9,_,rfl⟩:=List.mem_map.1 hu; rfl) (by simp only [maxLen]; omega) (by omega) ?_;intro v1 w2 H2 _;rw [<- Yi] at H2;rw [List.nil_append,Nat.zero_add] at H2;obtain⟨V9,c9,a8,_,_⟩:=Row.form H2 0 rfl;exact D.out _ _ ⟨V9,c9,a8⟩ H2
           ·intro x wx A m y o C H K d;have d3:A.tmps[14]?.getD undef=.pointer (some ⟨g,0,none⟩):=y (14,_) (by simp);have D:=hid d;clear d y o C;refine so ?_;go_step;exact D.out _ _ rfl H
           ·intro x wx A m y o C H K d;have t3:=tq o 8;have n6:=(o 7 (by decide)).1;have n7:=(o 7 (by decide)).2 116 rfl;replace H:Sp w0 (_::m) wx:=H;have D:Hid (∀(v:Value) (w' : World),True->Sp w0 ((Bk g 192 [.int .i64 J,(x 7)])::m) w'->K (A.put none v) w'):=hid d;clear d y o C;obtain⟨V9,c9,N⟩:=n6;rw [N] at n7;have z0:wx.frozen? ⟨g,1,none⟩=false:=H.frozen 0 rfl 1;have z1:wx.cell? ⟨g,1,none⟩=some (.slice none 0 0):=H.cell 0 rfl 1;refine so ?_;go_step;refine D.out (x 7) _ trivial ?_;rw [N];exact H.set 1 _
          case hend =>
           intro x wx A hA o H;replace H:Sp w0 ((Row 3 1 (x 7) O (cellsN U))::(Bk g 192 [.int .i64 J,(x 7)])::_::_::(R3++L)) wx:=H;have y7:∃V c,(x 7)=.slice V O c:=o 7 (by decide);clear o;simp only [putAll,Act.put,List.setIfInBounds_toArray,List.set_cons_succ,List.set_cons_zero,Nat.reduceAdd] at hA;subst hA;obtain⟨V1,c1,n8,_,_⟩:=Row.form H 0 rfl;rw [n8] at H;clear y7 n8;go_wp2_with fail
           refine ZR (L:=RPool F3::Row 3 1 (.slice (some ad) i i) i (cntR i [])::(R3++L)) (fun ix ux vx=>([(fun _=>(·=.pointer (some ⟨g,1,none⟩))),(fun _=>(·=.slice V1 O c1)),(fun _=>(·=.slice (some M) n2 c2)),(fun _=>(·=.int .i64 k)),(fun _=>(·=.int .i64 k9)),(fun _=>(·=.pointer (some (M.add (k9 * 2))))),(fun _=>(·=.pointer (some ⟨(M.add (k9 * 2)).block,(M.add (k9 * 2)).off+1,none⟩))),(fun _=>(·=.slice bA bn bc)),(fun _=>fun v=>∃V c,v=.slice V (O+bn) c),(fun _=>(·=.pointer (some ⟨g,1,none⟩))),(fun _ _=>True)]:List (Value->Value->Prop)).getD ix (fun _ _=>True) ux vx)
            (fun ix ux vx=>([fun _ _=>[],fun _ _=>[],fun _ _=>[],fun _ _=>[],fun _ _=>[],fun _ _=>[],fun _ _=>[],fun _ _=>[],fun _ v=>[Row 3 1 v (O+bn) (cellsN (U++sb))],fun _ _=>[],fun ux _=>[Bk g 192 [.int .i64 J,ux]]]:List (Value->Value->List Pr)).getD ix (fun _ _=>[]) ux vx) (fun ix=>([[],[],[],[],[],[],[],[],[Row 3 1 (.slice V1 O c1) O (cellsN U)],[],[Bk g 192 [.int .i64 J,.slice V1 O c1]]]:List (List Pr)).getD ix []) 11 163
            [some 118,some 119,some 120,some 121,some 122,some 123,some 124,some 125,some 126,some 127,none]
            [[],[0],[],[],[3],[2,4],[5],[6],[1,7],[0,1,2,3,4,5,6,7,8],[9,8,8,0,1,2,3,4,5,6,7,8]]
            [[],[0],[],[],[3],[2,3,4],[2,3,4,5],[2,3,4,5,6],[0,1,2,3,4,5,6,7],[0,1,2,3,4,5,6,7,8],[0,1,2,3,4,5,6,7,8,9]]
            [[],[],[],[],[],[],[],[],[],[],[]]
            [[],[10],[],[],[],[],[],[],[],[],[]]
            [none,none,none,none,none,none,none,none,none,none,some 8] (by decide) [(10,.slice (some M) n2 c2),(13,.int .i64 k),(14,.pointer (some ⟨g,0,none⟩))]
            (by kernel_rfl) rfl (by decide) (by rfl) rfl (by decide +kernel) (by decide +kernel) (by rfl) rfl rfl (by decide) (by simp) (by rfl) (H) ?hstep ?hend
           case hstep =>
            refine⟨?_,⟨?_,⟨?_,⟨?_,⟨?_,⟨?_,⟨?_,⟨?_,⟨?_,⟨?_,⟨?_,trivial⟩⟩⟩⟩⟩⟩⟩⟩⟩⟩⟩
            ·intro x wx A m y o C H K d;have d3:A.tmps[14]?.getD undef=.pointer (some ⟨g,0,none⟩):=y (14,_) (by simp);have D:=hid d;clear d y o C;refine so ?_;go_step;exact D.out _ _ rfl H
            ·intro x wx A m y o C H K d;have t4:=tq o 0;replace H:Sp w0 (_::m) wx:=H;have D:=hid d;clear d y o C;have q6:wx.cell? ⟨g,1,none⟩=some (.slice V1 O c1):=H.cell 0 rfl 1;refine so ?_;go_step;exact D.out _ _ rfl H
            ·intro x wx A m y o C H K d;have j3:A.tmps[10]?.getD undef=.slice (some M) n2 c2:=y (10,_) (by simp);have D:=hid d;clear d y o C;refine so ?_;go_step;exact D.out _ _ rfl H
            ·intro x wx A m y o C H K d;have j4:A.tmps[13]?.getD undef=.int .i64 k:=y (13,_) (by simp);have D:=hid d;clear d y o C;refine so ?_;go_step;exact D.out _ _ rfl H
            ·intro x wx A m y o C H K d;have t5:=tq o 3;have D:=hid d;clear d y o C;refine so ?_;go_step;exact D.out _ _ rfl H
            ·intro x wx A m y o C H K d;have t6:=tq o 2;have t7:=tq o 4;have D:=hid d;clear d y o C;refine so ?_;go_step;exact D.out _ _ rfl H
            ·intro x wx A m y o C H K d;have t8:=tq o 5;have D:=hid d;clear d y o C;refine so ?_;go_step;exact D.out _ _ rfl H
            ·intro x wx A m y o C H K d;have t9:=tq o 6;have D:=hid d;clear d y o;obtain⟨d0,X⟩:=C _ (Ent.cons _ (Ent.cons _ (j2.out))) _ _ H;refine so ?_;go_step;exact D.out _ _ rfl H
            ·intro x wx A m y o C H K d;have n9:=tq o 1;have o0:=tq o 7;replace H:Sp w0 (_::m) wx:=H;have D:Hid (∀(v:Value) (w' : World),(fun v=>∃V c,v=.slice V (O+bn) c) v->Sp w0 ((Row 3 1 v (O+bn) (cellsN (U++sb)))::m) w'->K (A.put (some 126) v) w'):=hid d;clear d y o;have a1:=C _ m8.out _ _ H.tail;refine so ?_;refine Zg _ _ 97 rfl 3 i1 (.int .i64 0) 1 8 Tryz.underlying97 hj g0 h0 h3 rfl (by decide) (.slice V1 O c1) O (cellsN U) (ev n9) H bA bn bc (cellsN sb) (ev o0) (by rw [show(cellsN sb).length=sb.length by simp [cellsN]]; have:=f0.out; omega) a1 (by intro u hu; obtain⟨x9,_,rfl⟩:=List.mem_map.1 hu; rfl) (by simp only [maxLen]; omega) (by omega) ?_;intro v1 w2 H2 _;rw [<- Yi] at H2;obtain⟨V9,c9,a8,_,_⟩:=Row.form H2 0 rfl;exact D.out _ _ ⟨V9,c9,a8⟩ H2
            ·intro x wx A m y o C H K d;have d3:A.tmps[14]?.getD undef=.pointer (some ⟨g,0,none⟩):=y (14,_) (by simp);have D:=hid d;clear d y o C;refine so ?_;go_step;exact D.out _ _ rfl H
            ·intro x wx A m y o C H K d;have u0:=tq o 9;have o1:=(o 8 (by decide)).1;have o2:=(o 8 (by decide)).2 126 rfl;replace H:Sp w0 (_::m) wx:=H;have D:Hid (∀(v:Value) (w' : World),True->Sp w0 ((Bk g 192 [.int .i64 J,(x 8)])::m) w'->K (A.put none v) w'):=hid d;clear d y o C;obtain⟨V9,c9,N⟩:=o1;rw [N] at o2;have z0:wx.frozen? ⟨g,1,none⟩=false:=H.frozen 0 rfl 1;have z1:wx.cell? ⟨g,1,none⟩=some (.slice V1 O c1):=H.cell 0 rfl 1;refine so ?_;go_step;refine D.out (x 8) _ trivial ?_;rw [N];exact H.set 1 _
           case hend =>
            intro x wx A hA o H;replace H:Sp w0 ((Row 3 1 (x 8) (O+bn) (cellsN (U++sb)))::(Bk g 192 [.int .i64 J,(x 8)])::_::_::(R3++L)) wx:=H;have y8:∃V c,(x 8)=.slice V (O+bn) c:=o 8 (by decide);clear o;simp only [putAll,Act.put,List.setIfInBounds_toArray,List.set_cons_succ,List.set_cons_zero,Nat.reduceAdd] at hA;subst hA;obtain⟨V2,c4,o3,_,_⟩:=Row.form H 0 rfl;rw [o3] at H;clear y8 o3;have d0:=H.cell 1 rfl 0;have X:=H.cell 1 rfl 1;simp only [List.getElem?_cons_zero,List.getElem?_cons_succ] at d0 X;have j5:O+bn=(U++sb).length:=by rw [List.length_append,<- f0.out.1,<- f0.out.2]
            have H2:Sp w0 (RPool (((V2,c4),U++sb)::F3)::Row 3 1 (.slice (some ad) i i) i (cntR i [])::(R3++L)) wx:=by
             have h:=H.pick 3 [0,2];rw [j5] at h;exact RPool.cons h
            have a0:=VW A3 n3 c3 zs ⟨(J:Int),V2,O+bn,c4⟩ H2 R.out.2.1.symm (Ent.cons _ (Ent.cons _ R.out.2.2.2.2.2.1)) f5 (by omega);have E:EncRL (((V2,c4),U++sb)::F3) (SS.mrg PL.keyP G (PL.pairsTo (PL.lst G q) (j+1))) (SS.put keyR zs ⟨(J:Int),V2,O+bn,c4⟩):=by
             rw [d8.out];exact(R.out.2.2.2.1.mono fun _ h=>List.mem_cons_of_mem _ h).put ⟨rfl,List.mem_cons_self ..,j5⟩
            have Q:(SS.put keyR zs ⟨(J:Int),V2,O+bn,c4⟩).length=n3+1:=by rw [SS.len_put,R.out.2.1]
            obtain⟨Y,hY⟩:=exq (SS.put keyR zs ⟨(J:Int),V2,O+bn,c4⟩);rw [hY] at a0 E Q;unfold RK.val at a0;have b4:=hid a0;have P:=hid E;have b5:=hid Q;clear a0 E Q hY H H2 j5 e8 m8 d2 j2;go_wp2_with fail
            refine b4.out.mono ?_;rintro _ w9 ⟨v9,rfl,a7⟩;clear b4 d0 X;obtain⟨V9,c9,a8,h7,_⟩:=Row.form a7 0 rfl;subst a8;have a1:Ent (([Row 192 2 (.slice V9 (n3+1) c9) (n3+1) (cellsR Y)]++R3)++L) (fun w=>Rd w V9 (cellsR Y)):=fun _ _ H=>by
             obtain⟨A9,c9,N,h8,_,_⟩:=H.row_rd 0 rfl;injection N with N
             rw [N]; exact h8
            have i0:=hid a1;have i2:Sp w0 (RPool (((V2,c4),U++sb)::F3)::Row 3 1 (.slice (some ad) i i) i (cntR i [])::(([Row 192 2 (.slice V9 (n3+1) c9) (n3+1) (cellsR Y)]++R3)++L)) w9:=a7.pick 3 [1,2,0];clear a1 a7;go_wp2_with fail
            go_roundw
            case rel=>exact⟨k+2,j+1,n3+1,c9,V9,_,Y,[Row 192 2 (.slice V9 (n3+1) c9) (n3+1) (cellsR Y)]++R3,by go_num,rfl,m9,h7,by have:=R.out.1; have:=R.out.2.2.1; have:=c7.out; omega,hid ⟨by have:=R.out.1; omega,b5.out,by have:=R.out.2.2.1; omega,P.out,fun e he=>List.mem_cons_of_mem _ (R.out.2.2.2.2.1 e he),i0.out,R.out.2.2.2.2.2.2.1.cons _,R.out.2.2.2.2.2.2.2.cons _⟩,i2⟩
            case measure=>first | (simp [intOf]; omega) | simp [intOf]
        ·have k6:¬ (k:Int)+1<(n2:Int):=by omega
         have o4:EncRL F3 (PL.lst G (q+1)) zs:=by
          have h:=R.out.2.2.2.1;show EncRL F3 (PL.nxt G (PL.lst G q)) zs;rw [m1.out];unfold PL.pairs;rw [a2.out,show n2 / 2=j by have:=R.out.1; omega];exact h
         have q7:=hid o4;clear o4;go_wp2_with fail
         go_roundw
         case rel=>exact⟨q+1,n3,c3,A3,F3,zs,R3,by first | (go_num; done) | exact congrArg (Value.int .i64) (by omega),rfl,by omega,f5,hid ⟨R.out.2.1,q7.out,HY.out.2.2.1.mono R.out.2.2.2.2.1,R.out.2.2.2.2.2.1,R.out.2.2.2.2.2.2.2⟩,H⟩
         case measure=>first | (simp [intOf]; omega) | simp [intOf]
      ·have k5:¬ (q:Int)+1<(lm:Int):=by omega
       obtain⟨t,ht⟩:∃t,2 * nn=t+2:=⟨2 * nn - 2,by omega⟩;obtain⟨t2,q8⟩:=exq (2 * nn);have y5:(2:Int) * (nn:Int)=(t2:Int):=by omega
       have y6:(t2:Int) - 2=(t:Int):=by omega
       have w4:t<=n2:=by
        have:=m0.out;rw [show lm - 1=q by omega,b2,c7.out] at this;omega
       have o5:T=((PL.lst G q).take t).flatMap Prod.snd:=by
        rw [l9.out,show lm - 1=q by omega,show 2 * nn - 2=t by omega]
       have q9:=hid o5;have a2:=hid b2;have u1:t2<=1000000:=by omega
       clear ht q8 o5 b2 l9 m0;go_wp2_with fail
       go_loopw [15] (fun iv wr=>∃(r:Nat),iv=.int .i64 r/\r<=t/\Sp w0 (RPool F2::Row 3 1 (.slice (some ad) i i) i (cntR i (((PL.lst G q).take r).flatMap Prod.snd))::(R2++L)) wr) (fun iv _=>t - (intOf iv).toNat)
       case atStart=>exact⟨0,rfl,Nat.zero_le _,H⟩
       case round =>
        clear H;obtain⟨r,rfl,w6,H⟩:=hrel;by_cases hr:r<t
        ·have k8:(r:Int)<(t:Int):=by omega
         have k9:(r:Int)<(n2:Int):=by omega
         obtain⟨px,b7⟩:=exq (ys.getD r rk0);obtain⟨tx,f1⟩:=exq ((PL.lst G q).getD r PL.pk0);have j6:r<ys.length:=by rw [HY.out.1]; omega
         have r0:EncR F2 tx px:=by
          rw [<- f1,<- b7];exact HY.out.2.1.get PL.pk0 rk0 r (by rw [a2.out]; omega)
         obtain⟨xc,xA,xn,xp⟩:=px;obtain⟨b9,a3,a4⟩:=r0;simp only at b9 a3 a4;obtain⟨s,hs⟩:=exq tx.2;rw [hs] at a3 a4;obtain⟨M,Z,_,_⟩:=rdR (HY.out.2.2.2.1 _ _ H.tail2) (i:=r) j6;have a6:Ent (R2++L) (fun w=>w.cell? (M.add (r * 2))=some (.int .i64 xc)/\w.cell? ⟨(M.add (r * 2)).block,(M.add (r * 2)).off+1,none⟩=some (.slice xA xn xp)):=fun _ _ H=>by
          obtain⟨a9,N,d0,X⟩:=rdR (HY.out.2.2.2.1 _ _ H) (i:=r) j6;rw [Z] at N;injection N with N
          rw [b7] at d0 X;rw [N]; exact⟨d0,X⟩
         have c8:Ent (RPool F2::(R2++L)) (fun w=>Rd w xA (cellsN s)):=fun _ _ H=>(RPool.rd H a3).1;obtain⟨f2,d4⟩:=exq (((PL.lst G q).take r).flatMap Prod.snd);have I:((PL.lst G q).take (r+1)).flatMap Prod.snd=f2++s:=by
          have o6:r<(PL.lst G q).length:=by rw [a2.out]; omega
          have N:(PL.lst G q)[r]=tx:=by rw [<- f1,List.getD_eq_getElem?_getD,List.getElem?_eq_getElem o6]; rfl
          rw [List.take_succ_eq_append_getElem o6,List.flatMap_append,d4,N,<- hs]; simp
         rw [d4] at H;have d5:∀l:List PL.Pk,(l.flatMap Prod.snd).length=PL.wt (fun p=>p.2.length) l:=by
          intro l;induction l with
          | nil=>rfl
          | cons p l ih=>rw [List.flatMap_cons,List.length_append,ih]; rfl
         have f8:f2.length+s.length<=1000000000:=by
          rw [<- List.length_append,<- I,d5];have g1:=PL.wt_take (fun p=>p.2.length) (PL.lst G q) (r+1);have g2:=PL.wt_lst (fun p=>p.2.length) (fun _ _=>List.length_append) G q;have g3:PL.wt (fun p=>p.2.length) G<=G.length:=by
           have:∀l:List PL.Pk,(∀p ∈ l,p.2.length=1)->PL.wt (fun p=>p.2.length) l<=l.length:=by
            intro l;induction l with
            | nil=>intro _; exact Nat.le_refl _
            | cons p l ih =>
             intro W;have h1:=W p (List.mem_cons_self ..);have h2:=ih fun q hq=>W q (List.mem_cons_of_mem _ hq);show p.2.length+PL.wt _ l<=l.length+1;omega
           exact this G fun p W=>(e0.out p W).2.1
          rw [c7.out] at g3;have g4:(q+1) * PL.wt (fun p=>p.2.length) G<=2000 * 2000:=Nat.mul_le_mul (by omega) (by omega);omega
         have b6:∀z ∈ s,z<i:=by
          have:=PL.lst_mem (fun p=>∀z ∈ p.2,z<i) (fun a b ha hb z hz=>by
           rcases List.mem_append.1 hz with hz | hz
           ·exact ha z hz
           ·exact hb z hz) G (fun p W=>(e0.out p W).2.2) q tx (by
            rw [<- f1,List.getD_eq_getElem?_getD,List.getElem?_eq_getElem (by rw [a2.out]; omega)]; exact List.getElem_mem _)
          rw [hs] at this;exact this
         have r1:=hid b6;have o7:=hid I;have d2:=hid a6;have e8:=hid c8;have w7:xn<=1000000000:=by omega
         have o8:=hid a4;have o9:=hid f8;subst Z;clear b7 f1 j6 b9 a3 a4 hs a6 c8 d4 I d5 f8 b6;go_wp2_with fail
         go_loopw [16] (fun jv wr=>∃(j:Nat),jv=.int .i64 j/\j<=xn/\Sp w0 (RPool F2::Row 3 1 (.slice (some ad) i i) i (cntR i (f2++s.take j))::(R2++L)) wr) (fun jv _=>xn - (intOf jv).toNat)
         case atStart=>exact⟨0,rfl,Nat.zero_le _,by rw [List.take_zero,List.append_nil]; exact H⟩
         case round =>
          clear H;obtain⟨j,rfl,w8,H⟩:=hrel;obtain⟨d0,X⟩:=d2.out _ _ H.tail2;by_cases r2:j<xn
          ·have q1:(j:Int)<(xn:Int):=by omega
           have j7:j<s.length:=by rw [<- o8.out]; exact r2
           have f9:=e8.out _ _ (H.pick 2 [0]);obtain⟨xa,r3,p0⟩:=f9.at_ (k:=j) (by simpa [cellsN] using j7);obtain⟨z,hz⟩:=exq (s[j]);replace p0:wr.cell? (xa.add j)=some (.int .i64 z):=by
            rw [p0];simp [cellsN,hz]
           subst r3;have p1:z<i:=r1.out z (by rw [<- hz]; exact List.getElem_mem j7);have q2:(z:Int)<(i:Int):=by omega
           obtain⟨p7,c5,ev,_,b1,x0,a5⟩:=(H.swap).rowSet p1;injection ev with ev ev2 ev3
           injection ev with ev
           subst ev;clear ev2 ev3;rw [Zx _ _ _ p1] at b1;obtain⟨u,hu⟩:=exq ((f2++s.take j).count z);have x1:u<=1000000000:=by
            rw [<- hu];refine Nat.le_trans List.count_le_length ?_;rw [List.length_append,List.length_take];have:=o9.out; omega
           rw [hu] at b1;have b0:=a5 (.int .i64 ((u:Int)+1));rw [ZK i z _ _ (by rw [hu]),List.append_assoc,show s.take j++[z]=s.take (j+1) by rw [List.take_succ_eq_append_getElem j7,hz]] at b0;have i5:=hid b0.swap;clear a5 b0 hu hz f9;go_wp2_with fail
           go_roundw
           case rel=>exact⟨j+1,by go_num,by omega,i5.out⟩
           case measure=>first | (simp [intOf]; omega) | simp [intOf]
          ·have q1:¬ (j:Int)<(xn:Int):=by omega
           obtain rfl:j=xn:=by omega
           rw [List.take_of_length_le (by rw [<- o8.out]; exact Nat.le_refl _)] at H;go_wp2_with fail
           go_roundw
           case rel=>exact⟨r+1,by go_num,by omega,by rw [o7.out]; exact H⟩
           case measure=>first | (simp [intOf]; omega) | simp [intOf]
        ·have k8:¬ (r:Int)<(t:Int):=by omega
         obtain rfl:r=t:=by omega
         rw [<- q9.out] at H;go_wp2_with fail
         go_ret2;exact⟨_,rfl,Sp.dropMid 1 [_] rfl H.swap⟩
end Go.Proofs.YteajimobgkempaaGreatDoor

