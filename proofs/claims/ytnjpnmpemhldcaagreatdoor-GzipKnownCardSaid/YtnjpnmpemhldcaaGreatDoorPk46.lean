/- A pack. -/
import Derived.Test.YtnjpnmpemhldcaaGreatDoorPk45
set_option linter.all false
set_option maxRecDepth 100000
set_option maxHeartbeats 8000000
namespace Go.Proofs.YtnjpnmpemhldcaaGreatDoor
variable {w0 w:World} {L:List Pr}
open Go.RowKit
def Zj (l:List PI.Blk):List Value:=l.flatMap fun b=>[.int .i64 b.kind,.bool b.last,.int .i64 b.from_,.int .i64 b.to_]
theorem infoB:(Tryz.prog.info? 218).map (fun i=>(i.zero,i.size,i.bytes))=some (some (.agg #[.int .i64 0,.bool false,.int .i64 0,.int .i64 0]),4,32):=by kernel_rfl
namespace PI
theorem block_step {B:List Bool} {most a x1 kd:Nat} {out:List UInt8} {r:Nat × List UInt8} (h1:number B a 1=.ok (a+1,x1)) (h2:number B (a+1) 2=.ok (a+1+2,kd)) (h3:body B most kd (a+1+2) out=.ok r):block B most a out=.ok (x1 == 1,kd,r.1,r.2):=by
 unfold block;rw [h1,bok]
 dsimp only
 rw [h2,bok]
 dsimp only
 rw [h3,bok]
theorem block_no {B:List Bool} {most a x1 kd c:Nat} {out:List UInt8} (h1:number B a 1=.ok (a+1,x1)) (h2:number B (a+1) 2=.ok (a+1+2,kd)) (h3:body B most kd (a+1+2) out=.error c):block B most a out=.error c:=by
 unfold block;rw [h1,bok]
 dsimp only
 rw [h2,bok]
 dsimp only
 rw [h3,bno]
end PI
theorem VZ (gx gr:Nat) (l out:List UInt8) (bl:List PI.Blk) (most at_:Nat) (vo vb:Value) (TL TA:Option Addr) (cl ca:Nat)
  (H:Sp w0 (Rr gr l at_::XpB gx gr vo most vb::Row 5 1 vo out.length (cells8 out)::Row 218 4 vb bl.length (Zj bl)::L) w) (ha:at_<=8 * l.length) (hl:l.length<=100000000) (ho:out.length<=most) (hm:most<=1000000000) (hbl:bl.length<=1000000000)
  (hT:Ent L (Tabs TL TA cl ca)) :
  Calls Tryz.prog 101 #[.pointer (some ⟨gx,0,none⟩)] w
   (XPost w0 L (PI.block (PBits.ofB l) most at_ out) fun r e w'=>e=.returned (.bool r.1)/\∃vo' vb',Sp w0 (Rr gr l r.2.2.1::XpB gx gr vo' most vb'::Row 5 1 vo' r.2.2.2.length (cells8 r.2.2.2)::Row 218 4 vb' (bl.length+1) (Zj (bl++[⟨r.2.1,r.1,out.length,r.2.2.2.length⟩]))::L) w'):=by
 obtain⟨i0,hi,a8,a9,b0⟩:=info_parts infoB;obtain⟨T,b1⟩:=exq (PI.block (PBits.ofB l) most at_ out);rw [b1];have J:=hid b1;have HL:=hid hl;have b2:=hid hT;have HM:=hid hm;have b3:=hid hbl;obtain⟨VA,vc,rfl,d9,b8⟩:=Row.form H 2 rfl;obtain⟨F,G,rfl,e0,b9⟩:=Row.form H 3 rfl;have e2:=hid b8;have b4:=hid b9;have HQ:=hid (Zu gx gr l most at_ 1 _ _ H ha (by omega) hl);clear b1 hT hm hbl hl b8 b9;go_enter Tryz.func101,Tryz.ntmps101
 go_wp2_with fail
 refine HQ.out.mono ?_;intro P w1 p;cases hr:PI.number (PBits.ofB l) at_ 1 with
 | error c =>
  rw [hr] at p;obtain⟨rfl,H1⟩:=p;have E:Hid (T=.error c):=by rw [<- J.out]; unfold PI.block; rw [hr]; exact hid rfl
  clear hr HQ J;go_wp2;exact⟨rfl,XPost.no E.out (H1.pick 2 [])⟩
 | ok r =>
  obtain⟨e1,Z⟩:=PI.number_ok hr;have d6:=PI.numAt_small (PBits.ofB l) at_ 1 1 (by omega);subst e1;obtain⟨x1,Q⟩:=exq (PI.numAt (PBits.ofB l) at_ 1);rw [hr] at p;rw [Q] at hr p d6;rw [PBits.ofB_length] at Z;obtain⟨rfl,H1⟩:=p;simp only at H1;have X:=hid hr;have b5:=hid (Zu gx gr l most (at_+1) 2 _ _ H1 Z (by omega) HL.out);obtain⟨lb,b6⟩:=exq ((x1 == 1));have y1:((x1:Int) == 1)=lb:=by
   rw [<- b6];have:x1=0∨x1=1:=by omega
   rcases this with rfl | rfl <;> rfl
  have c0:=hid b6;clear hr Q HQ H b6;go_wp2_with fail
  refine b5.out.mono ?_;intro P w2 p;cases hr:PI.number (PBits.ofB l) (at_+1) 2 with
  | error c =>
   rw [hr] at p;obtain⟨rfl,I⟩:=p;have E:Hid (T=.error c):=by rw [<- J.out]; unfold PI.block; rw [X.out,PI.bok]; dsimp only; rw [hr]; exact hid rfl
   clear hr b5 J;go_wp2;exact⟨rfl,XPost.no E.out (I.pick 2 [])⟩
  | ok r =>
   obtain⟨e1,D⟩:=PI.number_ok hr;have d7:=PI.numAt_small (PBits.ofB l) (at_+1) 2 2 (by omega);subst e1;obtain⟨N,Q⟩:=exq (PI.numAt (PBits.ofB l) (at_+1) 2);rw [hr] at p;rw [Q] at hr p d7;rw [PBits.ofB_length] at D;obtain⟨rfl,I⟩:=p;simp only at I;have b7:=hid hr;have a0:∀r,PI.body (PBits.ofB l) most N (at_+1+2) out=.ok r->T=.ok (lb,N,r.1,r.2):=fun r h=>by
    rw [<- J.out,PI.block_step X.out b7.out h,c0.out]
   have c2:∀c,PI.body (PBits.ofB l) most N (at_+1+2) out=.error c->T=.error c:=fun c h=>by
    rw [<- J.out,PI.block_no X.out b7.out h]
   have O:=hid a0;have y:=hid c2;obtain⟨M,c3⟩:=exq (at_+1+2);rw [c3] at I D O y;have c1:w2.cell? ⟨gx,1,none⟩=some (.slice VA out.length vc):=I.cell 1 rfl 1;clear hr Q b5 H1 X b7 J c0 a0 c2 c3;by_cases h0:N=0
   ·subst h0;have hs:=WU gx gr l out most M _ _ I D HL.out ho HM.out;have R:=hid hs;clear hs;go_wp2_with fail
    refine R.out.mono ?_;intro P w3 p;have s:PI.body (PBits.ofB l) most 0 M out=PI.stored (PBits.ofB l) most M out:=rfl;unfold XPost at p;cases hr:PI.stored (PBits.ofB l) most M out with
    | error c =>
     rw [hr] at p;obtain⟨rfl,B⟩:=p;have E:Hid (T=.error c):=hid (y.out c (s.trans hr));clear hr R O y s;go_wp2;exact⟨rfl,XPost.no E.out (B.pick 1 [])⟩
    | ok r =>
     obtain⟨S,b⟩:=r;rw [hr] at p;obtain⟨rfl,c4,B⟩:=p;have E:Hid (T=.ok (lb,0,S,b)):=hid (O.out _ (s.trans hr));simp only at B;clear hr R O y s I c1;obtain⟨k,n,rfl,a1,a5⟩:=Row.form B 2 rfl;go_wp2_with fail
     refine Zb (L:=Rr gr l S::Row 5 1 (.slice k b.length n) b.length (cells8 b)::L) [some (.pointer (some ⟨gx,0,none⟩)),some (.pointer (some ⟨gx,0,none⟩)),some (.pointer (some ⟨gx,0,none⟩)),some (.pointer (some ⟨gx,3,none⟩)),some (.slice F bl.length G),some (.int .i64 0),some (.bool lb),some (.int .i64 out.length),some (.pointer (some ⟨gx,0,none⟩)),some (.pointer (some ⟨gx,0,none⟩)),some (.pointer (some ⟨gx,1,none⟩)),some (.slice k b.length n),some (.int .i64 b.length),some (.agg #[.int .i64 0,.bool lb,.int .i64 out.length,.int .i64 b.length]),none,none,some (.pointer (some ⟨gx,0,none⟩)),some (.pointer (some ⟨gx,3,none⟩)),some (undef)] (fun ix vx=>match ix with | 14=>(fun v=>v=.slice (some ⟨v.ownBlock.getD 0,0,none⟩) 1 1) vx | 15=>(fun _=>True) vx | _=>True) (fun ix vx=>match ix with | 14=>(fun v=>[Bk (v.ownBlock.getD 0) 218 [.int .i64 0,.bool lb,.int .i64 out.length,.int .i64 b.length]]) vx | 15=>(fun v=>[Row 218 4 v (bl.length+1) (Zj bl++[.int .i64 0,.bool lb,.int .i64 out.length,.int .i64 b.length])]) vx | 18=>(fun _=>[Ex fun u=>Star (XpB gx gr (.slice k b.length n) most u) (Row 218 4 u (bl.length+1) (Zj bl++[.int .i64 0,.bool lb,.int .i64 out.length,.int .i64 b.length]))]) vx | _=>[]) (fun ix=>match ix with | 15=>[Row 218 4 (.slice F bl.length G) bl.length (Zj bl)] | 18=>[XpB gx gr (.slice k b.length n) most (.slice F bl.length G)] | _=>[]) 19 56
      [some 37,some 38,some 39,some 40,some 41,some 42,some 43,some 44,some 45,some 46,some 47,some 48,some 49,some 50,some 51,some 52,some 53,some 54,none]
      [[],[],[1],[2],[3],[],[],[],[],[8],[9],[10],[11],[5,6,7,12],[13],[4,14],[0,0,1,2,3,4,5,6,7,8,9,10,11,12,13,14,15],[16,0,1,2,3,4,5,6,7,8,9,10,11,12,13,14,15],[17,15,15,0,1,2,3,4,5,6,7,8,9,10,11,12,13,14,15]]
      [[],[],[1],[1,2],[1,2,3],[],[],[],[],[8],[8,9],[8,9,10],[8,9,10,11],[5,6,7,8,9,10,11,12],[5,6,7,8,9,10,11,12,13],[1,2,3,4,5,6,7,8,9,10,11,12,13,14],[0,1,2,3,4,5,6,7,8,9,10,11,12,13,14,15],[0,1,2,3,4,5,6,7,8,9,10,11,12,13,14,15,16],[0,1,2,3,4,5,6,7,8,9,10,11,12,13,14,15,16,17]]
      [[],[],[],[],[],[],[],[],[],[],[],[],[],[],[],[14],[],[],[15]] [[],[],[],[],[18],[],[],[],[],[],[],[18],[],[],[],[],[],[],[]] [(0,.pointer (some ⟨gx,0,none⟩)),(3,.bool lb),(4,.int .i64 0),(5,.int .i64 out.length)]
      (by kernel_rfl) rfl (by decide) (by rfl) (by decide +kernel) rfl rfl (by simp) (B.pick 4 [3,1,0,2]) ?hstep ?hend
     case hstep =>
      refine⟨?p0,⟨?p1,⟨?p2,⟨?p3,⟨?p4,⟨?p5,⟨?p6,⟨?p7,⟨?p8,⟨?p9,⟨?p10,⟨?p11,⟨?p12,⟨?p13,⟨?p14,⟨?p15,⟨?p16,⟨?p17,⟨?p18,trivial⟩⟩⟩⟩⟩⟩⟩⟩⟩⟩⟩⟩⟩⟩⟩⟩⟩⟩⟩
      case p0 | p1 | p2 | p3 | p5 | p6 | p7 | p8 | p9 | p10 | p12 | p13 | p16 | p17 =>
       intro x wx A f i q j t H K hK;replace hK:=hid hK;clear j t i;repeat (obtain⟨_,q⟩:=q)
       refine so ?_;go_step;exact hK.out _ _ rfl H
      case p4 =>
       intro x wx A f i q j t H K g;have c5:=tq j 3;replace H:Sp w0 (_::f) wx:=H;have hK:=hid g;clear g q j t i;have c:wx.cell? ⟨gx,3,none⟩=some (.slice F bl.length G):=H.cell 0 rfl 3;refine so ?_;go_step;exact hK.out _ _ rfl H
      case p11 =>
       intro x wx A f i q j t H K g;have c6:=tq j 10;replace H:Sp w0 (_::f) wx:=H;have hK:=hid g;clear g q j t i;have c:wx.cell? ⟨gx,1,none⟩=some (.slice k b.length n):=H.cell 0 rfl 1;refine so ?_;go_step;exact hK.out _ _ rfl H
      case p14 =>
       intro x wx A f i q j t H K g;have c7:=tq j 13;have hK:=hid g;clear g q j t i;refine so ?_;go_step;exact hK.out _ _ rfl (H.newBk _ _)
      case p15 =>
       intro x wx A f i q j t H K g;have U:=tq j 4;have V:(x 14)=.slice (some ⟨(x 14).ownBlock.getD 0,0,none⟩) 1 1:=(j 14 (by decide)).1;have C:=(j 14 (by decide)).2 51 rfl;replace H:Sp w0 (_::(Bk ((x 14).ownBlock.getD 0) 218 [.int .i64 0,.bool lb,.int .i64 out.length,.int .i64 b.length])::f) wx:=H;have hK:Hid (∀(v:Value) (w' : World),True->Sp w0 ((Row 218 4 v (bl.length+1) (Zj bl++[.int .i64 0,.bool lb,.int .i64 out.length,.int .i64 b.length]))::f) w'->K (A.put (some 52) v) w'):=hid g;clear g q j t i;obtain⟨g9,P⟩:=exq ((x 14).ownBlock.getD 0);rw [V] at C;rw [P] at C H;have a6:=b4.out;have a7:=b3.out;have c8:maxLen=9223372036854775807:=rfl;refine so ?_;refine Zi _ _ 126 rfl 218 i0 (.agg #[.int .i64 0,.bool false,.int .i64 0,.int .i64 0]) 4 32 Tryz.underlying126 hi a8 a9 b0 rfl (by decide) (.slice F bl.length G) bl.length (Zj bl) (ev U) H (some ⟨g9,0,none⟩) 1 1 [.int .i64 0,.bool lb,.int .i64 out.length,.int .i64 b.length] (ev C) rfl (Rd.of_blk (H.blk 1 rfl)) (by intro u hu; simp only [List.mem_cons,List.mem_nil_iff,or_false] at hu; rcases hu with rfl | rfl | rfl | rfl <;> rfl) (by omega) (by omega) ?_
       intro v1 w2 I _;exact hK.out _ _ trivial I.swap.tail
      case p18 =>
       intro x wx A f i q j t H K g;have d0:=tq j 17;have d1:True:=(j 15 (by decide)).1;have W:=(j 15 (by decide)).2 52 rfl;replace H:Sp w0 (_::(Row 218 4 (x 15) (bl.length+1) (Zj bl++[.int .i64 0,.bool lb,.int .i64 out.length,.int .i64 b.length]))::f) wx:=H;have hK:=hid g;clear g q j t i;have c:wx.cell? ⟨gx,3,none⟩=some (.slice F bl.length G):=H.cell 0 rfl 3;have z:wx.frozen? ⟨gx,3,none⟩=false:=H.frozen 0 rfl 3;obtain⟨A1,c9,ea,_,_⟩:=Row.form H 1 rfl;refine so ?_;rw [ea] at W H;go_step;exact hK.out _ _ rfl (Sp.ex (.slice A1 (bl.length+1) c9) (Sp.star (H.set 3 (.slice A1 (bl.length+1) c9))))
     case hend =>
      intro x wx A hA j H;replace H:Sp w0 (_::_::_::L) wx:=H;clear j;simp only [putAll,Act.put,List.setIfInBounds_toArray,List.set_cons_succ,List.set_cons_zero,Nat.reduceAdd] at hA;subst hA;obtain⟨u,H⟩:=H.unex;replace H:=H.unstar;have HX:=hid (H.pick 4 [2,0,3,1]);clear H B;go_wp2;go_ret;refine XPost.yes E.out ⟨rfl,.slice k b.length n,u,?_⟩;have ec:Zj (bl++[⟨0,lb,out.length,b.length⟩])=(Zj bl++[.int .i64 0,.bool lb,.int .i64 out.length,.int .i64 b.length]):=by simp [Zj]
      have h8:=HX.out;show Sp w0 (Rr gr l S::XpB gx gr (.slice k b.length n) most u::Row 5 1 (.slice k b.length n) b.length (cells8 b)::Row 218 4 u (bl.length+1) (Zj (bl++[⟨0,lb,out.length,b.length⟩]))::L) _;rw [ec];exact h8
   ·have g0:((N:Int) == 0)=false:=by rw [beq_eq_false_iff_ne]; omega
    have e3 : ¬ (N:Int)=0:=by omega
    by_cases h1:N=1
    ·subst h1;go_wp2_with fail
     refine(xfixed_ok I).mono ?_;rintro _ w4 ⟨g1,g2,rfl,H4⟩;have hs:=YM gx gr g1 g2 l out most M _ _ PI.fixedL PI.fixedD TL TA cl ca (H4.pick 6 [2,3,1,0,4,5]) D HL.out ho HM.out PI.fixed_sum PI.fixed_sumD (by decide) (by decide) (fun w0 w h=>b2.out w0 w (h.pick 1 []));have R:=hid hs;clear hs;go_wp2_with fail
     refine R.out.mono ?_;intro P w3 p;have s:PI.body (PBits.ofB l) most 1 M out=PI.pressed (PBits.ofB l) most PI.fixedL PI.fixedD ((PBits.ofB l).length+1) M out:=rfl;unfold XPost at p;cases hr:PI.pressed (PBits.ofB l) most PI.fixedL PI.fixedD ((PBits.ofB l).length+1) M out with
     | error c =>
      rw [hr] at p;obtain⟨rfl,B⟩:=p;have E:Hid (T=.error c):=hid (y.out c (s.trans hr));clear hr R O y s;go_wp2;exact⟨rfl,XPost.no E.out (B.pick 1 [])⟩
     | ok r =>
      obtain⟨S,b⟩:=r;rw [hr] at p;obtain⟨rfl,c4,B⟩:=p;have E:Hid (T=.ok (lb,1,S,b)):=hid (O.out _ (s.trans hr));replace B:=B.pick 6 [0,1,4,5];simp only at B;clear hr R O y s I c1 H4;obtain⟨k,n,rfl,a1,a5⟩:=Row.form B 2 rfl;go_wp2_with fail
      refine Zb (L:=Rr gr l S::Row 5 1 (.slice k b.length n) b.length (cells8 b)::L) [some (.pointer (some ⟨gx,0,none⟩)),some (.pointer (some ⟨gx,0,none⟩)),some (.pointer (some ⟨gx,0,none⟩)),some (.pointer (some ⟨gx,3,none⟩)),some (.slice F bl.length G),some (.int .i64 1),some (.bool lb),some (.int .i64 out.length),some (.pointer (some ⟨gx,0,none⟩)),some (.pointer (some ⟨gx,0,none⟩)),some (.pointer (some ⟨gx,1,none⟩)),some (.slice k b.length n),some (.int .i64 b.length),some (.agg #[.int .i64 1,.bool lb,.int .i64 out.length,.int .i64 b.length]),none,none,some (.pointer (some ⟨gx,0,none⟩)),some (.pointer (some ⟨gx,3,none⟩)),some (undef)] (fun ix vx=>match ix with | 14=>(fun v=>v=.slice (some ⟨v.ownBlock.getD 0,0,none⟩) 1 1) vx | 15=>(fun _=>True) vx | _=>True) (fun ix vx=>match ix with | 14=>(fun v=>[Bk (v.ownBlock.getD 0) 218 [.int .i64 1,.bool lb,.int .i64 out.length,.int .i64 b.length]]) vx | 15=>(fun v=>[Row 218 4 v (bl.length+1) (Zj bl++[.int .i64 1,.bool lb,.int .i64 out.length,.int .i64 b.length])]) vx | 18=>(fun _=>[Ex fun u=>Star (XpB gx gr (.slice k b.length n) most u) (Row 218 4 u (bl.length+1) (Zj bl++[.int .i64 1,.bool lb,.int .i64 out.length,.int .i64 b.length]))]) vx | _=>[]) (fun ix=>match ix with | 15=>[Row 218 4 (.slice F bl.length G) bl.length (Zj bl)] | 18=>[XpB gx gr (.slice k b.length n) most (.slice F bl.length G)] | _=>[]) 19 56
       [some 37,some 38,some 39,some 40,some 41,some 42,some 43,some 44,some 45,some 46,some 47,some 48,some 49,some 50,some 51,some 52,some 53,some 54,none]
       [[],[],[1],[2],[3],[],[],[],[],[8],[9],[10],[11],[5,6,7,12],[13],[4,14],[0,0,1,2,3,4,5,6,7,8,9,10,11,12,13,14,15],[16,0,1,2,3,4,5,6,7,8,9,10,11,12,13,14,15],[17,15,15,0,1,2,3,4,5,6,7,8,9,10,11,12,13,14,15]]
       [[],[],[1],[1,2],[1,2,3],[],[],[],[],[8],[8,9],[8,9,10],[8,9,10,11],[5,6,7,8,9,10,11,12],[5,6,7,8,9,10,11,12,13],[1,2,3,4,5,6,7,8,9,10,11,12,13,14],[0,1,2,3,4,5,6,7,8,9,10,11,12,13,14,15],[0,1,2,3,4,5,6,7,8,9,10,11,12,13,14,15,16],[0,1,2,3,4,5,6,7,8,9,10,11,12,13,14,15,16,17]]
       [[],[],[],[],[],[],[],[],[],[],[],[],[],[],[],[14],[],[],[15]] [[],[],[],[],[18],[],[],[],[],[],[],[18],[],[],[],[],[],[],[]] [(0,.pointer (some ⟨gx,0,none⟩)),(3,.bool lb),(4,.int .i64 1),(5,.int .i64 out.length)]
       (by kernel_rfl) rfl (by decide) (by rfl) (by decide +kernel) rfl rfl (by simp) (B.pick 4 [3,1,0,2]) ?hstep ?hend
      case hstep =>
       refine⟨?p0,⟨?p1,⟨?p2,⟨?p3,⟨?p4,⟨?p5,⟨?p6,⟨?p7,⟨?p8,⟨?p9,⟨?p10,⟨?p11,⟨?p12,⟨?p13,⟨?p14,⟨?p15,⟨?p16,⟨?p17,⟨?p18,trivial⟩⟩⟩⟩⟩⟩⟩⟩⟩⟩⟩⟩⟩⟩⟩⟩⟩⟩⟩
       case p0 | p1 | p2 | p3 | p5 | p6 | p7 | p8 | p9 | p10 | p12 | p13 | p16 | p17 =>
        intro x wx A f i q j t H K hK;replace hK:=hid hK;clear j t i;repeat (obtain⟨_,q⟩:=q)
        refine so ?_;go_step;exact hK.out _ _ rfl H
       case p4 =>
        intro x wx A f i q j t H K g;have c5:=tq j 3;replace H:Sp w0 (_::f) wx:=H;have hK:=hid g;clear g q j t i;have c:wx.cell? ⟨gx,3,none⟩=some (.slice F bl.length G):=H.cell 0 rfl 3;refine so ?_;go_step;exact hK.out _ _ rfl H
       case p11 =>
        intro x wx A f i q j t H K g;have c6:=tq j 10;replace H:Sp w0 (_::f) wx:=H;have hK:=hid g;clear g q j t i;have c:wx.cell? ⟨gx,1,none⟩=some (.slice k b.length n):=H.cell 0 rfl 1;refine so ?_;go_step;exact hK.out _ _ rfl H
       case p14 =>
        intro x wx A f i q j t H K g;have c7:=tq j 13;have hK:=hid g;clear g q j t i;refine so ?_;go_step;exact hK.out _ _ rfl (H.newBk _ _)
       case p15 =>
        intro x wx A f i q j t H K g;have U:=tq j 4;have V:(x 14)=.slice (some ⟨(x 14).ownBlock.getD 0,0,none⟩) 1 1:=(j 14 (by decide)).1;have C:=(j 14 (by decide)).2 51 rfl;replace H:Sp w0 (_::(Bk ((x 14).ownBlock.getD 0) 218 [.int .i64 1,.bool lb,.int .i64 out.length,.int .i64 b.length])::f) wx:=H;have hK:Hid (∀(v:Value) (w' : World),True->Sp w0 ((Row 218 4 v (bl.length+1) (Zj bl++[.int .i64 1,.bool lb,.int .i64 out.length,.int .i64 b.length]))::f) w'->K (A.put (some 52) v) w'):=hid g;clear g q j t i;obtain⟨g9,P⟩:=exq ((x 14).ownBlock.getD 0);rw [V] at C;rw [P] at C H;have a6:=b4.out;have a7:=b3.out;have c8:maxLen=9223372036854775807:=rfl;refine so ?_;refine Zi _ _ 126 rfl 218 i0 (.agg #[.int .i64 0,.bool false,.int .i64 0,.int .i64 0]) 4 32 Tryz.underlying126 hi a8 a9 b0 rfl (by decide) (.slice F bl.length G) bl.length (Zj bl) (ev U) H (some ⟨g9,0,none⟩) 1 1 [.int .i64 1,.bool lb,.int .i64 out.length,.int .i64 b.length] (ev C) rfl (Rd.of_blk (H.blk 1 rfl)) (by intro u hu; simp only [List.mem_cons,List.mem_nil_iff,or_false] at hu; rcases hu with rfl | rfl | rfl | rfl <;> rfl) (by omega) (by omega) ?_
        intro v1 w2 I _;exact hK.out _ _ trivial I.swap.tail
       case p18 =>
        intro x wx A f i q j t H K g;have d0:=tq j 17;have d1:True:=(j 15 (by decide)).1;have W:=(j 15 (by decide)).2 52 rfl;replace H:Sp w0 (_::(Row 218 4 (x 15) (bl.length+1) (Zj bl++[.int .i64 1,.bool lb,.int .i64 out.length,.int .i64 b.length]))::f) wx:=H;have hK:=hid g;clear g q j t i;have c:wx.cell? ⟨gx,3,none⟩=some (.slice F bl.length G):=H.cell 0 rfl 3;have z:wx.frozen? ⟨gx,3,none⟩=false:=H.frozen 0 rfl 3;obtain⟨A1,c9,ea,_,_⟩:=Row.form H 1 rfl;refine so ?_;rw [ea] at W H;go_step;exact hK.out _ _ rfl (Sp.ex (.slice A1 (bl.length+1) c9) (Sp.star (H.set 3 (.slice A1 (bl.length+1) c9))))
      case hend =>
       intro x wx A hA j H;replace H:Sp w0 (_::_::_::L) wx:=H;clear j;simp only [putAll,Act.put,List.setIfInBounds_toArray,List.set_cons_succ,List.set_cons_zero,Nat.reduceAdd] at hA;subst hA;obtain⟨u,H⟩:=H.unex;replace H:=H.unstar;have HX:=hid (H.pick 4 [2,0,3,1]);clear H B;go_wp2;go_ret;refine XPost.yes E.out ⟨rfl,.slice k b.length n,u,?_⟩;have ec:Zj (bl++[⟨1,lb,out.length,b.length⟩])=(Zj bl++[.int .i64 1,.bool lb,.int .i64 out.length,.int .i64 b.length]):=by simp [Zj]
       have h8:=HX.out;show Sp w0 (Rr gr l S::XpB gx gr (.slice k b.length n) most u::Row 5 1 (.slice k b.length n) b.length (cells8 b)::Row 218 4 u (bl.length+1) (Zj (bl++[⟨1,lb,out.length,b.length⟩]))::L) _;rw [ec];exact h8
    ·have g1:((N:Int) == 1)=false:=by rw [beq_eq_false_iff_ne]; omega
     have e4 : ¬ (N:Int)=1:=by omega
     by_cases h2:N=2
     ·subst h2;have hd:=TI gx gr l most M _ _ TL TA cl ca I D HL.out (fun w0 w h=>b2.out w0 w (h.pick 2 []));have HD:=hid hd;clear hd;go_wp2_with fail
      refine HD.out.mono ?_;intro P w4 p;unfold XPost at p;cases hr:PI.dynamic (PBits.ofB l) M with
      | error c =>
       rw [hr] at p;obtain⟨rfl,B⟩:=p;have s:PI.body (PBits.ofB l) most 2 M out=.error c:=by
        show(PI.dynamic _ _).bind _=_;rw [hr]; rfl
       have E:Hid (T=.error c):=hid (y.out c s);clear hr HD O y s;go_wp2;exact⟨rfl,XPost.no E.out (B.pick 2 [])⟩
      | ok r =>
       obtain⟨a4,m,d⟩:=r;rw [hr] at p;obtain⟨g1,g2,rfl,H4⟩:=p;simp only at H4;obtain⟨d2,d3,d4,d5⟩:=PI.dynamic_ok hr;have d8:a4<=8 * l.length:=by
        have:=(PI.Fine.dynamic (a:=M) (o:=0)).pos (PBits.ofB l) 0 (by rw [PBits.ofB_length]; exact D) (Nat.zero_le _) _ hr;have p:=this.2.1;rw [PBits.ofB_length] at p;exact p
       have hs:=YM gx gr g1 g2 l out most a4 _ _ m d TL TA cl ca (H4.pick 6 [2,3,1,0,4,5]) d8 HL.out ho HM.out (PI.book_sum d2) (PI.book_sum d3) d4 d5 (fun w0 w h=>b2.out w0 w (h.pick 1 []));have R:=hid hs;have s:PI.body (PBits.ofB l) most 2 M out=PI.pressed (PBits.ofB l) most m d ((PBits.ofB l).length+1) a4 out:=by
        show(PI.dynamic _ _).bind _=_;rw [hr]; rfl
       have Y:=hid s;clear hs hr HD d2 d3 d4 d5 s;go_wp2_with fail
       refine R.out.mono ?_;intro P w3 p;unfold XPost at p;cases hr:PI.pressed (PBits.ofB l) most m d ((PBits.ofB l).length+1) a4 out with
       | error c =>
        rw [hr] at p;obtain⟨rfl,B⟩:=p;have E:Hid (T=.error c):=hid (y.out c (Y.out.trans hr));clear hr R O y Y;go_wp2;exact⟨rfl,XPost.no E.out (B.pick 1 [])⟩
       | ok r =>
        obtain⟨S,b⟩:=r;rw [hr] at p;obtain⟨rfl,c4,B⟩:=p;have E:Hid (T=.ok (lb,2,S,b)):=hid (O.out _ (Y.out.trans hr));replace B:=B.pick 6 [0,1,4,5];simp only at B;clear hr R O y Y I c1 H4;obtain⟨k,n,rfl,a1,a5⟩:=Row.form B 2 rfl;go_wp2_with fail
        refine Zb (L:=Rr gr l S::Row 5 1 (.slice k b.length n) b.length (cells8 b)::L) [some (.pointer (some ⟨gx,0,none⟩)),some (.pointer (some ⟨gx,0,none⟩)),some (.pointer (some ⟨gx,0,none⟩)),some (.pointer (some ⟨gx,3,none⟩)),some (.slice F bl.length G),some (.int .i64 2),some (.bool lb),some (.int .i64 out.length),some (.pointer (some ⟨gx,0,none⟩)),some (.pointer (some ⟨gx,0,none⟩)),some (.pointer (some ⟨gx,1,none⟩)),some (.slice k b.length n),some (.int .i64 b.length),some (.agg #[.int .i64 2,.bool lb,.int .i64 out.length,.int .i64 b.length]),none,none,some (.pointer (some ⟨gx,0,none⟩)),some (.pointer (some ⟨gx,3,none⟩)),some (undef)] (fun ix vx=>match ix with | 14=>(fun v=>v=.slice (some ⟨v.ownBlock.getD 0,0,none⟩) 1 1) vx | 15=>(fun _=>True) vx | _=>True) (fun ix vx=>match ix with | 14=>(fun v=>[Bk (v.ownBlock.getD 0) 218 [.int .i64 2,.bool lb,.int .i64 out.length,.int .i64 b.length]]) vx | 15=>(fun v=>[Row 218 4 v (bl.length+1) (Zj bl++[.int .i64 2,.bool lb,.int .i64 out.length,.int .i64 b.length])]) vx | 18=>(fun _=>[Ex fun u=>Star (XpB gx gr (.slice k b.length n) most u) (Row 218 4 u (bl.length+1) (Zj bl++[.int .i64 2,.bool lb,.int .i64 out.length,.int .i64 b.length]))]) vx | _=>[]) (fun ix=>match ix with | 15=>[Row 218 4 (.slice F bl.length G) bl.length (Zj bl)] | 18=>[XpB gx gr (.slice k b.length n) most (.slice F bl.length G)] | _=>[]) 19 56
         [some 37,some 38,some 39,some 40,some 41,some 42,some 43,some 44,some 45,some 46,some 47,some 48,some 49,some 50,some 51,some 52,some 53,some 54,none]
         [[],[],[1],[2],[3],[],[],[],[],[8],[9],[10],[11],[5,6,7,12],[13],[4,14],[0,0,1,2,3,4,5,6,7,8,9,10,11,12,13,14,15],[16,0,1,2,3,4,5,6,7,8,9,10,11,12,13,14,15],[17,15,15,0,1,2,3,4,5,6,7,8,9,10,11,12,13,14,15]]
         [[],[],[1],[1,2],[1,2,3],[],[],[],[],[8],[8,9],[8,9,10],[8,9,10,11],[5,6,7,8,9,10,11,12],[5,6,7,8,9,10,11,12,13],[1,2,3,4,5,6,7,8,9,10,11,12,13,14],[0,1,2,3,4,5,6,7,8,9,10,11,12,13,14,15],[0,1,2,3,4,5,6,7,8,9,10,11,12,13,14,15,16],[0,1,2,3,4,5,6,7,8,9,10,11,12,13,14,15,16,17]]
         [[],[],[],[],[],[],[],[],[],[],[],[],[],[],[],[14],[],[],[15]] [[],[],[],[],[18],[],[],[],[],[],[],[18],[],[],[],[],[],[],[]] [(0,.pointer (some ⟨gx,0,none⟩)),(3,.bool lb),(4,.int .i64 2),(5,.int .i64 out.length)]
         (by kernel_rfl) rfl (by decide) (by rfl) (by decide +kernel) rfl rfl (by simp) (B.pick 4 [3,1,0,2]) ?hstep ?hend
        case hstep =>
         refine⟨?p0,⟨?p1,⟨?p2,⟨?p3,⟨?p4,⟨?p5,⟨?p6,⟨?p7,⟨?p8,⟨?p9,⟨?p10,⟨?p11,⟨?p12,⟨?p13,⟨?p14,⟨?p15,⟨?p16,⟨?p17,⟨?p18,trivial⟩⟩⟩⟩⟩⟩⟩⟩⟩⟩⟩⟩⟩⟩⟩⟩⟩⟩⟩
         case p0 | p1 | p2 | p3 | p5 | p6 | p7 | p8 | p9 | p10 | p12 | p13 | p16 | p17 =>
          intro x wx A f i q j t H K hK;replace hK:=hid hK;clear j t i;repeat (obtain⟨_,q⟩:=q)
          refine so ?_;go_step;exact hK.out _ _ rfl H
         case p4 =>
          intro x wx A f i q j t H K g;have c5:=tq j 3;replace H:Sp w0 (_::f) wx:=H;have hK:=hid g;clear g q j t i;have c:wx.cell? ⟨gx,3,none⟩=some (.slice F bl.length G):=H.cell 0 rfl 3;refine so ?_;go_step;exact hK.out _ _ rfl H
         case p11 =>
          intro x wx A f i q j t H K g;have c6:=tq j 10;replace H:Sp w0 (_::f) wx:=H;have hK:=hid g;clear g q j t i;have c:wx.cell? ⟨gx,1,none⟩=some (.slice k b.length n):=H.cell 0 rfl 1;refine so ?_;go_step;exact hK.out _ _ rfl H
         case p14 =>
          intro x wx A f i q j t H K g;have c7:=tq j 13;have hK:=hid g;clear g q j t i;refine so ?_;go_step;exact hK.out _ _ rfl (H.newBk _ _)
         case p15 =>
          intro x wx A f i q j t H K g;have U:=tq j 4;have V:(x 14)=.slice (some ⟨(x 14).ownBlock.getD 0,0,none⟩) 1 1:=(j 14 (by decide)).1;have C:=(j 14 (by decide)).2 51 rfl;replace H:Sp w0 (_::(Bk ((x 14).ownBlock.getD 0) 218 [.int .i64 2,.bool lb,.int .i64 out.length,.int .i64 b.length])::f) wx:=H;have hK:Hid (∀(v:Value) (w' : World),True->Sp w0 ((Row 218 4 v (bl.length+1) (Zj bl++[.int .i64 2,.bool lb,.int .i64 out.length,.int .i64 b.length]))::f) w'->K (A.put (some 52) v) w'):=hid g;clear g q j t i;obtain⟨g9,P⟩:=exq ((x 14).ownBlock.getD 0);rw [V] at C;rw [P] at C H;have a6:=b4.out;have a7:=b3.out;have c8:maxLen=9223372036854775807:=rfl;refine so ?_;refine Zi _ _ 126 rfl 218 i0 (.agg #[.int .i64 0,.bool false,.int .i64 0,.int .i64 0]) 4 32 Tryz.underlying126 hi a8 a9 b0 rfl (by decide) (.slice F bl.length G) bl.length (Zj bl) (ev U) H (some ⟨g9,0,none⟩) 1 1 [.int .i64 2,.bool lb,.int .i64 out.length,.int .i64 b.length] (ev C) rfl (Rd.of_blk (H.blk 1 rfl)) (by intro u hu; simp only [List.mem_cons,List.mem_nil_iff,or_false] at hu; rcases hu with rfl | rfl | rfl | rfl <;> rfl) (by omega) (by omega) ?_
          intro v1 w2 I _;exact hK.out _ _ trivial I.swap.tail
         case p18 =>
          intro x wx A f i q j t H K g;have d0:=tq j 17;have d1:True:=(j 15 (by decide)).1;have W:=(j 15 (by decide)).2 52 rfl;replace H:Sp w0 (_::(Row 218 4 (x 15) (bl.length+1) (Zj bl++[.int .i64 2,.bool lb,.int .i64 out.length,.int .i64 b.length]))::f) wx:=H;have hK:=hid g;clear g q j t i;have c:wx.cell? ⟨gx,3,none⟩=some (.slice F bl.length G):=H.cell 0 rfl 3;have z:wx.frozen? ⟨gx,3,none⟩=false:=H.frozen 0 rfl 3;obtain⟨A1,c9,ea,_,_⟩:=Row.form H 1 rfl;refine so ?_;rw [ea] at W H;go_step;exact hK.out _ _ rfl (Sp.ex (.slice A1 (bl.length+1) c9) (Sp.star (H.set 3 (.slice A1 (bl.length+1) c9))))
        case hend =>
         intro x wx A hA j H;replace H:Sp w0 (_::_::_::L) wx:=H;clear j;simp only [putAll,Act.put,List.setIfInBounds_toArray,List.set_cons_succ,List.set_cons_zero,Nat.reduceAdd] at hA;subst hA;obtain⟨u,H⟩:=H.unex;replace H:=H.unstar;have HX:=hid (H.pick 4 [2,0,3,1]);clear H B;go_wp2;go_ret;refine XPost.yes E.out ⟨rfl,.slice k b.length n,u,?_⟩;have ec:Zj (bl++[⟨2,lb,out.length,b.length⟩])=(Zj bl++[.int .i64 2,.bool lb,.int .i64 out.length,.int .i64 b.length]):=by simp [Zj]
         have h8:=HX.out;show Sp w0 (Rr gr l S::XpB gx gr (.slice k b.length n) most u::Row 5 1 (.slice k b.length n) b.length (cells8 b)::Row 218 4 u (bl.length+1) (Zj (bl++[⟨2,lb,out.length,b.length⟩]))::L) _;rw [ec];exact h8
     ·have g2:((N:Int) == 2)=false:=by rw [beq_eq_false_iff_ne]; omega
      have e5 : ¬ (N:Int)=2:=by omega
      have s:PI.body (PBits.ofB l) most N M out=.error 20:=by
       unfold PI.body;rw [if_neg h0,if_neg h1,if_neg h2]
      have E:Hid (T=.error 20):=hid (y.out 20 s);clear s O y;go_wp2;exact⟨rfl,XPost.no E.out (I.pick 4 [])⟩
end Go.Proofs.YtnjpnmpemhldcaaGreatDoor

