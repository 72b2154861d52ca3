/- A pack. -/
import Derived.Test.YtnjpnmpemhldcaaGreatDoorPk45
set_option linter.all false
set_option maxRecDepth 100000
set_option maxHeartbeats 8000000
namespace Go.Proofs.YtnjpnmpemhldcaaGreatDoor
variable {w0 w:World} {L:List Pr}
open Go.RowKit
def Zf (l:List PI.Blk):List Value:=l.flatMap fun b=>[.int .i64 b.kind,.bool b.last,.int .i64 b.from_,.int .i64 b.to_]
theorem infoB:(Tryz.prog.info? 218).map (fun i=>(i.zero,i.size,i.bytes))=some (some (.agg #[.int .i64 0,.bool false,.int .i64 0,.int .i64 0]),4,32):=by kernel_rfl
namespace PI
theorem block_step {B:List Bool} {most a x1 kd:Nat} {out:List UInt8} {r:Nat × List UInt8} (h1:number B a 1=.ok (a+1,x1)) (h2:number B (a+1) 2=.ok (a+1+2,kd)) (h3:body B most kd (a+1+2) out=.ok r):block B most a out=.ok (x1 == 1,kd,r.1,r.2):=by
 unfold block;rw [h1,bok]
 dsimp only
 rw [h2,bok]
 dsimp only
 rw [h3,bok]
theorem block_no {B:List Bool} {most a x1 kd c:Nat} {out:List UInt8} (h1:number B a 1=.ok (a+1,x1)) (h2:number B (a+1) 2=.ok (a+1+2,kd)) (h3:body B most kd (a+1+2) out=.error c):block B most a out=.error c:=by
 unfold block;rw [h1,bok]
 dsimp only
 rw [h2,bok]
 dsimp only
 rw [h3,bno]
end PI
theorem V8 (gx gr:Nat) (l out:List UInt8) (bl:List PI.Blk) (most at_:Nat) (vo vb:Value) (TL TA:Option Addr) (cl ca:Nat)
  (H:Sp w0 (Rr gr l at_::XpB gx gr vo most vb::Row 5 1 vo out.length (cells8 out)::Row 218 4 vb bl.length (Zf bl)::L) w) (ha:at_<=8 * l.length) (hl:l.length<=100000000) (ho:out.length<=most) (hm:most<=1000000000) (hbl:bl.length<=1000000000)
  (hT:Ent L (Tabs TL TA cl ca)) :
  Calls Tryz.prog 101 #[.pointer (some ⟨gx,0,none⟩)] w
   (XPost w0 L (PI.block (PBits.ofB l) most at_ out) fun r e w'=>e=.returned (.bool r.1)/\∃vo' vb',Sp w0 (Rr gr l r.2.2.1::XpB gx gr vo' most vb'::Row 5 1 vo' r.2.2.2.length (cells8 r.2.2.2)::Row 218 4 vb' (bl.length+1) (Zf (bl++[⟨r.2.1,r.1,out.length,r.2.2.2.length⟩]))::L) w'):=by
 obtain⟨i0,hi,a7,a8,a9⟩:=info_parts infoB;obtain⟨T,b0⟩:∃T,PI.block (PBits.ofB l) most at_ out=T:=⟨_,rfl⟩;rw [b0];have J:=hid b0;have HL:=hid hl;have b1:=hid hT;have HM:=hid hm;have b2:=hid hbl;obtain⟨VA,vc,rfl,d8,b7⟩:=Row.form H 2 rfl;obtain⟨B,vd,rfl,d9,b8⟩:=Row.form H 3 rfl;have e0:=hid b7;have b3:=hid b8;have HQ:=hid (Zu gx gr l most at_ 1 _ _ H ha (by omega) hl);clear b0 hT hm hbl hl b7 b8;go_enter Tryz.func101,Tryz.ntmps101
 go_wp2_with fail
 refine HQ.out.mono ?_;intro P w1 q;cases hr:PI.number (PBits.ofB l) at_ 1 with
 | error c =>
  rw [hr] at q;obtain⟨rfl,H1⟩:=q;have G:Hid (T=.error c):=by rw [<- J.out]; unfold PI.block; rw [hr]; exact hid rfl
  clear hr HQ J;go_wp2;exact⟨rfl,XPost.no G.out (H1.pick 2 [])⟩
 | ok r =>
  obtain⟨e1,Y⟩:=PI.number_ok hr;have d5:=PI.numAt_small (PBits.ofB l) at_ 1 1 (by omega);subst e1;obtain⟨x1,Q⟩:∃x,PI.numAt (PBits.ofB l) at_ 1=x:=⟨_,rfl⟩;rw [hr] at q;rw [Q] at hr q d5;rw [PBits.ofB_length] at Y;obtain⟨rfl,H1⟩:=q;simp only at H1;have W:=hid hr;have b4:=hid (Zu gx gr l most (at_+1) 2 _ _ H1 Y (by omega) HL.out);obtain⟨lb,b5⟩:∃lb,(x1 == 1)=lb:=⟨_,rfl⟩;have y1:((x1:Int) == 1)=lb:=by
   rw [<- b5];have:x1=0∨x1=1:=by omega
   rcases this with rfl | rfl <;> rfl
  have b9:=hid b5;clear hr Q HQ H b5;go_wp2_with fail
  refine b4.out.mono ?_;intro P w2 q;cases hr:PI.number (PBits.ofB l) (at_+1) 2 with
  | error c =>
   rw [hr] at q;obtain⟨rfl,I⟩:=q;have G:Hid (T=.error c):=by rw [<- J.out]; unfold PI.block; rw [W.out,PI.bok]; dsimp only; rw [hr]; exact hid rfl
   clear hr b4 J;go_wp2;exact⟨rfl,XPost.no G.out (I.pick 2 [])⟩
  | ok r =>
   obtain⟨e1,F⟩:=PI.number_ok hr;have d6:=PI.numAt_small (PBits.ofB l) (at_+1) 2 2 (by omega);subst e1;obtain⟨N,Q⟩:∃x,PI.numAt (PBits.ofB l) (at_+1) 2=x:=⟨_,rfl⟩;rw [hr] at q;rw [Q] at hr q d6;rw [PBits.ofB_length] at F;obtain⟨rfl,I⟩:=q;simp only at I;have b6:=hid hr;have Z:∀r,PI.body (PBits.ofB l) most N (at_+1+2) out=.ok r->T=.ok (lb,N,r.1,r.2):=fun r h=>by
    rw [<- J.out,PI.block_step W.out b6.out h,b9.out]
   have c0:∀c,PI.body (PBits.ofB l) most N (at_+1+2) out=.error c->T=.error c:=fun c h=>by
    rw [<- J.out,PI.block_no W.out b6.out h]
   have O:=hid Z;have C:=hid c0;obtain⟨a2,c2⟩:∃a2,at_+1+2=a2:=⟨_,rfl⟩;rw [c2] at I F O C;have c1:w2.cell? ⟨gx,1,none⟩=some (.slice VA out.length vc):=I.cell 1 rfl 1;clear hr Q b4 H1 W b6 J b9 Z c0 c2;by_cases h0:N=0
   ·subst h0;have hs:=WY gx gr l out most a2 _ _ I F HL.out ho HM.out;have R:=hid hs;clear hs;go_wp2_with fail
    refine R.out.mono ?_;intro P w3 q;have t:PI.body (PBits.ofB l) most 0 a2 out=PI.stored (PBits.ofB l) most a2 out:=rfl;unfold XPost at q;cases hr:PI.stored (PBits.ofB l) most a2 out with
    | error c =>
     rw [hr] at q;obtain⟨rfl,D⟩:=q;have G:Hid (T=.error c):=hid (C.out c (t.trans hr));clear hr R O C t;go_wp2;exact⟨rfl,XPost.no G.out (D.pick 1 [])⟩
    | ok r =>
     obtain⟨M,b⟩:=r;rw [hr] at q;obtain⟨rfl,c3,D⟩:=q;have G:Hid (T=.ok (lb,0,M,b)):=hid (O.out _ (t.trans hr));simp only at D;clear hr R O C t I c1;obtain⟨i,j,rfl,a0,a1⟩:=Row.form D 2 rfl;go_wp2_with fail
     refine Zb (L:=Rr gr l M::Row 5 1 (.slice i b.length j) b.length (cells8 b)::L) [some (.pointer (some ⟨gx,0,none⟩)),some (.pointer (some ⟨gx,0,none⟩)),some (.pointer (some ⟨gx,0,none⟩)),some (.pointer (some ⟨gx,3,none⟩)),some (.slice B bl.length vd),some (.int .i64 0),some (.bool lb),some (.int .i64 out.length),some (.pointer (some ⟨gx,0,none⟩)),some (.pointer (some ⟨gx,0,none⟩)),some (.pointer (some ⟨gx,1,none⟩)),some (.slice i b.length j),some (.int .i64 b.length),some (.agg #[.int .i64 0,.bool lb,.int .i64 out.length,.int .i64 b.length]),none,none,some (.pointer (some ⟨gx,0,none⟩)),some (.pointer (some ⟨gx,3,none⟩)),some (undef)] (fun ix vx=>match ix with | 14=>(fun v=>v=.slice (some ⟨v.ownBlock.getD 0,0,none⟩) 1 1) vx | 15=>(fun _=>True) vx | _=>True) (fun ix vx=>match ix with | 14=>(fun v=>[Bk (v.ownBlock.getD 0) 218 [.int .i64 0,.bool lb,.int .i64 out.length,.int .i64 b.length]]) vx | 15=>(fun v=>[Row 218 4 v (bl.length+1) (Zf bl++[.int .i64 0,.bool lb,.int .i64 out.length,.int .i64 b.length])]) vx | 18=>(fun _=>[Ex fun u=>Star (XpB gx gr (.slice i b.length j) most u) (Row 218 4 u (bl.length+1) (Zf bl++[.int .i64 0,.bool lb,.int .i64 out.length,.int .i64 b.length]))]) vx | _=>[]) (fun ix=>match ix with | 15=>[Row 218 4 (.slice B bl.length vd) bl.length (Zf bl)] | 18=>[XpB gx gr (.slice i b.length j) most (.slice B bl.length vd)] | _=>[]) 19 56
      [some 37,some 38,some 39,some 40,some 41,some 42,some 43,some 44,some 45,some 46,some 47,some 48,some 49,some 50,some 51,some 52,some 53,some 54,none]
      [[],[],[1],[2],[3],[],[],[],[],[8],[9],[10],[11],[5,6,7,12],[13],[4,14],[0,0,1,2,3,4,5,6,7,8,9,10,11,12,13,14,15],[16,0,1,2,3,4,5,6,7,8,9,10,11,12,13,14,15],[17,15,15,0,1,2,3,4,5,6,7,8,9,10,11,12,13,14,15]]
      [[],[],[1],[1,2],[1,2,3],[],[],[],[],[8],[8,9],[8,9,10],[8,9,10,11],[5,6,7,8,9,10,11,12],[5,6,7,8,9,10,11,12,13],[1,2,3,4,5,6,7,8,9,10,11,12,13,14],[0,1,2,3,4,5,6,7,8,9,10,11,12,13,14,15],[0,1,2,3,4,5,6,7,8,9,10,11,12,13,14,15,16],[0,1,2,3,4,5,6,7,8,9,10,11,12,13,14,15,16,17]]
      [[],[],[],[],[],[],[],[],[],[],[],[],[],[],[],[14],[],[],[15]] [[],[],[],[],[18],[],[],[],[],[],[],[18],[],[],[],[],[],[],[]] [(0,.pointer (some ⟨gx,0,none⟩)),(3,.bool lb),(4,.int .i64 0),(5,.int .i64 out.length)]
      (by kernel_rfl) rfl (by decide) (by rfl) (by decide +kernel) rfl rfl (by simp) (D.pick 4 [3,1,0,2]) ?hstep ?hend
     case hstep =>
      refine⟨?p0,⟨?p1,⟨?p2,⟨?p3,⟨?p4,⟨?p5,⟨?p6,⟨?p7,⟨?p8,⟨?p9,⟨?p10,⟨?p11,⟨?p12,⟨?p13,⟨?p14,⟨?p15,⟨?p16,⟨?p17,⟨?p18,trivial⟩⟩⟩⟩⟩⟩⟩⟩⟩⟩⟩⟩⟩⟩⟩⟩⟩⟩⟩
      case p0 | p1 | p2 | p3 | p5 | p6 | p7 | p8 | p9 | p10 | p12 | p13 | p16 | p17 =>
       intro x wx A f k s n y H K p;replace p:=hid p;clear n y k;repeat (obtain⟨_,s⟩:=s)
       refine so ?_;go_step;exact p.out _ _ rfl H
      case p4 =>
       intro x wx A f k s n y H K g;have c4:A.tmps[40]?.getD undef=.pointer (some ⟨gx,3,none⟩):=tq n 3;replace H:Sp w0 ((XpB gx gr (.slice i b.length j) most (.slice B bl.length vd))::f) wx:=H;have p:=hid g;clear g s n y k;have c:wx.cell? ⟨gx,3,none⟩=some (.slice B bl.length vd):=H.cell 0 rfl 3;refine so ?_;go_step;exact p.out _ _ rfl H
      case p11 =>
       intro x wx A f k s n y H K g;have c5:A.tmps[47]?.getD undef=.pointer (some ⟨gx,1,none⟩):=tq n 10;replace H:Sp w0 ((XpB gx gr (.slice i b.length j) most (.slice B bl.length vd))::f) wx:=H;have p:=hid g;clear g s n y k;have c:wx.cell? ⟨gx,1,none⟩=some (.slice i b.length j):=H.cell 0 rfl 1;refine so ?_;go_step;exact p.out _ _ rfl H
      case p14 =>
       intro x wx A f k s n y H K g;have c6:A.tmps[50]?.getD undef=.agg #[.int .i64 0,.bool lb,.int .i64 out.length,.int .i64 b.length]:=tq n 13;have p:=hid g;clear g s n y k;refine so ?_;go_step;exact p.out _ _ rfl (H.newBk _ _)
      case p15 =>
       intro x wx A f k s n y H K g;have S:A.tmps[41]?.getD undef=.slice B bl.length vd:=tq n 4;have U:(x 14)=.slice (some ⟨(x 14).ownBlock.getD 0,0,none⟩) 1 1:=(n 14 (by decide)).1;have E:A.tmps[51]?.getD undef=x 14:=(n 14 (by decide)).2 51 rfl;replace H:Sp w0 ((Row 218 4 (.slice B bl.length vd) bl.length (Zf bl))::(Bk ((x 14).ownBlock.getD 0) 218 [.int .i64 0,.bool lb,.int .i64 out.length,.int .i64 b.length])::f) wx:=H;have p:Hid (∀(v:Value) (w' : World),True->Sp w0 ((Row 218 4 v (bl.length+1) (Zf bl++[.int .i64 0,.bool lb,.int .i64 out.length,.int .i64 b.length]))::f) w'->K (A.put (some 52) v) w'):=hid g;clear g s n y k;obtain⟨g9,P⟩:∃g9,(x 14).ownBlock.getD 0=g9:=⟨_,rfl⟩;rw [U] at E;rw [P] at E H;have a5:=b3.out;have a6:=b2.out;have c7:maxLen=9223372036854775807:=rfl;refine so ?_;refine Zi _ _ 126 rfl 218 i0 (.agg #[.int .i64 0,.bool false,.int .i64 0,.int .i64 0]) 4 32 Tryz.underlying126 hi a7 a8 a9 rfl (by decide) (.slice B bl.length vd) bl.length (Zf bl) (ev S) H (some ⟨g9,0,none⟩) 1 1 [.int .i64 0,.bool lb,.int .i64 out.length,.int .i64 b.length] (ev E) rfl (Rd.of_blk (H.blk 1 rfl)) (by intro u hu; simp only [List.mem_cons,List.mem_nil_iff,or_false] at hu; rcases hu with rfl | rfl | rfl | rfl <;> rfl) (by omega) (by omega) ?_
       intro v1 w2 I _;exact p.out _ _ trivial I.swap.tail
      case p18 =>
       intro x wx A f k s n y H K g;have c8:A.tmps[54]?.getD undef=.pointer (some ⟨gx,3,none⟩):=tq n 17;have d0:True:=(n 15 (by decide)).1;have V:A.tmps[52]?.getD undef=x 15:=(n 15 (by decide)).2 52 rfl;replace H:Sp w0 ((XpB gx gr (.slice i b.length j) most (.slice B bl.length vd))::(Row 218 4 (x 15) (bl.length+1) (Zf bl++[.int .i64 0,.bool lb,.int .i64 out.length,.int .i64 b.length]))::f) wx:=H;have p:=hid g;clear g s n y k;have c:wx.cell? ⟨gx,3,none⟩=some (.slice B bl.length vd):=H.cell 0 rfl 3;have z:wx.frozen? ⟨gx,3,none⟩=false:=H.frozen 0 rfl 3;obtain⟨A1,c9,ea,_,_⟩:=Row.form H 1 rfl;refine so ?_;rw [ea] at V H;go_step;exact p.out _ _ rfl (Sp.ex (.slice A1 (bl.length+1) c9) (Sp.star (H.set 3 (.slice A1 (bl.length+1) c9))))
     case hend =>
      intro x wx A hA n H;replace H:Sp w0 ((Ex fun u=>Star (XpB gx gr (.slice i b.length j) most u) (Row 218 4 u (bl.length+1) (Zf bl++[.int .i64 0,.bool lb,.int .i64 out.length,.int .i64 b.length])))::Rr gr l M::Row 5 1 (.slice i b.length j) b.length (cells8 b)::L) wx:=H;clear n;simp only [putAll,Act.put,List.setIfInBounds_toArray,List.set_cons_succ,List.set_cons_zero,Nat.reduceAdd] at hA;subst hA;obtain⟨u,H⟩:=H.unex;replace H:=H.unstar;have HX:=hid (H.pick 4 [2,0,3,1]);clear H D;go_wp2;go_ret;refine XPost.yes G.out ⟨rfl,.slice i b.length j,u,?_⟩;have ec:Zf (bl++[⟨0,lb,out.length,b.length⟩])=(Zf bl++[.int .i64 0,.bool lb,.int .i64 out.length,.int .i64 b.length]):=by simp [Zf]
      have h8:=HX.out;show Sp w0 (Rr gr l M::XpB gx gr (.slice i b.length j) most u::Row 5 1 (.slice i b.length j) b.length (cells8 b)::Row 218 4 u (bl.length+1) (Zf (bl++[⟨0,lb,out.length,b.length⟩]))::L) _;rw [ec];exact h8
   ·have g0:((N:Int) == 0)=false:=by rw [beq_eq_false_iff_ne]; omega
    have e2 : ¬ (N:Int)=0:=by omega
    by_cases h1:N=1
    ·subst h1;go_wp2_with fail
     refine(xfixed_ok I).mono ?_;rintro _ w4 ⟨g1,g2,rfl,H4⟩;have hs:=YQ gx gr g1 g2 l out most a2 _ _ PI.fixedL PI.fixedD TL TA cl ca (H4.pick 6 [2,3,1,0,4,5]) F HL.out ho HM.out PI.fixed_sum PI.fixed_sumD (by decide) (by decide) (fun w0 w h=>b1.out w0 w (h.pick 1 []));have R:=hid hs;clear hs;go_wp2_with fail
     refine R.out.mono ?_;intro P w3 q;have t:PI.body (PBits.ofB l) most 1 a2 out=PI.pressed (PBits.ofB l) most PI.fixedL PI.fixedD ((PBits.ofB l).length+1) a2 out:=rfl;unfold XPost at q;cases hr:PI.pressed (PBits.ofB l) most PI.fixedL PI.fixedD ((PBits.ofB l).length+1) a2 out with
     | error c =>
      rw [hr] at q;obtain⟨rfl,D⟩:=q;have G:Hid (T=.error c):=hid (C.out c (t.trans hr));clear hr R O C t;go_wp2;exact⟨rfl,XPost.no G.out (D.pick 1 [])⟩
     | ok r =>
      obtain⟨M,b⟩:=r;rw [hr] at q;obtain⟨rfl,c3,D⟩:=q;have G:Hid (T=.ok (lb,1,M,b)):=hid (O.out _ (t.trans hr));replace D:=D.pick 6 [0,1,4,5];simp only at D;clear hr R O C t I c1 H4;obtain⟨i,j,rfl,a0,a1⟩:=Row.form D 2 rfl;go_wp2_with fail
      refine Zb (L:=Rr gr l M::Row 5 1 (.slice i b.length j) b.length (cells8 b)::L) [some (.pointer (some ⟨gx,0,none⟩)),some (.pointer (some ⟨gx,0,none⟩)),some (.pointer (some ⟨gx,0,none⟩)),some (.pointer (some ⟨gx,3,none⟩)),some (.slice B bl.length vd),some (.int .i64 1),some (.bool lb),some (.int .i64 out.length),some (.pointer (some ⟨gx,0,none⟩)),some (.pointer (some ⟨gx,0,none⟩)),some (.pointer (some ⟨gx,1,none⟩)),some (.slice i b.length j),some (.int .i64 b.length),some (.agg #[.int .i64 1,.bool lb,.int .i64 out.length,.int .i64 b.length]),none,none,some (.pointer (some ⟨gx,0,none⟩)),some (.pointer (some ⟨gx,3,none⟩)),some (undef)] (fun ix vx=>match ix with | 14=>(fun v=>v=.slice (some ⟨v.ownBlock.getD 0,0,none⟩) 1 1) vx | 15=>(fun _=>True) vx | _=>True) (fun ix vx=>match ix with | 14=>(fun v=>[Bk (v.ownBlock.getD 0) 218 [.int .i64 1,.bool lb,.int .i64 out.length,.int .i64 b.length]]) vx | 15=>(fun v=>[Row 218 4 v (bl.length+1) (Zf bl++[.int .i64 1,.bool lb,.int .i64 out.length,.int .i64 b.length])]) vx | 18=>(fun _=>[Ex fun u=>Star (XpB gx gr (.slice i b.length j) most u) (Row 218 4 u (bl.length+1) (Zf bl++[.int .i64 1,.bool lb,.int .i64 out.length,.int .i64 b.length]))]) vx | _=>[]) (fun ix=>match ix with | 15=>[Row 218 4 (.slice B bl.length vd) bl.length (Zf bl)] | 18=>[XpB gx gr (.slice i b.length j) most (.slice B bl.length vd)] | _=>[]) 19 56
       [some 37,some 38,some 39,some 40,some 41,some 42,some 43,some 44,some 45,some 46,some 47,some 48,some 49,some 50,some 51,some 52,some 53,some 54,none]
       [[],[],[1],[2],[3],[],[],[],[],[8],[9],[10],[11],[5,6,7,12],[13],[4,14],[0,0,1,2,3,4,5,6,7,8,9,10,11,12,13,14,15],[16,0,1,2,3,4,5,6,7,8,9,10,11,12,13,14,15],[17,15,15,0,1,2,3,4,5,6,7,8,9,10,11,12,13,14,15]]
       [[],[],[1],[1,2],[1,2,3],[],[],[],[],[8],[8,9],[8,9,10],[8,9,10,11],[5,6,7,8,9,10,11,12],[5,6,7,8,9,10,11,12,13],[1,2,3,4,5,6,7,8,9,10,11,12,13,14],[0,1,2,3,4,5,6,7,8,9,10,11,12,13,14,15],[0,1,2,3,4,5,6,7,8,9,10,11,12,13,14,15,16],[0,1,2,3,4,5,6,7,8,9,10,11,12,13,14,15,16,17]]
       [[],[],[],[],[],[],[],[],[],[],[],[],[],[],[],[14],[],[],[15]] [[],[],[],[],[18],[],[],[],[],[],[],[18],[],[],[],[],[],[],[]] [(0,.pointer (some ⟨gx,0,none⟩)),(3,.bool lb),(4,.int .i64 1),(5,.int .i64 out.length)]
       (by kernel_rfl) rfl (by decide) (by rfl) (by decide +kernel) rfl rfl (by simp) (D.pick 4 [3,1,0,2]) ?hstep ?hend
      case hstep =>
       refine⟨?p0,⟨?p1,⟨?p2,⟨?p3,⟨?p4,⟨?p5,⟨?p6,⟨?p7,⟨?p8,⟨?p9,⟨?p10,⟨?p11,⟨?p12,⟨?p13,⟨?p14,⟨?p15,⟨?p16,⟨?p17,⟨?p18,trivial⟩⟩⟩⟩⟩⟩⟩⟩⟩⟩⟩⟩⟩⟩⟩⟩⟩⟩⟩
       case p0 | p1 | p2 | p3 | p5 | p6 | p7 | p8 | p9 | p10 | p12 | p13 | p16 | p17 =>
        intro x wx A f k s n y H K p;replace p:=hid p;clear n y k;repeat (obtain⟨_,s⟩:=s)
        refine so ?_;go_step;exact p.out _ _ rfl H
       case p4 =>
        intro x wx A f k s n y H K g;have c4:A.tmps[40]?.getD undef=.pointer (some ⟨gx,3,none⟩):=tq n 3;replace H:Sp w0 ((XpB gx gr (.slice i b.length j) most (.slice B bl.length vd))::f) wx:=H;have p:=hid g;clear g s n y k;have c:wx.cell? ⟨gx,3,none⟩=some (.slice B bl.length vd):=H.cell 0 rfl 3;refine so ?_;go_step;exact p.out _ _ rfl H
       case p11 =>
        intro x wx A f k s n y H K g;have c5:A.tmps[47]?.getD undef=.pointer (some ⟨gx,1,none⟩):=tq n 10;replace H:Sp w0 ((XpB gx gr (.slice i b.length j) most (.slice B bl.length vd))::f) wx:=H;have p:=hid g;clear g s n y k;have c:wx.cell? ⟨gx,1,none⟩=some (.slice i b.length j):=H.cell 0 rfl 1;refine so ?_;go_step;exact p.out _ _ rfl H
       case p14 =>
        intro x wx A f k s n y H K g;have c6:A.tmps[50]?.getD undef=.agg #[.int .i64 1,.bool lb,.int .i64 out.length,.int .i64 b.length]:=tq n 13;have p:=hid g;clear g s n y k;refine so ?_;go_step;exact p.out _ _ rfl (H.newBk _ _)
       case p15 =>
        intro x wx A f k s n y H K g;have S:A.tmps[41]?.getD undef=.slice B bl.length vd:=tq n 4;have U:(x 14)=.slice (some ⟨(x 14).ownBlock.getD 0,0,none⟩) 1 1:=(n 14 (by decide)).1;have E:A.tmps[51]?.getD undef=x 14:=(n 14 (by decide)).2 51 rfl;replace H:Sp w0 ((Row 218 4 (.slice B bl.length vd) bl.length (Zf bl))::(Bk ((x 14).ownBlock.getD 0) 218 [.int .i64 1,.bool lb,.int .i64 out.length,.int .i64 b.length])::f) wx:=H;have p:Hid (∀(v:Value) (w' : World),True->Sp w0 ((Row 218 4 v (bl.length+1) (Zf bl++[.int .i64 1,.bool lb,.int .i64 out.length,.int .i64 b.length]))::f) w'->K (A.put (some 52) v) w'):=hid g;clear g s n y k;obtain⟨g9,P⟩:∃g9,(x 14).ownBlock.getD 0=g9:=⟨_,rfl⟩;rw [U] at E;rw [P] at E H;have a5:=b3.out;have a6:=b2.out;have c7:maxLen=9223372036854775807:=rfl;refine so ?_;refine Zi _ _ 126 rfl 218 i0 (.agg #[.int .i64 0,.bool false,.int .i64 0,.int .i64 0]) 4 32 Tryz.underlying126 hi a7 a8 a9 rfl (by decide) (.slice B bl.length vd) bl.length (Zf bl) (ev S) H (some ⟨g9,0,none⟩) 1 1 [.int .i64 1,.bool lb,.int .i64 out.length,.int .i64 b.length] (ev E) rfl (Rd.of_blk (H.blk 1 rfl)) (by intro u hu; simp only [List.mem_cons,List.mem_nil_iff,or_false] at hu; rcases hu with rfl | rfl | rfl | rfl <;> rfl) (by omega) (by omega) ?_
        intro v1 w2 I _;exact p.out _ _ trivial I.swap.tail
       case p18 =>
        intro x wx A f k s n y H K g;have c8:A.tmps[54]?.getD undef=.pointer (some ⟨gx,3,none⟩):=tq n 17;have d0:True:=(n 15 (by decide)).1;have V:A.tmps[52]?.getD undef=x 15:=(n 15 (by decide)).2 52 rfl;replace H:Sp w0 ((XpB gx gr (.slice i b.length j) most (.slice B bl.length vd))::(Row 218 4 (x 15) (bl.length+1) (Zf bl++[.int .i64 1,.bool lb,.int .i64 out.length,.int .i64 b.length]))::f) wx:=H;have p:=hid g;clear g s n y k;have c:wx.cell? ⟨gx,3,none⟩=some (.slice B bl.length vd):=H.cell 0 rfl 3;have z:wx.frozen? ⟨gx,3,none⟩=false:=H.frozen 0 rfl 3;obtain⟨A1,c9,ea,_,_⟩:=Row.form H 1 rfl;refine so ?_;rw [ea] at V H;go_step;exact p.out _ _ rfl (Sp.ex (.slice A1 (bl.length+1) c9) (Sp.star (H.set 3 (.slice A1 (bl.length+1) c9))))
      case hend =>
       intro x wx A hA n H;replace H:Sp w0 ((Ex fun u=>Star (XpB gx gr (.slice i b.length j) most u) (Row 218 4 u (bl.length+1) (Zf bl++[.int .i64 1,.bool lb,.int .i64 out.length,.int .i64 b.length])))::Rr gr l M::Row 5 1 (.slice i b.length j) b.length (cells8 b)::L) wx:=H;clear n;simp only [putAll,Act.put,List.setIfInBounds_toArray,List.set_cons_succ,List.set_cons_zero,Nat.reduceAdd] at hA;subst hA;obtain⟨u,H⟩:=H.unex;replace H:=H.unstar;have HX:=hid (H.pick 4 [2,0,3,1]);clear H D;go_wp2;go_ret;refine XPost.yes G.out ⟨rfl,.slice i b.length j,u,?_⟩;have ec:Zf (bl++[⟨1,lb,out.length,b.length⟩])=(Zf bl++[.int .i64 1,.bool lb,.int .i64 out.length,.int .i64 b.length]):=by simp [Zf]
       have h8:=HX.out;show Sp w0 (Rr gr l M::XpB gx gr (.slice i b.length j) most u::Row 5 1 (.slice i b.length j) b.length (cells8 b)::Row 218 4 u (bl.length+1) (Zf (bl++[⟨1,lb,out.length,b.length⟩]))::L) _;rw [ec];exact h8
    ·have g1:((N:Int) == 1)=false:=by rw [beq_eq_false_iff_ne]; omega
     have e3 : ¬ (N:Int)=1:=by omega
     by_cases h2:N=2
     ·subst h2;have hd:=TK gx gr l most a2 _ _ TL TA cl ca I F HL.out (fun w0 w h=>b1.out w0 w (h.pick 2 []));have HD:=hid hd;clear hd;go_wp2_with fail
      refine HD.out.mono ?_;intro P w4 q;unfold XPost at q;cases hr:PI.dynamic (PBits.ofB l) a2 with
      | error c =>
       rw [hr] at q;obtain⟨rfl,D⟩:=q;have t:PI.body (PBits.ofB l) most 2 a2 out=.error c:=by
        show(PI.dynamic _ _).bind _=_;rw [hr]; rfl
       have G:Hid (T=.error c):=hid (C.out c t);clear hr HD O C t;go_wp2;exact⟨rfl,XPost.no G.out (D.pick 2 [])⟩
      | ok r =>
       obtain⟨a4,m,d⟩:=r;rw [hr] at q;obtain⟨g1,g2,rfl,H4⟩:=q;simp only at H4;obtain⟨d1,d2,d3,d4⟩:=PI.dynamic_ok hr;have d7:a4<=8 * l.length:=by
        have:=(PI.Fine.dynamic (a:=a2) (o:=0)).pos (PBits.ofB l) 0 (by rw [PBits.ofB_length]; exact F) (Nat.zero_le _) _ hr;have q:=this.2.1;rw [PBits.ofB_length] at q;exact q
       have hs:=YQ gx gr g1 g2 l out most a4 _ _ m d TL TA cl ca (H4.pick 6 [2,3,1,0,4,5]) d7 HL.out ho HM.out (PI.book_sum d1) (PI.book_sum d2) d3 d4 (fun w0 w h=>b1.out w0 w (h.pick 1 []));have R:=hid hs;have t:PI.body (PBits.ofB l) most 2 a2 out=PI.pressed (PBits.ofB l) most m d ((PBits.ofB l).length+1) a4 out:=by
        show(PI.dynamic _ _).bind _=_;rw [hr]; rfl
       have X:=hid t;clear hs hr HD d1 d2 d3 d4 t;go_wp2_with fail
       refine R.out.mono ?_;intro P w3 q;unfold XPost at q;cases hr:PI.pressed (PBits.ofB l) most m d ((PBits.ofB l).length+1) a4 out with
       | error c =>
        rw [hr] at q;obtain⟨rfl,D⟩:=q;have G:Hid (T=.error c):=hid (C.out c (X.out.trans hr));clear hr R O C X;go_wp2;exact⟨rfl,XPost.no G.out (D.pick 1 [])⟩
       | ok r =>
        obtain⟨M,b⟩:=r;rw [hr] at q;obtain⟨rfl,c3,D⟩:=q;have G:Hid (T=.ok (lb,2,M,b)):=hid (O.out _ (X.out.trans hr));replace D:=D.pick 6 [0,1,4,5];simp only at D;clear hr R O C X I c1 H4;obtain⟨i,j,rfl,a0,a1⟩:=Row.form D 2 rfl;go_wp2_with fail
        refine Zb (L:=Rr gr l M::Row 5 1 (.slice i b.length j) b.length (cells8 b)::L) [some (.pointer (some ⟨gx,0,none⟩)),some (.pointer (some ⟨gx,0,none⟩)),some (.pointer (some ⟨gx,0,none⟩)),some (.pointer (some ⟨gx,3,none⟩)),some (.slice B bl.length vd),some (.int .i64 2),some (.bool lb),some (.int .i64 out.length),some (.pointer (some ⟨gx,0,none⟩)),some (.pointer (some ⟨gx,0,none⟩)),some (.pointer (some ⟨gx,1,none⟩)),some (.slice i b.length j),some (.int .i64 b.length),some (.agg #[.int .i64 2,.bool lb,.int .i64 out.length,.int .i64 b.length]),none,none,some (.pointer (some ⟨gx,0,none⟩)),some (.pointer (some ⟨gx,3,none⟩)),some (undef)] (fun ix vx=>match ix with | 14=>(fun v=>v=.slice (some ⟨v.ownBlock.getD 0,0,none⟩) 1 1) vx | 15=>(fun _=>True) vx | _=>True) (fun ix vx=>match ix with | 14=>(fun v=>[Bk (v.ownBlock.getD 0) 218 [.int .i64 2,.bool lb,.int .i64 out.length,.int .i64 b.length]]) vx | 15=>(fun v=>[Row 218 4 v (bl.length+1) (Zf bl++[.int .i64 2,.bool lb,.int .i64 out.length,.int .i64 b.length])]) vx | 18=>(fun _=>[Ex fun u=>Star (XpB gx gr (.slice i b.length j) most u) (Row 218 4 u (bl.length+1) (Zf bl++[.int .i64 2,.bool lb,.int .i64 out.length,.int .i64 b.length]))]) vx | _=>[]) (fun ix=>match ix with | 15=>[Row 218 4 (.slice B bl.length vd) bl.length (Zf bl)] | 18=>[XpB gx gr (.slice i b.length j) most (.slice B bl.length vd)] | _=>[]) 19 56
         [some 37,some 38,some 39,some 40,some 41,some 42,some 43,some 44,some 45,some 46,some 47,some 48,some 49,some 50,some 51,some 52,some 53,some 54,none]
         [[],[],[1],[2],[3],[],[],[],[],[8],[9],[10],[11],[5,6,7,12],[13],[4,14],[0,0,1,2,3,4,5,6,7,8,9,10,11,12,13,14,15],[16,0,1,2,3,4,5,6,7,8,9,10,11,12,13,14,15],[17,15,15,0,1,2,3,4,5,6,7,8,9,10,11,12,13,14,15]]
         [[],[],[1],[1,2],[1,2,3],[],[],[],[],[8],[8,9],[8,9,10],[8,9,10,11],[5,6,7,8,9,10,11,12],[5,6,7,8,9,10,11,12,13],[1,2,3,4,5,6,7,8,9,10,11,12,13,14],[0,1,2,3,4,5,6,7,8,9,10,11,12,13,14,15],[0,1,2,3,4,5,6,7,8,9,10,11,12,13,14,15,16],[0,1,2,3,4,5,6,7,8,9,10,11,12,13,14,15,16,17]]
         [[],[],[],[],[],[],[],[],[],[],[],[],[],[],[],[14],[],[],[15]] [[],[],[],[],[18],[],[],[],[],[],[],[18],[],[],[],[],[],[],[]] [(0,.pointer (some ⟨gx,0,none⟩)),(3,.bool lb),(4,.int .i64 2),(5,.int .i64 out.length)]
         (by kernel_rfl) rfl (by decide) (by rfl) (by decide +kernel) rfl rfl (by simp) (D.pick 4 [3,1,0,2]) ?hstep ?hend
        case hstep =>
         refine⟨?p0,⟨?p1,⟨?p2,⟨?p3,⟨?p4,⟨?p5,⟨?p6,⟨?p7,⟨?p8,⟨?p9,⟨?p10,⟨?p11,⟨?p12,⟨?p13,⟨?p14,⟨?p15,⟨?p16,⟨?p17,⟨?p18,trivial⟩⟩⟩⟩⟩⟩⟩⟩⟩⟩⟩⟩⟩⟩⟩⟩⟩⟩⟩
         case p0 | p1 | p2 | p3 | p5 | p6 | p7 | p8 | p9 | p10 | p12 | p13 | p16 | p17 =>
          intro x wx A f k s n y H K p;replace p:=hid p;clear n y k;repeat (obtain⟨_,s⟩:=s)
          refine so ?_;go_step;exact p.out _ _ rfl H
         case p4 =>
          intro x wx A f k s n y H K g;have c4:A.tmps[40]?.getD undef=.pointer (some ⟨gx,3,none⟩):=tq n 3;replace H:Sp w0 ((XpB gx gr (.slice i b.length j) most (.slice B bl.length vd))::f) wx:=H;have p:=hid g;clear g s n y k;have c:wx.cell? ⟨gx,3,none⟩=some (.slice B bl.length vd):=H.cell 0 rfl 3;refine so ?_;go_step;exact p.out _ _ rfl H
         case p11 =>
          intro x wx A f k s n y H K g;have c5:A.tmps[47]?.getD undef=.pointer (some ⟨gx,1,none⟩):=tq n 10;replace H:Sp w0 ((XpB gx gr (.slice i b.length j) most (.slice B bl.length vd))::f) wx:=H;have p:=hid g;clear g s n y k;have c:wx.cell? ⟨gx,1,none⟩=some (.slice i b.length j):=H.cell 0 rfl 1;refine so ?_;go_step;exact p.out _ _ rfl H
         case p14 =>
          intro x wx A f k s n y H K g;have c6:A.tmps[50]?.getD undef=.agg #[.int .i64 2,.bool lb,.int .i64 out.length,.int .i64 b.length]:=tq n 13;have p:=hid g;clear g s n y k;refine so ?_;go_step;exact p.out _ _ rfl (H.newBk _ _)
         case p15 =>
          intro x wx A f k s n y H K g;have S:A.tmps[41]?.getD undef=.slice B bl.length vd:=tq n 4;have U:(x 14)=.slice (some ⟨(x 14).ownBlock.getD 0,0,none⟩) 1 1:=(n 14 (by decide)).1;have E:A.tmps[51]?.getD undef=x 14:=(n 14 (by decide)).2 51 rfl;replace H:Sp w0 ((Row 218 4 (.slice B bl.length vd) bl.length (Zf bl))::(Bk ((x 14).ownBlock.getD 0) 218 [.int .i64 2,.bool lb,.int .i64 out.length,.int .i64 b.length])::f) wx:=H;have p:Hid (∀(v:Value) (w' : World),True->Sp w0 ((Row 218 4 v (bl.length+1) (Zf bl++[.int .i64 2,.bool lb,.int .i64 out.length,.int .i64 b.length]))::f) w'->K (A.put (some 52) v) w'):=hid g;clear g s n y k;obtain⟨g9,P⟩:∃g9,(x 14).ownBlock.getD 0=g9:=⟨_,rfl⟩;rw [U] at E;rw [P] at E H;have a5:=b3.out;have a6:=b2.out;have c7:maxLen=9223372036854775807:=rfl;refine so ?_;refine Zi _ _ 126 rfl 218 i0 (.agg #[.int .i64 0,.bool false,.int .i64 0,.int .i64 0]) 4 32 Tryz.underlying126 hi a7 a8 a9 rfl (by decide) (.slice B bl.length vd) bl.length (Zf bl) (ev S) H (some ⟨g9,0,none⟩) 1 1 [.int .i64 2,.bool lb,.int .i64 out.length,.int .i64 b.length] (ev E) rfl (Rd.of_blk (H.blk 1 rfl)) (by intro u hu; simp only [List.mem_cons,List.mem_nil_iff,or_false] at hu; rcases hu with rfl | rfl | rfl | rfl <;> rfl) (by omega) (by omega) ?_
          intro v1 w2 I _;exact p.out _ _ trivial I.swap.tail
         case p18 =>
          intro x wx A f k s n y H K g;have c8:A.tmps[54]?.getD undef=.pointer (some ⟨gx,3,none⟩):=tq n 17;have d0:True:=(n 15 (by decide)).1;have V:A.tmps[52]?.getD undef=x 15:=(n 15 (by decide)).2 52 rfl;replace H:Sp w0 ((XpB gx gr (.slice i b.length j) most (.slice B bl.length vd))::(Row 218 4 (x 15) (bl.length+1) (Zf bl++[.int .i64 2,.bool lb,.int .i64 out.length,.int .i64 b.length]))::f) wx:=H;have p:=hid g;clear g s n y k;have c:wx.cell? ⟨gx,3,none⟩=some (.slice B bl.length vd):=H.cell 0 rfl 3;have z:wx.frozen? ⟨gx,3,none⟩=false:=H.frozen 0 rfl 3;obtain⟨A1,c9,ea,_,_⟩:=Row.form H 1 rfl;refine so ?_;rw [ea] at V H;go_step;exact p.out _ _ rfl (Sp.ex (.slice A1 (bl.length+1) c9) (Sp.star (H.set 3 (.slice A1 (bl.length+1) c9))))
        case hend =>
         intro x wx A hA n H;replace H:Sp w0 ((Ex fun u=>Star (XpB gx gr (.slice i b.length j) most u) (Row 218 4 u (bl.length+1) (Zf bl++[.int .i64 2,.bool lb,.int .i64 out.length,.int .i64 b.length])))::Rr gr l M::Row 5 1 (.slice i b.length j) b.length (cells8 b)::L) wx:=H;clear n;simp only [putAll,Act.put,List.setIfInBounds_toArray,List.set_cons_succ,List.set_cons_zero,Nat.reduceAdd] at hA;subst hA;obtain⟨u,H⟩:=H.unex;replace H:=H.unstar;have HX:=hid (H.pick 4 [2,0,3,1]);clear H D;go_wp2;go_ret;refine XPost.yes G.out ⟨rfl,.slice i b.length j,u,?_⟩;have ec:Zf (bl++[⟨2,lb,out.length,b.length⟩])=(Zf bl++[.int .i64 2,.bool lb,.int .i64 out.length,.int .i64 b.length]):=by simp [Zf]
         have h8:=HX.out;show Sp w0 (Rr gr l M::XpB gx gr (.slice i b.length j) most u::Row 5 1 (.slice i b.length j) b.length (cells8 b)::Row 218 4 u (bl.length+1) (Zf (bl++[⟨2,lb,out.length,b.length⟩]))::L) _;rw [ec];exact h8
     ·have g2:((N:Int) == 2)=false:=by rw [beq_eq_false_iff_ne]; omega
      have e4 : ¬ (N:Int)=2:=by omega
      have t:PI.body (PBits.ofB l) most N a2 out=.error 20:=by
       unfold PI.body;rw [if_neg h0,if_neg h1,if_neg h2]
      have G:Hid (T=.error 20):=hid (C.out 20 t);clear t O C;go_wp2;exact⟨rfl,XPost.no G.out (I.pick 4 [])⟩
end Go.Proofs.YtnjpnmpemhldcaaGreatDoor

