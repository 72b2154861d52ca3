/- A pack. -/
import Derived.Test.YteajimobgkempaaDoorPk31
set_option linter.all false
set_option maxRecDepth 100000
set_option maxHeartbeats 8000000
namespace Go.Proofs.YteajimobgkempaaDoor
variable {w0 w:World} {L:List Pr}
open Go.RowKit
def Zc (l:List PI.Blk):List Value:=l.flatMap fun b=>[.int .i64 b.kind,.bool b.last,.int .i64 b.from_,.int .i64 b.to_]
theorem infoB:(Tryd.prog.info? 71).map (fun i=>(i.zero,i.size,i.bytes))=some (some (.agg #[.int .i64 0,.bool false,.int .i64 0,.int .i64 0]),4,32):=by kernel_rfl
namespace PI
theorem block_step {B:List Bool} {most a x1 kd:Nat} {out:List UInt8} {r:Nat × List UInt8} (h1:number B a 1=.ok (a+1,x1)) (h2:number B (a+1) 2=.ok (a+1+2,kd)) (h3:body B most kd (a+1+2) out=.ok r):block B most a out=.ok (x1 == 1,kd,r.1,r.2):=by
 unfold block;rw [h1,bok]
 dsimp only
 rw [h2,bok]
 dsimp only
 rw [h3,bok]
theorem block_no {B:List Bool} {most a x1 kd c:Nat} {out:List UInt8} (h1:number B a 1=.ok (a+1,x1)) (h2:number B (a+1) 2=.ok (a+1+2,kd)) (h3:body B most kd (a+1+2) out=.error c):block B most a out=.error c:=by
 unfold block;rw [h1,bok]
 dsimp only
 rw [h2,bok]
 dsimp only
 rw [h3,bno]
end PI
theorem Wm (gx gr:Nat) (l out:List UInt8) (bl:List PI.Blk) (most at_:Nat) (vo vb:Value) (TL TA:Option Addr) (cl ca:Nat)
  (H:Sp w0 (Rr gr l at_::XpB gx gr vo most vb::Row 5 1 vo out.length (cells8 out)::Row 71 4 vb bl.length (Zc bl)::L) w) (ha:at_<=8 * l.length) (hl:l.length<=100000000) (ho:out.length<=most) (hm:most<=1000000000) (hbl:bl.length<=1000000000)
  (hT:Ent L (Tabs TL TA cl ca)) :
  Calls Tryd.prog 62 #[.pointer (some ⟨gx,0,none⟩)] w
   (XPost w0 L (PI.block (PBits.ofB l) most at_ out) fun r e w'=>e=.returned (.bool r.1)/\∃vo' vb',Sp w0 (Rr gr l r.2.2.1::XpB gx gr vo' most vb'::Row 5 1 vo' r.2.2.2.length (cells8 r.2.2.2)::Row 71 4 vb' (bl.length+1) (Zc (bl++[⟨r.2.1,r.1,out.length,r.2.2.2.length⟩]))::L) w'):=by
 obtain⟨i0,hi,a9,b0,b1⟩:=info_parts infoB;obtain⟨T,b2⟩:=exq (PI.block (PBits.ofB l) most at_ out);rw [b2];have M:=hid b2;have HL:=hid hl;have b3:=hid hT;have HM:=hid hm;have b4:=hid hbl;obtain⟨VA,vc,rfl,e0,b9⟩:=Row.form H 2 rfl;obtain⟨G,I,rfl,e2,c0⟩:=Row.form H 3 rfl;have e3:=hid b9;have b5:=hid c0;have HQ:=hid (Zl gx gr l most at_ 1 _ _ H ha (by omega) hl);clear b2 hT hm hbl hl b9 c0;go_enter Tryd.func62,Tryd.ntmps62
 go_wp2_with fail
 refine HQ.out.mono ?_;intro Q w1 q;cases hr:PI.number (PBits.ofB l) at_ 1 with
 | error c =>
  rw [hr] at q;obtain⟨rfl,H1⟩:=q;have F:Hid (T=.error c):=by rw [<- M.out]; unfold PI.block; rw [hr]; exact hid rfl
  clear hr HQ M;go_wp2;exact⟨rfl,XPost.no F.out (H1.pick 2 [])⟩
 | ok r =>
  obtain⟨e1,a0⟩:=PI.number_ok hr;have d7:=PI.numAt_small (PBits.ofB l) at_ 1 1 (by omega);subst e1;obtain⟨x1,R⟩:=exq (PI.numAt (PBits.ofB l) at_ 1);rw [hr] at q;rw [R] at hr q d7;rw [PBits.ofB_length] at a0;obtain⟨rfl,H1⟩:=q;simp only at H1;have Y:=hid hr;have b6:=hid (Zl gx gr l most (at_+1) 2 _ _ H1 a0 (by omega) HL.out);obtain⟨lb,b7⟩:=exq ((x1 == 1));have y1:((x1:Int) == 1)=lb:=by
   rw [<- b7];have:x1=0∨x1=1:=by omega
   rcases this with rfl | rfl <;> rfl
  have c2:=hid b7;clear hr R HQ H b7;go_wp2_with fail
  refine b6.out.mono ?_;intro Q w2 q;cases hr:PI.number (PBits.ofB l) (at_+1) 2 with
  | error c =>
   rw [hr] at q;obtain⟨rfl,J⟩:=q;have F:Hid (T=.error c):=by rw [<- M.out]; unfold PI.block; rw [Y.out,PI.bok]; dsimp only; rw [hr]; exact hid rfl
   clear hr b6 M;go_wp2;exact⟨rfl,XPost.no F.out (J.pick 2 [])⟩
  | ok r =>
   obtain⟨e1,E⟩:=PI.number_ok hr;have d8:=PI.numAt_small (PBits.ofB l) (at_+1) 2 2 (by omega);subst e1;obtain⟨O,R⟩:=exq (PI.numAt (PBits.ofB l) (at_+1) 2);rw [hr] at q;rw [R] at hr q d8;rw [PBits.ofB_length] at E;obtain⟨rfl,J⟩:=q;simp only at J;have b8:=hid hr;have a1:∀r,PI.body (PBits.ofB l) most O (at_+1+2) out=.ok r->T=.ok (lb,O,r.1,r.2):=fun r h=>by
    rw [<- M.out,PI.block_step Y.out b8.out h,c2.out]
   have c3:∀c,PI.body (PBits.ofB l) most O (at_+1+2) out=.error c->T=.error c:=fun c h=>by
    rw [<- M.out,PI.block_no Y.out b8.out h]
   have P:=hid a1;have B:=hid c3;obtain⟨N,c4⟩:=exq (at_+1+2);rw [c4] at J E P B;have c1:w2.cell? ⟨gx,1,none⟩=some (.slice VA out.length vc):=J.cell 1 rfl 1;clear hr R b6 H1 Y b8 M c2 a1 c3 c4;by_cases h0:O=0
   ·subst h0;have hs:=XO gx gr l out most N _ _ J E HL.out ho HM.out;have S:=hid hs;clear hs;go_wp2_with fail
    refine S.out.mono ?_;intro Q w3 q;have t:PI.body (PBits.ofB l) most 0 N out=PI.stored (PBits.ofB l) most N out:=rfl;unfold XPost at q;cases hr:PI.stored (PBits.ofB l) most N out with
    | error c =>
     rw [hr] at q;obtain⟨rfl,C⟩:=q;have F:Hid (T=.error c):=hid (B.out c (t.trans hr));clear hr S P B t;go_wp2;exact⟨rfl,XPost.no F.out (C.pick 1 [])⟩
    | ok r =>
     obtain⟨U,b⟩:=r;rw [hr] at q;obtain⟨rfl,c5,C⟩:=q;have F:Hid (T=.ok (lb,0,U,b)):=hid (P.out _ (t.trans hr));simp only at C;clear hr S P B t J c1;obtain⟨k,n,rfl,a5,a6⟩:=Row.form C 2 rfl;go_wp2_with fail
     refine wp_region_sc (L:=Rr gr l U::Row 5 1 (.slice k b.length n) b.length (cells8 b)::L) [some (.pointer (some ⟨gx,0,none⟩)),some (.pointer (some ⟨gx,0,none⟩)),some (.pointer (some ⟨gx,0,none⟩)),some (.pointer (some ⟨gx,3,none⟩)),some (.slice G bl.length I),some (.int .i64 0),some (.bool lb),some (.int .i64 out.length),some (.pointer (some ⟨gx,0,none⟩)),some (.pointer (some ⟨gx,0,none⟩)),some (.pointer (some ⟨gx,1,none⟩)),some (.slice k b.length n),some (.int .i64 b.length),some (.agg #[.int .i64 0,.bool lb,.int .i64 out.length,.int .i64 b.length]),none,none,some (.pointer (some ⟨gx,0,none⟩)),some (.pointer (some ⟨gx,3,none⟩)),some (undef)] (fun ix vx=>match ix with | 14=>(fun v=>v=.slice (some ⟨v.ownBlock.getD 0,0,none⟩) 1 1) vx | 15=>(fun _=>True) vx | _=>True) (fun ix vx=>match ix with | 14=>(fun v=>[Bk (v.ownBlock.getD 0) 71 [.int .i64 0,.bool lb,.int .i64 out.length,.int .i64 b.length]]) vx | 15=>(fun v=>[Row 71 4 v (bl.length+1) (Zc bl++[.int .i64 0,.bool lb,.int .i64 out.length,.int .i64 b.length])]) vx | 18=>(fun _=>[Ex fun u=>Star (XpB gx gr (.slice k b.length n) most u) (Row 71 4 u (bl.length+1) (Zc bl++[.int .i64 0,.bool lb,.int .i64 out.length,.int .i64 b.length]))]) vx | _=>[]) (fun ix=>match ix with | 15=>[Row 71 4 (.slice G bl.length I) bl.length (Zc bl)] | 18=>[XpB gx gr (.slice k b.length n) most (.slice G bl.length I)] | _=>[]) 19 56
      [some 37,some 38,some 39,some 40,some 41,some 42,some 43,some 44,some 45,some 46,some 47,some 48,some 49,some 50,some 51,some 52,some 53,some 54,none]
      [[],[],[1],[2],[3],[],[],[],[],[8],[9],[10],[11],[5,6,7,12],[13],[4,14],[0,0,1,2,3,4,5,6,7,8,9,10,11,12,13,14,15],[16,0,1,2,3,4,5,6,7,8,9,10,11,12,13,14,15],[17,15,15,0,1,2,3,4,5,6,7,8,9,10,11,12,13,14,15]]
      [[],[],[1],[1,2],[1,2,3],[],[],[],[],[8],[8,9],[8,9,10],[8,9,10,11],[5,6,7,8,9,10,11,12],[5,6,7,8,9,10,11,12,13],[1,2,3,4,5,6,7,8,9,10,11,12,13,14],[0,1,2,3,4,5,6,7,8,9,10,11,12,13,14,15],[0,1,2,3,4,5,6,7,8,9,10,11,12,13,14,15,16],[0,1,2,3,4,5,6,7,8,9,10,11,12,13,14,15,16,17]]
      [[],[],[],[],[],[],[],[],[],[],[],[],[],[],[],[14],[],[],[15]] [[],[],[],[],[18],[],[],[],[],[],[],[18],[],[],[],[],[],[],[]] [(0,.pointer (some ⟨gx,0,none⟩)),(3,.bool lb),(4,.int .i64 0),(5,.int .i64 out.length)]
      (by kernel_rfl) rfl (by decide) (by rfl) (by decide +kernel) rfl rfl (by simp) (C.pick 4 [3,1,0,2]) ?hstep ?hend
     case hstep =>
      refine⟨?p0,⟨?p1,⟨?p2,⟨?p3,⟨?p4,⟨?p5,⟨?p6,⟨?p7,⟨?p8,⟨?p9,⟨?p10,⟨?p11,⟨?p12,⟨?p13,⟨?p14,⟨?p15,⟨?p16,⟨?p17,⟨?p18,trivial⟩⟩⟩⟩⟩⟩⟩⟩⟩⟩⟩⟩⟩⟩⟩⟩⟩⟩⟩
      case p0 | p1 | p2 | p3 | p5 | p6 | p7 | p8 | p9 | p10 | p12 | p13 | p16 | p17 =>
       intro x wx A f i s j y H K p;replace p:=hid p;clear j y i;repeat (obtain⟨_,s⟩:=s)
       refine so ?_;go_step;exact p.out _ _ rfl H
      case p4 =>
       intro x wx A f i s j y H K g;have c6:=tq j 3;replace H:Sp w0 (_::f) wx:=H;have p:=hid g;clear g s j y i;have c:wx.cell? ⟨gx,3,none⟩=some (.slice G bl.length I):=H.cell 0 rfl 3;refine so ?_;go_step;exact p.out _ _ rfl H
      case p11 =>
       intro x wx A f i s j y H K g;have c7:=tq j 10;replace H:Sp w0 (_::f) wx:=H;have p:=hid g;clear g s j y i;have c:wx.cell? ⟨gx,1,none⟩=some (.slice k b.length n):=H.cell 0 rfl 1;refine so ?_;go_step;exact p.out _ _ rfl H
      case p14 =>
       intro x wx A f i s j y H K g;have c8:=tq j 13;have p:=hid g;clear g s j y i;refine so ?_;go_step;exact p.out _ _ rfl (H.newBk _ _)
      case p15 =>
       intro x wx A f i s j y H K g;have V:=tq j 4;have W:(x 14)=.slice (some ⟨(x 14).ownBlock.getD 0,0,none⟩) 1 1:=(j 14 (by decide)).1;have D:=(j 14 (by decide)).2 51 rfl;replace H:Sp w0 (_::(Bk ((x 14).ownBlock.getD 0) 71 [.int .i64 0,.bool lb,.int .i64 out.length,.int .i64 b.length])::f) wx:=H;have p:Hid (∀(v:Value) (w' : World),True->Sp w0 ((Row 71 4 v (bl.length+1) (Zc bl++[.int .i64 0,.bool lb,.int .i64 out.length,.int .i64 b.length]))::f) w'->K (A.put (some 52) v) w'):=hid g;clear g s j y i;obtain⟨g9,Q⟩:=exq ((x 14).ownBlock.getD 0);rw [W] at D;rw [Q] at D H;have a7:=b5.out;have a8:=b4.out;have d0:maxLen=9223372036854775807:=rfl;refine so ?_;refine Zi _ _ 61 rfl 71 i0 (.agg #[.int .i64 0,.bool false,.int .i64 0,.int .i64 0]) 4 32 Tryd.underlying61 hi a9 b0 b1 rfl (by decide) (.slice G bl.length I) bl.length (Zc bl) (ev V) H (some ⟨g9,0,none⟩) 1 1 [.int .i64 0,.bool lb,.int .i64 out.length,.int .i64 b.length] (ev D) rfl (Rd.of_blk (H.blk 1 rfl)) (by intro u hu; simp only [List.mem_cons,List.mem_nil_iff,or_false] at hu; rcases hu with rfl | rfl | rfl | rfl <;> rfl) (by omega) (by omega) ?_
       intro v1 w2 J _;exact p.out _ _ trivial J.swap.tail
      case p18 =>
       intro x wx A f i s j y H K g;have d1:=tq j 17;have d2:True:=(j 15 (by decide)).1;have X:=(j 15 (by decide)).2 52 rfl;replace H:Sp w0 (_::(Row 71 4 (x 15) (bl.length+1) (Zc bl++[.int .i64 0,.bool lb,.int .i64 out.length,.int .i64 b.length]))::f) wx:=H;have p:=hid g;clear g s j y i;have c:wx.cell? ⟨gx,3,none⟩=some (.slice G bl.length I):=H.cell 0 rfl 3;have z:wx.frozen? ⟨gx,3,none⟩=false:=H.frozen 0 rfl 3;obtain⟨A1,c9,ea,_,_⟩:=Row.form H 1 rfl;refine so ?_;rw [ea] at X H;go_step;exact p.out _ _ rfl (Sp.ex (.slice A1 (bl.length+1) c9) (Sp.star (H.set 3 (.slice A1 (bl.length+1) c9))))
     case hend =>
      intro x wx A hA j H;replace H:Sp w0 (_::_::_::L) wx:=H;clear j;simp only [putAll,Act.put,List.setIfInBounds_toArray,List.set_cons_succ,List.set_cons_zero,Nat.reduceAdd] at hA;subst hA;obtain⟨u,H⟩:=H.unex;replace H:=H.unstar;have HX:=hid (H.pick 4 [2,0,3,1]);clear H C;go_wp2;go_ret;refine XPost.yes F.out ⟨rfl,.slice k b.length n,u,?_⟩;have ec:Zc (bl++[⟨0,lb,out.length,b.length⟩])=(Zc bl++[.int .i64 0,.bool lb,.int .i64 out.length,.int .i64 b.length]):=by simp [Zc]
      have h8:=HX.out;show Sp w0 (Rr gr l U::XpB gx gr (.slice k b.length n) most u::Row 5 1 (.slice k b.length n) b.length (cells8 b)::Row 71 4 u (bl.length+1) (Zc (bl++[⟨0,lb,out.length,b.length⟩]))::L) _;rw [ec];exact h8
   ·have g0:((O:Int) == 0)=false:=by rw [beq_eq_false_iff_ne]; omega
    have e4 : ¬ (O:Int)=0:=by omega
    by_cases h1:O=1
    ·subst h1;go_wp2_with fail
     refine(xfixed_ok J).mono ?_;rintro _ w4 ⟨g1,g2,rfl,H4⟩;have hs:=Yn gx gr g1 g2 l out most N _ _ PI.fixedL PI.fixedD TL TA cl ca (H4.pick 6 [2,3,1,0,4,5]) E HL.out ho HM.out PI.fixed_sum PI.fixed_sumD (by decide) (by decide) (fun w0 w h=>b3.out w0 w (h.pick 1 []));have S:=hid hs;clear hs;go_wp2_with fail
     refine S.out.mono ?_;intro Q w3 q;have t:PI.body (PBits.ofB l) most 1 N out=PI.pressed (PBits.ofB l) most PI.fixedL PI.fixedD ((PBits.ofB l).length+1) N out:=rfl;unfold XPost at q;cases hr:PI.pressed (PBits.ofB l) most PI.fixedL PI.fixedD ((PBits.ofB l).length+1) N out with
     | error c =>
      rw [hr] at q;obtain⟨rfl,C⟩:=q;have F:Hid (T=.error c):=hid (B.out c (t.trans hr));clear hr S P B t;go_wp2;exact⟨rfl,XPost.no F.out (C.pick 1 [])⟩
     | ok r =>
      obtain⟨U,b⟩:=r;rw [hr] at q;obtain⟨rfl,c5,C⟩:=q;have F:Hid (T=.ok (lb,1,U,b)):=hid (P.out _ (t.trans hr));replace C:=C.pick 6 [0,1,4,5];simp only at C;clear hr S P B t J c1 H4;obtain⟨k,n,rfl,a5,a6⟩:=Row.form C 2 rfl;go_wp2_with fail
      refine wp_region_sc (L:=Rr gr l U::Row 5 1 (.slice k b.length n) b.length (cells8 b)::L) [some (.pointer (some ⟨gx,0,none⟩)),some (.pointer (some ⟨gx,0,none⟩)),some (.pointer (some ⟨gx,0,none⟩)),some (.pointer (some ⟨gx,3,none⟩)),some (.slice G bl.length I),some (.int .i64 1),some (.bool lb),some (.int .i64 out.length),some (.pointer (some ⟨gx,0,none⟩)),some (.pointer (some ⟨gx,0,none⟩)),some (.pointer (some ⟨gx,1,none⟩)),some (.slice k b.length n),some (.int .i64 b.length),some (.agg #[.int .i64 1,.bool lb,.int .i64 out.length,.int .i64 b.length]),none,none,some (.pointer (some ⟨gx,0,none⟩)),some (.pointer (some ⟨gx,3,none⟩)),some (undef)] (fun ix vx=>match ix with | 14=>(fun v=>v=.slice (some ⟨v.ownBlock.getD 0,0,none⟩) 1 1) vx | 15=>(fun _=>True) vx | _=>True) (fun ix vx=>match ix with | 14=>(fun v=>[Bk (v.ownBlock.getD 0) 71 [.int .i64 1,.bool lb,.int .i64 out.length,.int .i64 b.length]]) vx | 15=>(fun v=>[Row 71 4 v (bl.length+1) (Zc bl++[.int .i64 1,.bool lb,.int .i64 out.length,.int .i64 b.length])]) vx | 18=>(fun _=>[Ex fun u=>Star (XpB gx gr (.slice k b.length n) most u) (Row 71 4 u (bl.length+1) (Zc bl++[.int .i64 1,.bool lb,.int .i64 out.length,.int .i64 b.length]))]) vx | _=>[]) (fun ix=>match ix with | 15=>[Row 71 4 (.slice G bl.length I) bl.length (Zc bl)] | 18=>[XpB gx gr (.slice k b.length n) most (.slice G bl.length I)] | _=>[]) 19 56
       [some 37,some 38,some 39,some 40,some 41,some 42,some 43,some 44,some 45,some 46,some 47,some 48,some 49,some 50,some 51,some 52,some 53,some 54,none]
       [[],[],[1],[2],[3],[],[],[],[],[8],[9],[10],[11],[5,6,7,12],[13],[4,14],[0,0,1,2,3,4,5,6,7,8,9,10,11,12,13,14,15],[16,0,1,2,3,4,5,6,7,8,9,10,11,12,13,14,15],[17,15,15,0,1,2,3,4,5,6,7,8,9,10,11,12,13,14,15]]
       [[],[],[1],[1,2],[1,2,3],[],[],[],[],[8],[8,9],[8,9,10],[8,9,10,11],[5,6,7,8,9,10,11,12],[5,6,7,8,9,10,11,12,13],[1,2,3,4,5,6,7,8,9,10,11,12,13,14],[0,1,2,3,4,5,6,7,8,9,10,11,12,13,14,15],[0,1,2,3,4,5,6,7,8,9,10,11,12,13,14,15,16],[0,1,2,3,4,5,6,7,8,9,10,11,12,13,14,15,16,17]]
       [[],[],[],[],[],[],[],[],[],[],[],[],[],[],[],[14],[],[],[15]] [[],[],[],[],[18],[],[],[],[],[],[],[18],[],[],[],[],[],[],[]] [(0,.pointer (some ⟨gx,0,none⟩)),(3,.bool lb),(4,.int .i64 1),(5,.int .i64 out.length)]
       (by kernel_rfl) rfl (by decide) (by rfl) (by decide +kernel) rfl rfl (by simp) (C.pick 4 [3,1,0,2]) ?hstep ?hend
      case hstep =>
       refine⟨?p0,⟨?p1,⟨?p2,⟨?p3,⟨?p4,⟨?p5,⟨?p6,⟨?p7,⟨?p8,⟨?p9,⟨?p10,⟨?p11,⟨?p12,⟨?p13,⟨?p14,⟨?p15,⟨?p16,⟨?p17,⟨?p18,trivial⟩⟩⟩⟩⟩⟩⟩⟩⟩⟩⟩⟩⟩⟩⟩⟩⟩⟩⟩
       case p0 | p1 | p2 | p3 | p5 | p6 | p7 | p8 | p9 | p10 | p12 | p13 | p16 | p17 =>
        intro x wx A f i s j y H K p;replace p:=hid p;clear j y i;repeat (obtain⟨_,s⟩:=s)
        refine so ?_;go_step;exact p.out _ _ rfl H
       case p4 =>
        intro x wx A f i s j y H K g;have c6:=tq j 3;replace H:Sp w0 (_::f) wx:=H;have p:=hid g;clear g s j y i;have c:wx.cell? ⟨gx,3,none⟩=some (.slice G bl.length I):=H.cell 0 rfl 3;refine so ?_;go_step;exact p.out _ _ rfl H
       case p11 =>
        intro x wx A f i s j y H K g;have c7:=tq j 10;replace H:Sp w0 (_::f) wx:=H;have p:=hid g;clear g s j y i;have c:wx.cell? ⟨gx,1,none⟩=some (.slice k b.length n):=H.cell 0 rfl 1;refine so ?_;go_step;exact p.out _ _ rfl H
       case p14 =>
        intro x wx A f i s j y H K g;have c8:=tq j 13;have p:=hid g;clear g s j y i;refine so ?_;go_step;exact p.out _ _ rfl (H.newBk _ _)
       case p15 =>
        intro x wx A f i s j y H K g;have V:=tq j 4;have W:(x 14)=.slice (some ⟨(x 14).ownBlock.getD 0,0,none⟩) 1 1:=(j 14 (by decide)).1;have D:=(j 14 (by decide)).2 51 rfl;replace H:Sp w0 (_::(Bk ((x 14).ownBlock.getD 0) 71 [.int .i64 1,.bool lb,.int .i64 out.length,.int .i64 b.length])::f) wx:=H;have p:Hid (∀(v:Value) (w' : World),True->Sp w0 ((Row 71 4 v (bl.length+1) (Zc bl++[.int .i64 1,.bool lb,.int .i64 out.length,.int .i64 b.length]))::f) w'->K (A.put (some 52) v) w'):=hid g;clear g s j y i;obtain⟨g9,Q⟩:=exq ((x 14).ownBlock.getD 0);rw [W] at D;rw [Q] at D H;have a7:=b5.out;have a8:=b4.out;have d0:maxLen=9223372036854775807:=rfl;refine so ?_;refine Zi _ _ 61 rfl 71 i0 (.agg #[.int .i64 0,.bool false,.int .i64 0,.int .i64 0]) 4 32 Tryd.underlying61 hi a9 b0 b1 rfl (by decide) (.slice G bl.length I) bl.length (Zc bl) (ev V) H (some ⟨g9,0,none⟩) 1 1 [.int .i64 1,.bool lb,.int .i64 out.length,.int .i64 b.length] (ev D) rfl (Rd.of_blk (H.blk 1 rfl)) (by intro u hu; simp only [List.mem_cons,List.mem_nil_iff,or_false] at hu; rcases hu with rfl | rfl | rfl | rfl <;> rfl) (by omega) (by omega) ?_
        intro v1 w2 J _;exact p.out _ _ trivial J.swap.tail
       case p18 =>
        intro x wx A f i s j y H K g;have d1:=tq j 17;have d2:True:=(j 15 (by decide)).1;have X:=(j 15 (by decide)).2 52 rfl;replace H:Sp w0 (_::(Row 71 4 (x 15) (bl.length+1) (Zc bl++[.int .i64 1,.bool lb,.int .i64 out.length,.int .i64 b.length]))::f) wx:=H;have p:=hid g;clear g s j y i;have c:wx.cell? ⟨gx,3,none⟩=some (.slice G bl.length I):=H.cell 0 rfl 3;have z:wx.frozen? ⟨gx,3,none⟩=false:=H.frozen 0 rfl 3;obtain⟨A1,c9,ea,_,_⟩:=Row.form H 1 rfl;refine so ?_;rw [ea] at X H;go_step;exact p.out _ _ rfl (Sp.ex (.slice A1 (bl.length+1) c9) (Sp.star (H.set 3 (.slice A1 (bl.length+1) c9))))
      case hend =>
       intro x wx A hA j H;replace H:Sp w0 (_::_::_::L) wx:=H;clear j;simp only [putAll,Act.put,List.setIfInBounds_toArray,List.set_cons_succ,List.set_cons_zero,Nat.reduceAdd] at hA;subst hA;obtain⟨u,H⟩:=H.unex;replace H:=H.unstar;have HX:=hid (H.pick 4 [2,0,3,1]);clear H C;go_wp2;go_ret;refine XPost.yes F.out ⟨rfl,.slice k b.length n,u,?_⟩;have ec:Zc (bl++[⟨1,lb,out.length,b.length⟩])=(Zc bl++[.int .i64 1,.bool lb,.int .i64 out.length,.int .i64 b.length]):=by simp [Zc]
       have h8:=HX.out;show Sp w0 (Rr gr l U::XpB gx gr (.slice k b.length n) most u::Row 5 1 (.slice k b.length n) b.length (cells8 b)::Row 71 4 u (bl.length+1) (Zc (bl++[⟨1,lb,out.length,b.length⟩]))::L) _;rw [ec];exact h8
    ·have g1:((O:Int) == 1)=false:=by rw [beq_eq_false_iff_ne]; omega
     have e5 : ¬ (O:Int)=1:=by omega
     by_cases h2:O=2
     ·subst h2;have hd:=Vo gx gr l most N _ _ TL TA cl ca J E HL.out (fun w0 w h=>b3.out w0 w (h.pick 2 []));have HD:=hid hd;clear hd;go_wp2_with fail
      refine HD.out.mono ?_;intro Q w4 q;unfold XPost at q;cases hr:PI.dynamic (PBits.ofB l) N with
      | error c =>
       rw [hr] at q;obtain⟨rfl,C⟩:=q;have t:PI.body (PBits.ofB l) most 2 N out=.error c:=by
        show(PI.dynamic _ _).bind _=_;rw [hr]; rfl
       have F:Hid (T=.error c):=hid (B.out c t);clear hr HD P B t;go_wp2;exact⟨rfl,XPost.no F.out (C.pick 2 [])⟩
      | ok r =>
       obtain⟨a4,m,d⟩:=r;rw [hr] at q;obtain⟨g1,g2,rfl,H4⟩:=q;simp only at H4;obtain⟨d3,d4,d5,d6⟩:=PI.dynamic_ok hr;have d9:a4<=8 * l.length:=by
        have:=(PI.Fine.dynamic (a:=N) (o:=0)).pos (PBits.ofB l) 0 (by rw [PBits.ofB_length]; exact E) (Nat.zero_le _) _ hr;have q:=this.2.1;rw [PBits.ofB_length] at q;exact q
       have hs:=Yn gx gr g1 g2 l out most a4 _ _ m d TL TA cl ca (H4.pick 6 [2,3,1,0,4,5]) d9 HL.out ho HM.out (PI.book_sum d3) (PI.book_sum d4) d5 d6 (fun w0 w h=>b3.out w0 w (h.pick 1 []));have S:=hid hs;have t:PI.body (PBits.ofB l) most 2 N out=PI.pressed (PBits.ofB l) most m d ((PBits.ofB l).length+1) a4 out:=by
        show(PI.dynamic _ _).bind _=_;rw [hr]; rfl
       have Z:=hid t;clear hs hr HD d3 d4 d5 d6 t;go_wp2_with fail
       refine S.out.mono ?_;intro Q w3 q;unfold XPost at q;cases hr:PI.pressed (PBits.ofB l) most m d ((PBits.ofB l).length+1) a4 out with
       | error c =>
        rw [hr] at q;obtain⟨rfl,C⟩:=q;have F:Hid (T=.error c):=hid (B.out c (Z.out.trans hr));clear hr S P B Z;go_wp2;exact⟨rfl,XPost.no F.out (C.pick 1 [])⟩
       | ok r =>
        obtain⟨U,b⟩:=r;rw [hr] at q;obtain⟨rfl,c5,C⟩:=q;have F:Hid (T=.ok (lb,2,U,b)):=hid (P.out _ (Z.out.trans hr));replace C:=C.pick 6 [0,1,4,5];simp only at C;clear hr S P B Z J c1 H4;obtain⟨k,n,rfl,a5,a6⟩:=Row.form C 2 rfl;go_wp2_with fail
        refine wp_region_sc (L:=Rr gr l U::Row 5 1 (.slice k b.length n) b.length (cells8 b)::L) [some (.pointer (some ⟨gx,0,none⟩)),some (.pointer (some ⟨gx,0,none⟩)),some (.pointer (some ⟨gx,0,none⟩)),some (.pointer (some ⟨gx,3,none⟩)),some (.slice G bl.length I),some (.int .i64 2),some (.bool lb),some (.int .i64 out.length),some (.pointer (some ⟨gx,0,none⟩)),some (.pointer (some ⟨gx,0,none⟩)),some (.pointer (some ⟨gx,1,none⟩)),some (.slice k b.length n),some (.int .i64 b.length),some (.agg #[.int .i64 2,.bool lb,.int .i64 out.length,.int .i64 b.length]),none,none,some (.pointer (some ⟨gx,0,none⟩)),some (.pointer (some ⟨gx,3,none⟩)),some (undef)] (fun ix vx=>match ix with | 14=>(fun v=>v=.slice (some ⟨v.ownBlock.getD 0,0,none⟩) 1 1) vx | 15=>(fun _=>True) vx | _=>True) (fun ix vx=>match ix with | 14=>(fun v=>[Bk (v.ownBlock.getD 0) 71 [.int .i64 2,.bool lb,.int .i64 out.length,.int .i64 b.length]]) vx | 15=>(fun v=>[Row 71 4 v (bl.length+1) (Zc bl++[.int .i64 2,.bool lb,.int .i64 out.length,.int .i64 b.length])]) vx | 18=>(fun _=>[Ex fun u=>Star (XpB gx gr (.slice k b.length n) most u) (Row 71 4 u (bl.length+1) (Zc bl++[.int .i64 2,.bool lb,.int .i64 out.length,.int .i64 b.length]))]) vx | _=>[]) (fun ix=>match ix with | 15=>[Row 71 4 (.slice G bl.length I) bl.length (Zc bl)] | 18=>[XpB gx gr (.slice k b.length n) most (.slice G bl.length I)] | _=>[]) 19 56
         [some 37,some 38,some 39,some 40,some 41,some 42,some 43,some 44,some 45,some 46,some 47,some 48,some 49,some 50,some 51,some 52,some 53,some 54,none]
         [[],[],[1],[2],[3],[],[],[],[],[8],[9],[10],[11],[5,6,7,12],[13],[4,14],[0,0,1,2,3,4,5,6,7,8,9,10,11,12,13,14,15],[16,0,1,2,3,4,5,6,7,8,9,10,11,12,13,14,15],[17,15,15,0,1,2,3,4,5,6,7,8,9,10,11,12,13,14,15]]
         [[],[],[1],[1,2],[1,2,3],[],[],[],[],[8],[8,9],[8,9,10],[8,9,10,11],[5,6,7,8,9,10,11,12],[5,6,7,8,9,10,11,12,13],[1,2,3,4,5,6,7,8,9,10,11,12,13,14],[0,1,2,3,4,5,6,7,8,9,10,11,12,13,14,15],[0,1,2,3,4,5,6,7,8,9,10,11,12,13,14,15,16],[0,1,2,3,4,5,6,7,8,9,10,11,12,13,14,15,16,17]]
         [[],[],[],[],[],[],[],[],[],[],[],[],[],[],[],[14],[],[],[15]] [[],[],[],[],[18],[],[],[],[],[],[],[18],[],[],[],[],[],[],[]] [(0,.pointer (some ⟨gx,0,none⟩)),(3,.bool lb),(4,.int .i64 2),(5,.int .i64 out.length)]
         (by kernel_rfl) rfl (by decide) (by rfl) (by decide +kernel) rfl rfl (by simp) (C.pick 4 [3,1,0,2]) ?hstep ?hend
        case hstep =>
         refine⟨?p0,⟨?p1,⟨?p2,⟨?p3,⟨?p4,⟨?p5,⟨?p6,⟨?p7,⟨?p8,⟨?p9,⟨?p10,⟨?p11,⟨?p12,⟨?p13,⟨?p14,⟨?p15,⟨?p16,⟨?p17,⟨?p18,trivial⟩⟩⟩⟩⟩⟩⟩⟩⟩⟩⟩⟩⟩⟩⟩⟩⟩⟩⟩
         case p0 | p1 | p2 | p3 | p5 | p6 | p7 | p8 | p9 | p10 | p12 | p13 | p16 | p17 =>
          intro x wx A f i s j y H K p;replace p:=hid p;clear j y i;repeat (obtain⟨_,s⟩:=s)
          refine so ?_;go_step;exact p.out _ _ rfl H
         case p4 =>
          intro x wx A f i s j y H K g;have c6:=tq j 3;replace H:Sp w0 (_::f) wx:=H;have p:=hid g;clear g s j y i;have c:wx.cell? ⟨gx,3,none⟩=some (.slice G bl.length I):=H.cell 0 rfl 3;refine so ?_;go_step;exact p.out _ _ rfl H
         case p11 =>
          intro x wx A f i s j y H K g;have c7:=tq j 10;replace H:Sp w0 (_::f) wx:=H;have p:=hid g;clear g s j y i;have c:wx.cell? ⟨gx,1,none⟩=some (.slice k b.length n):=H.cell 0 rfl 1;refine so ?_;go_step;exact p.out _ _ rfl H
         case p14 =>
          intro x wx A f i s j y H K g;have c8:=tq j 13;have p:=hid g;clear g s j y i;refine so ?_;go_step;exact p.out _ _ rfl (H.newBk _ _)
         case p15 =>
          intro x wx A f i s j y H K g;have V:=tq j 4;have W:(x 14)=.slice (some ⟨(x 14).ownBlock.getD 0,0,none⟩) 1 1:=(j 14 (by decide)).1;have D:=(j 14 (by decide)).2 51 rfl;replace H:Sp w0 (_::(Bk ((x 14).ownBlock.getD 0) 71 [.int .i64 2,.bool lb,.int .i64 out.length,.int .i64 b.length])::f) wx:=H;have p:Hid (∀(v:Value) (w' : World),True->Sp w0 ((Row 71 4 v (bl.length+1) (Zc bl++[.int .i64 2,.bool lb,.int .i64 out.length,.int .i64 b.length]))::f) w'->K (A.put (some 52) v) w'):=hid g;clear g s j y i;obtain⟨g9,Q⟩:=exq ((x 14).ownBlock.getD 0);rw [W] at D;rw [Q] at D H;have a7:=b5.out;have a8:=b4.out;have d0:maxLen=9223372036854775807:=rfl;refine so ?_;refine Zi _ _ 61 rfl 71 i0 (.agg #[.int .i64 0,.bool false,.int .i64 0,.int .i64 0]) 4 32 Tryd.underlying61 hi a9 b0 b1 rfl (by decide) (.slice G bl.length I) bl.length (Zc bl) (ev V) H (some ⟨g9,0,none⟩) 1 1 [.int .i64 2,.bool lb,.int .i64 out.length,.int .i64 b.length] (ev D) rfl (Rd.of_blk (H.blk 1 rfl)) (by intro u hu; simp only [List.mem_cons,List.mem_nil_iff,or_false] at hu; rcases hu with rfl | rfl | rfl | rfl <;> rfl) (by omega) (by omega) ?_
          intro v1 w2 J _;exact p.out _ _ trivial J.swap.tail
         case p18 =>
          intro x wx A f i s j y H K g;have d1:=tq j 17;have d2:True:=(j 15 (by decide)).1;have X:=(j 15 (by decide)).2 52 rfl;replace H:Sp w0 (_::(Row 71 4 (x 15) (bl.length+1) (Zc bl++[.int .i64 2,.bool lb,.int .i64 out.length,.int .i64 b.length]))::f) wx:=H;have p:=hid g;clear g s j y i;have c:wx.cell? ⟨gx,3,none⟩=some (.slice G bl.length I):=H.cell 0 rfl 3;have z:wx.frozen? ⟨gx,3,none⟩=false:=H.frozen 0 rfl 3;obtain⟨A1,c9,ea,_,_⟩:=Row.form H 1 rfl;refine so ?_;rw [ea] at X H;go_step;exact p.out _ _ rfl (Sp.ex (.slice A1 (bl.length+1) c9) (Sp.star (H.set 3 (.slice A1 (bl.length+1) c9))))
        case hend =>
         intro x wx A hA j H;replace H:Sp w0 (_::_::_::L) wx:=H;clear j;simp only [putAll,Act.put,List.setIfInBounds_toArray,List.set_cons_succ,List.set_cons_zero,Nat.reduceAdd] at hA;subst hA;obtain⟨u,H⟩:=H.unex;replace H:=H.unstar;have HX:=hid (H.pick 4 [2,0,3,1]);clear H C;go_wp2;go_ret;refine XPost.yes F.out ⟨rfl,.slice k b.length n,u,?_⟩;have ec:Zc (bl++[⟨2,lb,out.length,b.length⟩])=(Zc bl++[.int .i64 2,.bool lb,.int .i64 out.length,.int .i64 b.length]):=by simp [Zc]
         have h8:=HX.out;show Sp w0 (Rr gr l U::XpB gx gr (.slice k b.length n) most u::Row 5 1 (.slice k b.length n) b.length (cells8 b)::Row 71 4 u (bl.length+1) (Zc (bl++[⟨2,lb,out.length,b.length⟩]))::L) _;rw [ec];exact h8
     ·have g2:((O:Int) == 2)=false:=by rw [beq_eq_false_iff_ne]; omega
      have e6 : ¬ (O:Int)=2:=by omega
      have t:PI.body (PBits.ofB l) most O N out=.error 20:=by
       unfold PI.body;rw [if_neg h0,if_neg h1,if_neg h2]
      have F:Hid (T=.error 20):=hid (B.out 20 t);clear t P B;go_wp2;exact⟨rfl,XPost.no F.out (J.pick 4 [])⟩
end Go.Proofs.YteajimobgkempaaDoor

