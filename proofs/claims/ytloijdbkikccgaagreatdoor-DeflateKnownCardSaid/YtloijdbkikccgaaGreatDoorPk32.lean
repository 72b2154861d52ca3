/- A pack of texts: InfK InfL InfM. -/
import Derived.Defers
import Derived.Recover
import Derived.Test.YtloijdbkikccgaaGreatDoorPk02
import Derived.Test.YtloijdbkikccgaaGreatDoorPk31
namespace Go.Proofs.YtloijdbkikccgaaGreatDoor
set_option linter.unusedVariables false
set_option linter.unusedSimpArgs false
open Go.RowKit
def cellsB (l:List PI.Blk):List Value:=l.flatMap fun b=>[.int .i64 (b.kind:Int),.bool b.last,.int .i64 (b.from_:Int),.int .i64 (b.to_:Int)]
theorem infoB:(Tryz.prog.info? 72).map (fun i=>(i.zero,i.size,i.bytes))=some (some (.agg #[.int .i64 0,.bool false,.int .i64 0,.int .i64 0]),4,32):=by kernel_rfl
namespace PI
theorem block_step {B:List Bool} {most a x1 kd:Nat} {out:List UInt8} {r:Nat × List UInt8} (h1:number B a 1=.ok (a+1,x1)) (h2:number B (a+1) 2=.ok (a+1+2,kd)) (h3:body B most kd (a+1+2) out=.ok r):block B most a out=.ok (x1 == 1,kd,r.1,r.2):=by
 unfold block
 rw [h1,bok]
 dsimp only
 rw [h2,bok]
 dsimp only
 rw [h3,bok]
theorem block_no {B:List Bool} {most a x1 kd c:Nat} {out:List UInt8} (h1:number B a 1=.ok (a+1,x1)) (h2:number B (a+1) 2=.ok (a+1+2,kd)) (h3:body B most kd (a+1+2) out=.error c):block B most a out=.error c:=by
 unfold block
 rw [h1,bok]
 dsimp only
 rw [h2,bok]
 dsimp only
 rw [h3,bno]
end PI
set_option maxRecDepth 100000 in
set_option maxHeartbeats 8000000 in
theorem xblock_ok (gx gr:Nat) (l out:List UInt8) (bl:List PI.Blk) (most at_:Nat) (vo vb:Value) (TL TA:Option Addr) (cl ca:Nat) {w0 w:World} {L:List Pr}
  (H:Sp w0 (Rr gr l at_::XpB gx gr vo most vb::Row 5 1 vo out.length (cells8 out)::Row 72 4 vb bl.length (cellsB bl)::L) w) (ha:at_<=8 * l.length) (hl:l.length<=100000000) (ho:out.length<=most) (hm:most<=1000000000) (hbl:bl.length<=1000000000)
  (hT:Ent L (Tabs TL TA cl ca)) :
  Calls Tryz.prog 100 #[.pointer (some ⟨gx,0,none⟩)] w
   (XPost w0 L (PI.block (PBits.ofB l) most at_ out) fun r e w'=>e=.returned (.bool r.1)/\∃vo' vb',Sp w0 (Rr gr l r.2.2.1::XpB gx gr vo' most vb'::Row 5 1 vo' r.2.2.2.length (cells8 r.2.2.2)::Row 72 4 vb' (bl.length+1) (cellsB (bl++[⟨r.2.1,r.1,out.length,r.2.2.2.length⟩]))::L) w'):=by
 obtain⟨i0,hi,hz0,hz1,hz2⟩:=info_parts infoB
 obtain⟨T,hTT⟩:∃T,PI.block (PBits.ofB l) most at_ out=T:=⟨_,rfl⟩
 rw [hTT]
 have HT0:=Lib.hid hTT
 have HL:=Lib.hid hl
 have HTB:=Lib.hid hT
 have HM:=Lib.hid hm
 have HBL:=Lib.hid hbl
 obtain⟨VA,vc,rfl,hnc,hcm⟩:=Row.form H 2 rfl
 obtain⟨VB,vd,rfl,hnd,hdm⟩:=Row.form H 3 rfl
 have HCM:=Lib.hid hcm
 have HDM:=Lib.hid hdm
 have HQ:=Lib.hid (xnum_ok gx gr l most at_ 1 _ _ H ha (by omega) hl)
 clear hTT hT hm hbl hl hcm hdm
 go_enter Tryz.func100,Tryz.ntmps100
 go_wp2_with fail
 refine HQ.out.mono ?_
 intro e9 w1 h9
 cases hr:PI.number (PBits.ofB l) at_ 1 with
 | error c =>
  rw [hr] at h9
  obtain⟨rfl,H1⟩:=h9
  have HE:Hid (T=.error c):=by rw [<- HT0.out]; unfold PI.block; rw [hr]; exact Lib.hid rfl
  clear hr HQ HT0
  go_wp2
  exact⟨rfl,XPost.no HE.out (H1.pick 2 [])⟩
 | ok r =>
  obtain⟨e1,hle1⟩:=PI.number_ok hr
  have hx1:=PI.numAt_small (PBits.ofB l) at_ 1 1 (by omega)
  subst e1
  obtain⟨x1,hxx⟩:∃x,PI.numAt (PBits.ofB l) at_ 1=x:=⟨_,rfl⟩
  rw [hr] at h9
  rw [hxx] at hr h9 hx1
  rw [PBits.ofB_length] at hle1
  obtain⟨rfl,H1⟩:=h9
  simp only at H1
  have HN1:=Lib.hid hr
  have HQ2:=Lib.hid (xnum_ok gx gr l most (at_+1) 2 _ _ H1 hle1 (by omega) HL.out)
  obtain⟨lb,hlb⟩:∃lb,(x1 == 1)=lb:=⟨_,rfl⟩
  have y1:((x1:Int) == 1)=lb:=by
   rw [<- hlb]
   have:x1=0∨x1=1:=by omega
   rcases this with rfl | rfl <;> rfl
  have HLB:=Lib.hid hlb
  clear hr hxx HQ H hlb
  go_wp2_with fail
  refine HQ2.out.mono ?_
  intro e9 w2 h9
  cases hr:PI.number (PBits.ofB l) (at_+1) 2 with
  | error c =>
   rw [hr] at h9
   obtain⟨rfl,H2⟩:=h9
   have HE:Hid (T=.error c):=by rw [<- HT0.out]; unfold PI.block; rw [HN1.out,PI.bok]; dsimp only; rw [hr]; exact Lib.hid rfl
   clear hr HQ2 HT0
   go_wp2
   exact⟨rfl,XPost.no HE.out (H2.pick 2 [])⟩
  | ok r =>
   obtain⟨e1,hle2⟩:=PI.number_ok hr
   have hk4:=PI.numAt_small (PBits.ofB l) (at_+1) 2 2 (by omega)
   subst e1
   obtain⟨kd,hxx⟩:∃x,PI.numAt (PBits.ofB l) (at_+1) 2=x:=⟨_,rfl⟩
   rw [hr] at h9
   rw [hxx] at hr h9 hk4
   rw [PBits.ofB_length] at hle2
   obtain⟨rfl,H2⟩:=h9
   simp only at H2
   have HN2:=Lib.hid hr
   have hyes:∀r,PI.body (PBits.ofB l) most kd (at_+1+2) out=.ok r->T=.ok (lb,kd,r.1,r.2):=fun r h=>by
    rw [<- HT0.out,PI.block_step HN1.out HN2.out h,HLB.out]
   have hno:∀c,PI.body (PBits.ofB l) most kd (at_+1+2) out=.error c->T=.error c:=fun c h=>by
    rw [<- HT0.out,PI.block_no HN1.out HN2.out h]
   have HY:=Lib.hid hyes
   have HNO:=Lib.hid hno
   obtain⟨a2,ha2⟩:∃a2,at_+1+2=a2:=⟨_,rfl⟩
   rw [ha2] at H2 hle2 HY HNO
   have c1:w2.cell? ⟨gx,1,none⟩=some (.slice VA out.length vc):=H2.cell 1 rfl 1
   clear hr hxx HQ2 H1 HN1 HN2 HT0 HLB hyes hno ha2
   by_cases h0:kd=0
   ·subst h0
    have hs:=xstored_ok gx gr l out most a2 _ _ H2 hle2 HL.out ho HM.out
    have HS:=Lib.hid hs
    clear hs
    go_wp2_with fail
    refine HS.out.mono ?_
    intro e9 w3 h9
    have hbd:PI.body (PBits.ofB l) most 0 a2 out=PI.stored (PBits.ofB l) most a2 out:=rfl
    unfold XPost at h9
    cases hr:PI.stored (PBits.ofB l) most a2 out with
    | error c =>
     rw [hr] at h9
     obtain⟨rfl,H3⟩:=h9
     have HE:Hid (T=.error c):=Lib.hid (HNO.out c (hbd.trans hr))
     clear hr HS HY HNO hbd
     go_wp2
     exact⟨rfl,XPost.no HE.out (H3.pick 1 [])⟩
    | ok r =>
     obtain⟨a3,out3⟩:=r
     rw [hr] at h9
     obtain⟨rfl,vo3,H3⟩:=h9
     have HE:Hid (T=.ok (lb,0,a3,out3)):=Lib.hid (HY.out _ (hbd.trans hr))
     simp only at H3
     clear hr HS HY HNO hbd H2 c1
     obtain⟨VA3,vc3,rfl,hnc3,hcm3⟩:=Row.form H3 2 rfl
     go_wp2_with fail
     refine wp_region_sc (L:=Rr gr l a3::Row 5 1 (.slice VA3 out3.length vc3) out3.length (cells8 out3)::L) [some (.pointer (some ⟨gx,0,none⟩)),some (.pointer (some ⟨gx,0,none⟩)),some (.pointer (some ⟨gx,0,none⟩)),some (.pointer (some ⟨gx,3,none⟩)),some (.slice VB bl.length vd),some (.int .i64 0),some (.bool lb),some (.int .i64 (out.length:Int)),some (.pointer (some ⟨gx,0,none⟩)),some (.pointer (some ⟨gx,0,none⟩)),some (.pointer (some ⟨gx,1,none⟩)),some (.slice VA3 out3.length vc3),some (.int .i64 (out3.length:Int)),some (.agg #[.int .i64 0,.bool lb,.int .i64 (out.length:Int),.int .i64 (out3.length:Int)]),none,none,some (.pointer (some ⟨gx,0,none⟩)),some (.pointer (some ⟨gx,3,none⟩)),some (undef)] (fun ix vx=>match ix with | 14=>(fun v=>v=.slice (some ⟨v.ownBlock.getD 0,0,none⟩) 1 1) vx | 15=>(fun _=>True) vx | _=>True) (fun ix vx=>match ix with | 14=>(fun v=>[Bk (v.ownBlock.getD 0) 72 [.int .i64 0,.bool lb,.int .i64 (out.length:Int),.int .i64 (out3.length:Int)]]) vx | 15=>(fun v=>[Row 72 4 v (bl.length+1) (cellsB bl++[.int .i64 0,.bool lb,.int .i64 (out.length:Int),.int .i64 (out3.length:Int)])]) vx | 18=>(fun _=>[Ex fun u=>Star (XpB gx gr (.slice VA3 out3.length vc3) most u) (Row 72 4 u (bl.length+1) (cellsB bl++[.int .i64 0,.bool lb,.int .i64 (out.length:Int),.int .i64 (out3.length:Int)]))]) vx | _=>[]) (fun ix=>match ix with | 15=>[Row 72 4 (.slice VB bl.length vd) bl.length (cellsB bl)] | 18=>[XpB gx gr (.slice VA3 out3.length vc3) most (.slice VB bl.length vd)] | _=>[]) 19 56
      [some 37,some 38,some 39,some 40,some 41,some 42,some 43,some 44,some 45,some 46,some 47,some 48,some 49,some 50,some 51,some 52,some 53,some 54,none]
      [[],[],[1],[2],[3],[],[],[],[],[8],[9],[10],[11],[5,6,7,12],[13],[4,14],[0,0,1,2,3,4,5,6,7,8,9,10,11,12,13,14,15],[16,0,1,2,3,4,5,6,7,8,9,10,11,12,13,14,15],[17,15,15,0,1,2,3,4,5,6,7,8,9,10,11,12,13,14,15]]
      [[],[],[1],[1,2],[1,2,3],[],[],[],[],[8],[8,9],[8,9,10],[8,9,10,11],[5,6,7,8,9,10,11,12],[5,6,7,8,9,10,11,12,13],[1,2,3,4,5,6,7,8,9,10,11,12,13,14],[0,1,2,3,4,5,6,7,8,9,10,11,12,13,14,15],[0,1,2,3,4,5,6,7,8,9,10,11,12,13,14,15,16],[0,1,2,3,4,5,6,7,8,9,10,11,12,13,14,15,16,17]]
      [[],[],[],[],[],[],[],[],[],[],[],[],[],[],[],[14],[],[],[15]] [[],[],[],[],[18],[],[],[],[],[],[],[18],[],[],[],[],[],[],[]] [(0,.pointer (some ⟨gx,0,none⟩)),(3,.bool lb),(4,.int .i64 0),(5,.int .i64 (out.length:Int))]
      (by kernel_rfl) rfl (by decide) (by rfl) (by decide +kernel) rfl rfl (by simp) (H3.pick 4 [3,1,0,2]) ?hstep ?hend
     case hstep =>
      refine⟨?p0,⟨?p1,⟨?p2,⟨?p3,⟨?p4,⟨?p5,⟨?p6,⟨?p7,⟨?p8,⟨?p9,⟨?p10,⟨?p11,⟨?p12,⟨?p13,⟨?p14,⟨?p15,⟨?p16,⟨?p17,⟨?p18,trivial⟩⟩⟩⟩⟩⟩⟩⟩⟩⟩⟩⟩⟩⟩⟩⟩⟩⟩⟩
      case p0 | p1 | p2 | p3 | p5 | p6 | p7 | p8 | p9 | p10 | p12 | p13 | p16 | p17 =>
       intro x wx A rest hDf hF hS hE H K hK
       replace hK:=Lib.hid hK
       clear hS hE hDf
       repeat (obtain⟨_,hF⟩:=hF)
       change Oper.wp _ _ A wx K _
       go_step
       exact hK.out _ _ rfl H
      case p4 =>
       intro x wx A rest hDf hF hS hE H K hK0
       replace hDf:=Lib.hid hDf
       have e40:A.tmps[40]?.getD undef=.pointer (some ⟨gx,3,none⟩):=((hS 3 (by decide)).2 40 rfl).trans (hS 3 (by decide)).1
       replace H:Sp w0 ((XpB gx gr (.slice VA3 out3.length vc3) most (.slice VB bl.length vd))::rest) wx:=H
       have hK:Hid (∀(v:Value) (w' : World),v=.slice VB bl.length vd->Sp w0 ((XpB gx gr (.slice VA3 out3.length vc3) most (.slice VB bl.length vd))::rest) w'->K (A.put (some 41) v) w'):=Lib.hid hK0
       clear hK0 hF hS hE
       have c:wx.cell? ⟨gx,3,none⟩=some (.slice VB bl.length vd):=H.cell 0 rfl 3
       change Oper.wp _ _ A wx K _
       go_step
       exact hK.out _ _ rfl (H)
      case p11 =>
       intro x wx A rest hDf hF hS hE H K hK0
       replace hDf:=Lib.hid hDf
       have e47:A.tmps[47]?.getD undef=.pointer (some ⟨gx,1,none⟩):=((hS 10 (by decide)).2 47 rfl).trans (hS 10 (by decide)).1
       replace H:Sp w0 ((XpB gx gr (.slice VA3 out3.length vc3) most (.slice VB bl.length vd))::rest) wx:=H
       have hK:Hid (∀(v:Value) (w' : World),v=.slice VA3 out3.length vc3->Sp w0 ((XpB gx gr (.slice VA3 out3.length vc3) most (.slice VB bl.length vd))::rest) w'->K (A.put (some 48) v) w'):=Lib.hid hK0
       clear hK0 hF hS hE
       have c:wx.cell? ⟨gx,1,none⟩=some (.slice VA3 out3.length vc3):=H.cell 0 rfl 1
       change Oper.wp _ _ A wx K _
       go_step
       exact hK.out _ _ rfl (H)
      case p14 =>
       intro x wx A rest hDf hF hS hE H K hK0
       replace hDf:=Lib.hid hDf
       have e50:A.tmps[50]?.getD undef=.agg #[.int .i64 0,.bool lb,.int .i64 (out.length:Int),.int .i64 (out3.length:Int)]:=((hS 13 (by decide)).2 50 rfl).trans (hS 13 (by decide)).1
       replace H:Sp w0 (rest) wx:=H
       have hK:Hid (∀(v:Value) (w' : World),v=.slice (some ⟨v.ownBlock.getD 0,0,none⟩) 1 1->Sp w0 ((Bk (v.ownBlock.getD 0) 72 [.int .i64 0,.bool lb,.int .i64 (out.length:Int),.int .i64 (out3.length:Int)])::rest) w'->K (A.put (some 51) v) w'):=Lib.hid hK0
       clear hK0 hF hS hE
       change Oper.wp _ _ A wx K _
       go_step
       exact hK.out _ _ rfl (H.newBk _ _)
      case p15 =>
       intro x wx A rest hDf hF hS hE H K hK0
       replace hDf:=Lib.hid hDf
       have e41:A.tmps[41]?.getD undef=.slice VB bl.length vd:=((hS 4 (by decide)).2 41 rfl).trans (hS 4 (by decide)).1
       have q51:(x 14)=.slice (some ⟨(x 14).ownBlock.getD 0,0,none⟩) 1 1:=(hS 14 (by decide)).1
       have e51:A.tmps[51]?.getD undef=x 14:=(hS 14 (by decide)).2 51 rfl
       replace H:Sp w0 ((Row 72 4 (.slice VB bl.length vd) bl.length (cellsB bl))::(Bk ((x 14).ownBlock.getD 0) 72 [.int .i64 0,.bool lb,.int .i64 (out.length:Int),.int .i64 (out3.length:Int)])::rest) wx:=H
       have hK:Hid (∀(v:Value) (w' : World),True->Sp w0 ((Row 72 4 v (bl.length+1) (cellsB bl++[.int .i64 0,.bool lb,.int .i64 (out.length:Int),.int .i64 (out3.length:Int)]))::rest) w'->K (A.put (some 52) v) w'):=Lib.hid hK0
       clear hK0 hF hS hE
       obtain⟨g9,e9⟩:∃g9,(x 14).ownBlock.getD 0=g9:=⟨_,rfl⟩
       rw [q51] at e51
       rw [e9] at e51 H
       have HVD2:=HDM.out
       have hbl2:=HBL.out
       have hmx:maxLen=9223372036854775807:=rfl
       change Oper.wp _ _ A wx K _
       refine wp_append_sp _ _ 68 rfl 72 i0 (.agg #[.int .i64 0,.bool false,.int .i64 0,.int .i64 0]) 4 32 Tryz.underlying68 hi hz0 hz1 hz2 rfl (by decide) (.slice VB bl.length vd) bl.length (cellsB bl) (ev e41) H (some ⟨g9,0,none⟩) 1 1 [.int .i64 0,.bool lb,.int .i64 (out.length:Int),.int .i64 (out3.length:Int)] (ev e51) rfl (Rd.of_blk (H.blk 1 rfl)) (by intro u hu; simp only [List.mem_cons,List.mem_nil_iff,or_false] at hu; rcases hu with rfl | rfl | rfl | rfl <;> rfl) (by omega) (by omega) ?_
       intro v1 w2 H2 _
       exact hK.out _ _ trivial H2.swap.tail
      case p18 =>
       intro x wx A rest hDf hF hS hE H K hK0
       replace hDf:=Lib.hid hDf
       have e54:A.tmps[54]?.getD undef=.pointer (some ⟨gx,3,none⟩):=((hS 17 (by decide)).2 54 rfl).trans (hS 17 (by decide)).1
       have q52:True:=(hS 15 (by decide)).1
       have e52:A.tmps[52]?.getD undef=x 15:=(hS 15 (by decide)).2 52 rfl
       replace H:Sp w0 ((XpB gx gr (.slice VA3 out3.length vc3) most (.slice VB bl.length vd))::(Row 72 4 (x 15) (bl.length+1) (cellsB bl++[.int .i64 0,.bool lb,.int .i64 (out.length:Int),.int .i64 (out3.length:Int)]))::rest) wx:=H
       have hK:Hid (∀(v:Value) (w' : World),v=undef->Sp w0 ((Ex fun u=>Star (XpB gx gr (.slice VA3 out3.length vc3) most u) (Row 72 4 u (bl.length+1) (cellsB bl++[.int .i64 0,.bool lb,.int .i64 (out.length:Int),.int .i64 (out3.length:Int)])))::rest) w'->K (A.put none v) w'):=Lib.hid hK0
       clear hK0 hF hS hE
       have c:wx.cell? ⟨gx,3,none⟩=some (.slice VB bl.length vd):=H.cell 0 rfl 3
       have z:wx.frozen? ⟨gx,3,none⟩=false:=H.frozen 0 rfl 3
       obtain⟨A1,c9,ea,_,_⟩:=Row.form H 1 rfl
       change Oper.wp _ _ A wx K _
       rw [ea] at e52 H
       go_step
       exact hK.out _ _ rfl (Sp.ex (.slice A1 (bl.length+1) c9) (Sp.star (H.set 3 (.slice A1 (bl.length+1) c9))))
     case hend =>
      intro x wx A hA hS H
      replace H:Sp w0 ((Ex fun u=>Star (XpB gx gr (.slice VA3 out3.length vc3) most u) (Row 72 4 u (bl.length+1) (cellsB bl++[.int .i64 0,.bool lb,.int .i64 (out.length:Int),.int .i64 (out3.length:Int)])))::Rr gr l a3::Row 5 1 (.slice VA3 out3.length vc3) out3.length (cells8 out3)::L) wx:=H
      clear hS
      simp only [putAll,Act.put,List.setIfInBounds_toArray,List.set_cons_succ,List.set_cons_zero,Nat.reduceAdd] at hA
      subst hA
      obtain⟨u,H⟩:=H.unex
      replace H:=H.unstar
      have HX:=Lib.hid (H.pick 4 [2,0,3,1])
      clear H H3
      go_wp2
      go_ret
      refine XPost.yes HE.out ⟨rfl,.slice VA3 out3.length vc3,u,?_⟩
      have ec:cellsB (bl++[⟨0,lb,out.length,out3.length⟩])=(cellsB bl++[.int .i64 0,.bool lb,.int .i64 (out.length:Int),.int .i64 (out3.length:Int)]):=by simp [cellsB]
      have h8:=HX.out
      show Sp w0 (Rr gr l a3::XpB gx gr (.slice VA3 out3.length vc3) most u::Row 5 1 (.slice VA3 out3.length vc3) out3.length (cells8 out3)::Row 72 4 u (bl.length+1) (cellsB (bl++[⟨0,lb,out.length,out3.length⟩]))::L) _
      rw [ec]
      exact h8
   ·have g0:((kd:Int) == 0)=false:=by rw [beq_eq_false_iff_ne]; omega
    have g0' : ¬ (kd:Int)=0:=by omega
    by_cases h1:kd=1
    ·subst h1
     go_wp2_with fail
     refine(xfixed_ok H2).mono ?_
     rintro _ w4 ⟨g1,g2,rfl,H4⟩
     have hs:=xpressed_ok gx gr g1 g2 l out most a2 _ _ PI.fixedL PI.fixedD TL TA cl ca (H4.pick 6 [2,3,1,0,4,5]) hle2 HL.out ho HM.out PI.fixed_sum PI.fixed_sumD (by decide) (by decide) (fun w0 w h=>HTB.out w0 w (h.pick 1 []))
     have HS:=Lib.hid hs
     clear hs
     go_wp2_with fail
     refine HS.out.mono ?_
     intro e9 w3 h9
     have hbd:PI.body (PBits.ofB l) most 1 a2 out=PI.pressed (PBits.ofB l) most PI.fixedL PI.fixedD ((PBits.ofB l).length+1) a2 out:=rfl
     unfold XPost at h9
     cases hr:PI.pressed (PBits.ofB l) most PI.fixedL PI.fixedD ((PBits.ofB l).length+1) a2 out with
     | error c =>
      rw [hr] at h9
      obtain⟨rfl,H3⟩:=h9
      have HE:Hid (T=.error c):=Lib.hid (HNO.out c (hbd.trans hr))
      clear hr HS HY HNO hbd
      go_wp2
      exact⟨rfl,XPost.no HE.out (H3.pick 1 [])⟩
     | ok r =>
      obtain⟨a3,out3⟩:=r
      rw [hr] at h9
      obtain⟨rfl,vo3,H3⟩:=h9
      have HE:Hid (T=.ok (lb,1,a3,out3)):=Lib.hid (HY.out _ (hbd.trans hr))
      replace H3:=H3.pick 6 [0,1,4,5]
      simp only at H3
      clear hr HS HY HNO hbd H2 c1 H4
      obtain⟨VA3,vc3,rfl,hnc3,hcm3⟩:=Row.form H3 2 rfl
      go_wp2_with fail
      refine wp_region_sc (L:=Rr gr l a3::Row 5 1 (.slice VA3 out3.length vc3) out3.length (cells8 out3)::L) [some (.pointer (some ⟨gx,0,none⟩)),some (.pointer (some ⟨gx,0,none⟩)),some (.pointer (some ⟨gx,0,none⟩)),some (.pointer (some ⟨gx,3,none⟩)),some (.slice VB bl.length vd),some (.int .i64 1),some (.bool lb),some (.int .i64 (out.length:Int)),some (.pointer (some ⟨gx,0,none⟩)),some (.pointer (some ⟨gx,0,none⟩)),some (.pointer (some ⟨gx,1,none⟩)),some (.slice VA3 out3.length vc3),some (.int .i64 (out3.length:Int)),some (.agg #[.int .i64 1,.bool lb,.int .i64 (out.length:Int),.int .i64 (out3.length:Int)]),none,none,some (.pointer (some ⟨gx,0,none⟩)),some (.pointer (some ⟨gx,3,none⟩)),some (undef)] (fun ix vx=>match ix with | 14=>(fun v=>v=.slice (some ⟨v.ownBlock.getD 0,0,none⟩) 1 1) vx | 15=>(fun _=>True) vx | _=>True) (fun ix vx=>match ix with | 14=>(fun v=>[Bk (v.ownBlock.getD 0) 72 [.int .i64 1,.bool lb,.int .i64 (out.length:Int),.int .i64 (out3.length:Int)]]) vx | 15=>(fun v=>[Row 72 4 v (bl.length+1) (cellsB bl++[.int .i64 1,.bool lb,.int .i64 (out.length:Int),.int .i64 (out3.length:Int)])]) vx | 18=>(fun _=>[Ex fun u=>Star (XpB gx gr (.slice VA3 out3.length vc3) most u) (Row 72 4 u (bl.length+1) (cellsB bl++[.int .i64 1,.bool lb,.int .i64 (out.length:Int),.int .i64 (out3.length:Int)]))]) vx | _=>[]) (fun ix=>match ix with | 15=>[Row 72 4 (.slice VB bl.length vd) bl.length (cellsB bl)] | 18=>[XpB gx gr (.slice VA3 out3.length vc3) most (.slice VB bl.length vd)] | _=>[]) 19 56
       [some 37,some 38,some 39,some 40,some 41,some 42,some 43,some 44,some 45,some 46,some 47,some 48,some 49,some 50,some 51,some 52,some 53,some 54,none]
       [[],[],[1],[2],[3],[],[],[],[],[8],[9],[10],[11],[5,6,7,12],[13],[4,14],[0,0,1,2,3,4,5,6,7,8,9,10,11,12,13,14,15],[16,0,1,2,3,4,5,6,7,8,9,10,11,12,13,14,15],[17,15,15,0,1,2,3,4,5,6,7,8,9,10,11,12,13,14,15]]
       [[],[],[1],[1,2],[1,2,3],[],[],[],[],[8],[8,9],[8,9,10],[8,9,10,11],[5,6,7,8,9,10,11,12],[5,6,7,8,9,10,11,12,13],[1,2,3,4,5,6,7,8,9,10,11,12,13,14],[0,1,2,3,4,5,6,7,8,9,10,11,12,13,14,15],[0,1,2,3,4,5,6,7,8,9,10,11,12,13,14,15,16],[0,1,2,3,4,5,6,7,8,9,10,11,12,13,14,15,16,17]]
       [[],[],[],[],[],[],[],[],[],[],[],[],[],[],[],[14],[],[],[15]] [[],[],[],[],[18],[],[],[],[],[],[],[18],[],[],[],[],[],[],[]] [(0,.pointer (some ⟨gx,0,none⟩)),(3,.bool lb),(4,.int .i64 1),(5,.int .i64 (out.length:Int))]
       (by kernel_rfl) rfl (by decide) (by rfl) (by decide +kernel) rfl rfl (by simp) (H3.pick 4 [3,1,0,2]) ?hstep ?hend
      case hstep =>
       refine⟨?p0,⟨?p1,⟨?p2,⟨?p3,⟨?p4,⟨?p5,⟨?p6,⟨?p7,⟨?p8,⟨?p9,⟨?p10,⟨?p11,⟨?p12,⟨?p13,⟨?p14,⟨?p15,⟨?p16,⟨?p17,⟨?p18,trivial⟩⟩⟩⟩⟩⟩⟩⟩⟩⟩⟩⟩⟩⟩⟩⟩⟩⟩⟩
       case p0 | p1 | p2 | p3 | p5 | p6 | p7 | p8 | p9 | p10 | p12 | p13 | p16 | p17 =>
        intro x wx A rest hDf hF hS hE H K hK
        replace hK:=Lib.hid hK
        clear hS hE hDf
        repeat (obtain⟨_,hF⟩:=hF)
        change Oper.wp _ _ A wx K _
        go_step
        exact hK.out _ _ rfl H
       case p4 =>
        intro x wx A rest hDf hF hS hE H K hK0
        replace hDf:=Lib.hid hDf
        have e40:A.tmps[40]?.getD undef=.pointer (some ⟨gx,3,none⟩):=((hS 3 (by decide)).2 40 rfl).trans (hS 3 (by decide)).1
        replace H:Sp w0 ((XpB gx gr (.slice VA3 out3.length vc3) most (.slice VB bl.length vd))::rest) wx:=H
        have hK:Hid (∀(v:Value) (w' : World),v=.slice VB bl.length vd->Sp w0 ((XpB gx gr (.slice VA3 out3.length vc3) most (.slice VB bl.length vd))::rest) w'->K (A.put (some 41) v) w'):=Lib.hid hK0
        clear hK0 hF hS hE
        have c:wx.cell? ⟨gx,3,none⟩=some (.slice VB bl.length vd):=H.cell 0 rfl 3
        change Oper.wp _ _ A wx K _
        go_step
        exact hK.out _ _ rfl (H)
       case p11 =>
        intro x wx A rest hDf hF hS hE H K hK0
        replace hDf:=Lib.hid hDf
        have e47:A.tmps[47]?.getD undef=.pointer (some ⟨gx,1,none⟩):=((hS 10 (by decide)).2 47 rfl).trans (hS 10 (by decide)).1
        replace H:Sp w0 ((XpB gx gr (.slice VA3 out3.length vc3) most (.slice VB bl.length vd))::rest) wx:=H
        have hK:Hid (∀(v:Value) (w' : World),v=.slice VA3 out3.length vc3->Sp w0 ((XpB gx gr (.slice VA3 out3.length vc3) most (.slice VB bl.length vd))::rest) w'->K (A.put (some 48) v) w'):=Lib.hid hK0
        clear hK0 hF hS hE
        have c:wx.cell? ⟨gx,1,none⟩=some (.slice VA3 out3.length vc3):=H.cell 0 rfl 1
        change Oper.wp _ _ A wx K _
        go_step
        exact hK.out _ _ rfl (H)
       case p14 =>
        intro x wx A rest hDf hF hS hE H K hK0
        replace hDf:=Lib.hid hDf
        have e50:A.tmps[50]?.getD undef=.agg #[.int .i64 1,.bool lb,.int .i64 (out.length:Int),.int .i64 (out3.length:Int)]:=((hS 13 (by decide)).2 50 rfl).trans (hS 13 (by decide)).1
        replace H:Sp w0 (rest) wx:=H
        have hK:Hid (∀(v:Value) (w' : World),v=.slice (some ⟨v.ownBlock.getD 0,0,none⟩) 1 1->Sp w0 ((Bk (v.ownBlock.getD 0) 72 [.int .i64 1,.bool lb,.int .i64 (out.length:Int),.int .i64 (out3.length:Int)])::rest) w'->K (A.put (some 51) v) w'):=Lib.hid hK0
        clear hK0 hF hS hE
        change Oper.wp _ _ A wx K _
        go_step
        exact hK.out _ _ rfl (H.newBk _ _)
       case p15 =>
        intro x wx A rest hDf hF hS hE H K hK0
        replace hDf:=Lib.hid hDf
        have e41:A.tmps[41]?.getD undef=.slice VB bl.length vd:=((hS 4 (by decide)).2 41 rfl).trans (hS 4 (by decide)).1
        have q51:(x 14)=.slice (some ⟨(x 14).ownBlock.getD 0,0,none⟩) 1 1:=(hS 14 (by decide)).1
        have e51:A.tmps[51]?.getD undef=x 14:=(hS 14 (by decide)).2 51 rfl
        replace H:Sp w0 ((Row 72 4 (.slice VB bl.length vd) bl.length (cellsB bl))::(Bk ((x 14).ownBlock.getD 0) 72 [.int .i64 1,.bool lb,.int .i64 (out.length:Int),.int .i64 (out3.length:Int)])::rest) wx:=H
        have hK:Hid (∀(v:Value) (w' : World),True->Sp w0 ((Row 72 4 v (bl.length+1) (cellsB bl++[.int .i64 1,.bool lb,.int .i64 (out.length:Int),.int .i64 (out3.length:Int)]))::rest) w'->K (A.put (some 52) v) w'):=Lib.hid hK0
        clear hK0 hF hS hE
        obtain⟨g9,e9⟩:∃g9,(x 14).ownBlock.getD 0=g9:=⟨_,rfl⟩
        rw [q51] at e51
        rw [e9] at e51 H
        have HVD2:=HDM.out
        have hbl2:=HBL.out
        have hmx:maxLen=9223372036854775807:=rfl
        change Oper.wp _ _ A wx K _
        refine wp_append_sp _ _ 68 rfl 72 i0 (.agg #[.int .i64 0,.bool false,.int .i64 0,.int .i64 0]) 4 32 Tryz.underlying68 hi hz0 hz1 hz2 rfl (by decide) (.slice VB bl.length vd) bl.length (cellsB bl) (ev e41) H (some ⟨g9,0,none⟩) 1 1 [.int .i64 1,.bool lb,.int .i64 (out.length:Int),.int .i64 (out3.length:Int)] (ev e51) rfl (Rd.of_blk (H.blk 1 rfl)) (by intro u hu; simp only [List.mem_cons,List.mem_nil_iff,or_false] at hu; rcases hu with rfl | rfl | rfl | rfl <;> rfl) (by omega) (by omega) ?_
        intro v1 w2 H2 _
        exact hK.out _ _ trivial H2.swap.tail
       case p18 =>
        intro x wx A rest hDf hF hS hE H K hK0
        replace hDf:=Lib.hid hDf
        have e54:A.tmps[54]?.getD undef=.pointer (some ⟨gx,3,none⟩):=((hS 17 (by decide)).2 54 rfl).trans (hS 17 (by decide)).1
        have q52:True:=(hS 15 (by decide)).1
        have e52:A.tmps[52]?.getD undef=x 15:=(hS 15 (by decide)).2 52 rfl
        replace H:Sp w0 ((XpB gx gr (.slice VA3 out3.length vc3) most (.slice VB bl.length vd))::(Row 72 4 (x 15) (bl.length+1) (cellsB bl++[.int .i64 1,.bool lb,.int .i64 (out.length:Int),.int .i64 (out3.length:Int)]))::rest) wx:=H
        have hK:Hid (∀(v:Value) (w' : World),v=undef->Sp w0 ((Ex fun u=>Star (XpB gx gr (.slice VA3 out3.length vc3) most u) (Row 72 4 u (bl.length+1) (cellsB bl++[.int .i64 1,.bool lb,.int .i64 (out.length:Int),.int .i64 (out3.length:Int)])))::rest) w'->K (A.put none v) w'):=Lib.hid hK0
        clear hK0 hF hS hE
        have c:wx.cell? ⟨gx,3,none⟩=some (.slice VB bl.length vd):=H.cell 0 rfl 3
        have z:wx.frozen? ⟨gx,3,none⟩=false:=H.frozen 0 rfl 3
        obtain⟨A1,c9,ea,_,_⟩:=Row.form H 1 rfl
        change Oper.wp _ _ A wx K _
        rw [ea] at e52 H
        go_step
        exact hK.out _ _ rfl (Sp.ex (.slice A1 (bl.length+1) c9) (Sp.star (H.set 3 (.slice A1 (bl.length+1) c9))))
      case hend =>
       intro x wx A hA hS H
       replace H:Sp w0 ((Ex fun u=>Star (XpB gx gr (.slice VA3 out3.length vc3) most u) (Row 72 4 u (bl.length+1) (cellsB bl++[.int .i64 1,.bool lb,.int .i64 (out.length:Int),.int .i64 (out3.length:Int)])))::Rr gr l a3::Row 5 1 (.slice VA3 out3.length vc3) out3.length (cells8 out3)::L) wx:=H
       clear hS
       simp only [putAll,Act.put,List.setIfInBounds_toArray,List.set_cons_succ,List.set_cons_zero,Nat.reduceAdd] at hA
       subst hA
       obtain⟨u,H⟩:=H.unex
       replace H:=H.unstar
       have HX:=Lib.hid (H.pick 4 [2,0,3,1])
       clear H H3
       go_wp2
       go_ret
       refine XPost.yes HE.out ⟨rfl,.slice VA3 out3.length vc3,u,?_⟩
       have ec:cellsB (bl++[⟨1,lb,out.length,out3.length⟩])=(cellsB bl++[.int .i64 1,.bool lb,.int .i64 (out.length:Int),.int .i64 (out3.length:Int)]):=by simp [cellsB]
       have h8:=HX.out
       show Sp w0 (Rr gr l a3::XpB gx gr (.slice VA3 out3.length vc3) most u::Row 5 1 (.slice VA3 out3.length vc3) out3.length (cells8 out3)::Row 72 4 u (bl.length+1) (cellsB (bl++[⟨1,lb,out.length,out3.length⟩]))::L) _
       rw [ec]
       exact h8
    ·have g1:((kd:Int) == 1)=false:=by rw [beq_eq_false_iff_ne]; omega
     have g1' : ¬ (kd:Int)=1:=by omega
     by_cases h2:kd=2
     ·subst h2
      have hd:=xdyn_ok gx gr l most a2 _ _ TL TA cl ca H2 hle2 HL.out (fun w0 w h=>HTB.out w0 w (h.pick 2 []))
      have HD:=Lib.hid hd
      clear hd
      go_wp2_with fail
      refine HD.out.mono ?_
      intro e9 w4 h9
      unfold XPost at h9
      cases hr:PI.dynamic (PBits.ofB l) a2 with
      | error c =>
       rw [hr] at h9
       obtain⟨rfl,H3⟩:=h9
       have hbd:PI.body (PBits.ofB l) most 2 a2 out=.error c:=by
        show(PI.dynamic _ _).bind _=_
        rw [hr]; rfl
       have HE:Hid (T=.error c):=Lib.hid (HNO.out c hbd)
       clear hr HD HY HNO hbd
       go_wp2
       exact⟨rfl,XPost.no HE.out (H3.pick 2 [])⟩
      | ok r =>
       obtain⟨a4,m,d⟩:=r
       rw [hr] at h9
       obtain⟨g1,g2,rfl,H4⟩:=h9
       simp only at H4
       obtain⟨hb1,hb2,hm1,hd1⟩:=PI.dynamic_ok hr
       have ha4:a4<=8 * l.length:=by
        have:=(PI.Fine.dynamic (a:=a2) (o:=0)).pos (PBits.ofB l) 0 (by rw [PBits.ofB_length]; exact hle2) (Nat.zero_le _) _ hr
        have h9:=this.2.1
        rw [PBits.ofB_length] at h9
        exact h9
       have hs:=xpressed_ok gx gr g1 g2 l out most a4 _ _ m d TL TA cl ca (H4.pick 6 [2,3,1,0,4,5]) ha4 HL.out ho HM.out (PI.book_sum hb1) (PI.book_sum hb2) hm1 hd1 (fun w0 w h=>HTB.out w0 w (h.pick 1 []))
       have HS:=Lib.hid hs
       have hbd:PI.body (PBits.ofB l) most 2 a2 out=PI.pressed (PBits.ofB l) most m d ((PBits.ofB l).length+1) a4 out:=by
        show(PI.dynamic _ _).bind _=_
        rw [hr]; rfl
       have HBD:=Lib.hid hbd
       clear hs hr HD hb1 hb2 hm1 hd1 hbd
       go_wp2_with fail
       refine HS.out.mono ?_
       intro e9 w3 h9
       unfold XPost at h9
       cases hr:PI.pressed (PBits.ofB l) most m d ((PBits.ofB l).length+1) a4 out with
       | error c =>
        rw [hr] at h9
        obtain⟨rfl,H3⟩:=h9
        have HE:Hid (T=.error c):=Lib.hid (HNO.out c (HBD.out.trans hr))
        clear hr HS HY HNO HBD
        go_wp2
        exact⟨rfl,XPost.no HE.out (H3.pick 1 [])⟩
       | ok r =>
        obtain⟨a3,out3⟩:=r
        rw [hr] at h9
        obtain⟨rfl,vo3,H3⟩:=h9
        have HE:Hid (T=.ok (lb,2,a3,out3)):=Lib.hid (HY.out _ (HBD.out.trans hr))
        replace H3:=H3.pick 6 [0,1,4,5]
        simp only at H3
        clear hr HS HY HNO HBD H2 c1 H4
        obtain⟨VA3,vc3,rfl,hnc3,hcm3⟩:=Row.form H3 2 rfl
        go_wp2_with fail
        refine wp_region_sc (L:=Rr gr l a3::Row 5 1 (.slice VA3 out3.length vc3) out3.length (cells8 out3)::L) [some (.pointer (some ⟨gx,0,none⟩)),some (.pointer (some ⟨gx,0,none⟩)),some (.pointer (some ⟨gx,0,none⟩)),some (.pointer (some ⟨gx,3,none⟩)),some (.slice VB bl.length vd),some (.int .i64 2),some (.bool lb),some (.int .i64 (out.length:Int)),some (.pointer (some ⟨gx,0,none⟩)),some (.pointer (some ⟨gx,0,none⟩)),some (.pointer (some ⟨gx,1,none⟩)),some (.slice VA3 out3.length vc3),some (.int .i64 (out3.length:Int)),some (.agg #[.int .i64 2,.bool lb,.int .i64 (out.length:Int),.int .i64 (out3.length:Int)]),none,none,some (.pointer (some ⟨gx,0,none⟩)),some (.pointer (some ⟨gx,3,none⟩)),some (undef)] (fun ix vx=>match ix with | 14=>(fun v=>v=.slice (some ⟨v.ownBlock.getD 0,0,none⟩) 1 1) vx | 15=>(fun _=>True) vx | _=>True) (fun ix vx=>match ix with | 14=>(fun v=>[Bk (v.ownBlock.getD 0) 72 [.int .i64 2,.bool lb,.int .i64 (out.length:Int),.int .i64 (out3.length:Int)]]) vx | 15=>(fun v=>[Row 72 4 v (bl.length+1) (cellsB bl++[.int .i64 2,.bool lb,.int .i64 (out.length:Int),.int .i64 (out3.length:Int)])]) vx | 18=>(fun _=>[Ex fun u=>Star (XpB gx gr (.slice VA3 out3.length vc3) most u) (Row 72 4 u (bl.length+1) (cellsB bl++[.int .i64 2,.bool lb,.int .i64 (out.length:Int),.int .i64 (out3.length:Int)]))]) vx | _=>[]) (fun ix=>match ix with | 15=>[Row 72 4 (.slice VB bl.length vd) bl.length (cellsB bl)] | 18=>[XpB gx gr (.slice VA3 out3.length vc3) most (.slice VB bl.length vd)] | _=>[]) 19 56
         [some 37,some 38,some 39,some 40,some 41,some 42,some 43,some 44,some 45,some 46,some 47,some 48,some 49,some 50,some 51,some 52,some 53,some 54,none]
         [[],[],[1],[2],[3],[],[],[],[],[8],[9],[10],[11],[5,6,7,12],[13],[4,14],[0,0,1,2,3,4,5,6,7,8,9,10,11,12,13,14,15],[16,0,1,2,3,4,5,6,7,8,9,10,11,12,13,14,15],[17,15,15,0,1,2,3,4,5,6,7,8,9,10,11,12,13,14,15]]
         [[],[],[1],[1,2],[1,2,3],[],[],[],[],[8],[8,9],[8,9,10],[8,9,10,11],[5,6,7,8,9,10,11,12],[5,6,7,8,9,10,11,12,13],[1,2,3,4,5,6,7,8,9,10,11,12,13,14],[0,1,2,3,4,5,6,7,8,9,10,11,12,13,14,15],[0,1,2,3,4,5,6,7,8,9,10,11,12,13,14,15,16],[0,1,2,3,4,5,6,7,8,9,10,11,12,13,14,15,16,17]]
         [[],[],[],[],[],[],[],[],[],[],[],[],[],[],[],[14],[],[],[15]] [[],[],[],[],[18],[],[],[],[],[],[],[18],[],[],[],[],[],[],[]] [(0,.pointer (some ⟨gx,0,none⟩)),(3,.bool lb),(4,.int .i64 2),(5,.int .i64 (out.length:Int))]
         (by kernel_rfl) rfl (by decide) (by rfl) (by decide +kernel) rfl rfl (by simp) (H3.pick 4 [3,1,0,2]) ?hstep ?hend
        case hstep =>
         refine⟨?p0,⟨?p1,⟨?p2,⟨?p3,⟨?p4,⟨?p5,⟨?p6,⟨?p7,⟨?p8,⟨?p9,⟨?p10,⟨?p11,⟨?p12,⟨?p13,⟨?p14,⟨?p15,⟨?p16,⟨?p17,⟨?p18,trivial⟩⟩⟩⟩⟩⟩⟩⟩⟩⟩⟩⟩⟩⟩⟩⟩⟩⟩⟩
         case p0 | p1 | p2 | p3 | p5 | p6 | p7 | p8 | p9 | p10 | p12 | p13 | p16 | p17 =>
          intro x wx A rest hDf hF hS hE H K hK
          replace hK:=Lib.hid hK
          clear hS hE hDf
          repeat (obtain⟨_,hF⟩:=hF)
          change Oper.wp _ _ A wx K _
          go_step
          exact hK.out _ _ rfl H
         case p4 =>
          intro x wx A rest hDf hF hS hE H K hK0
          replace hDf:=Lib.hid hDf
          have e40:A.tmps[40]?.getD undef=.pointer (some ⟨gx,3,none⟩):=((hS 3 (by decide)).2 40 rfl).trans (hS 3 (by decide)).1
          replace H:Sp w0 ((XpB gx gr (.slice VA3 out3.length vc3) most (.slice VB bl.length vd))::rest) wx:=H
          have hK:Hid (∀(v:Value) (w' : World),v=.slice VB bl.length vd->Sp w0 ((XpB gx gr (.slice VA3 out3.length vc3) most (.slice VB bl.length vd))::rest) w'->K (A.put (some 41) v) w'):=Lib.hid hK0
          clear hK0 hF hS hE
          have c:wx.cell? ⟨gx,3,none⟩=some (.slice VB bl.length vd):=H.cell 0 rfl 3
          change Oper.wp _ _ A wx K _
          go_step
          exact hK.out _ _ rfl (H)
         case p11 =>
          intro x wx A rest hDf hF hS hE H K hK0
          replace hDf:=Lib.hid hDf
          have e47:A.tmps[47]?.getD undef=.pointer (some ⟨gx,1,none⟩):=((hS 10 (by decide)).2 47 rfl).trans (hS 10 (by decide)).1
          replace H:Sp w0 ((XpB gx gr (.slice VA3 out3.length vc3) most (.slice VB bl.length vd))::rest) wx:=H
          have hK:Hid (∀(v:Value) (w' : World),v=.slice VA3 out3.length vc3->Sp w0 ((XpB gx gr (.slice VA3 out3.length vc3) most (.slice VB bl.length vd))::rest) w'->K (A.put (some 48) v) w'):=Lib.hid hK0
          clear hK0 hF hS hE
          have c:wx.cell? ⟨gx,1,none⟩=some (.slice VA3 out3.length vc3):=H.cell 0 rfl 1
          change Oper.wp _ _ A wx K _
          go_step
          exact hK.out _ _ rfl (H)
         case p14 =>
          intro x wx A rest hDf hF hS hE H K hK0
          replace hDf:=Lib.hid hDf
          have e50:A.tmps[50]?.getD undef=.agg #[.int .i64 2,.bool lb,.int .i64 (out.length:Int),.int .i64 (out3.length:Int)]:=((hS 13 (by decide)).2 50 rfl).trans (hS 13 (by decide)).1
          replace H:Sp w0 (rest) wx:=H
          have hK:Hid (∀(v:Value) (w' : World),v=.slice (some ⟨v.ownBlock.getD 0,0,none⟩) 1 1->Sp w0 ((Bk (v.ownBlock.getD 0) 72 [.int .i64 2,.bool lb,.int .i64 (out.length:Int),.int .i64 (out3.length:Int)])::rest) w'->K (A.put (some 51) v) w'):=Lib.hid hK0
          clear hK0 hF hS hE
          change Oper.wp _ _ A wx K _
          go_step
          exact hK.out _ _ rfl (H.newBk _ _)
         case p15 =>
          intro x wx A rest hDf hF hS hE H K hK0
          replace hDf:=Lib.hid hDf
          have e41:A.tmps[41]?.getD undef=.slice VB bl.length vd:=((hS 4 (by decide)).2 41 rfl).trans (hS 4 (by decide)).1
          have q51:(x 14)=.slice (some ⟨(x 14).ownBlock.getD 0,0,none⟩) 1 1:=(hS 14 (by decide)).1
          have e51:A.tmps[51]?.getD undef=x 14:=(hS 14 (by decide)).2 51 rfl
          replace H:Sp w0 ((Row 72 4 (.slice VB bl.length vd) bl.length (cellsB bl))::(Bk ((x 14).ownBlock.getD 0) 72 [.int .i64 2,.bool lb,.int .i64 (out.length:Int),.int .i64 (out3.length:Int)])::rest) wx:=H
          have hK:Hid (∀(v:Value) (w' : World),True->Sp w0 ((Row 72 4 v (bl.length+1) (cellsB bl++[.int .i64 2,.bool lb,.int .i64 (out.length:Int),.int .i64 (out3.length:Int)]))::rest) w'->K (A.put (some 52) v) w'):=Lib.hid hK0
          clear hK0 hF hS hE
          obtain⟨g9,e9⟩:∃g9,(x 14).ownBlock.getD 0=g9:=⟨_,rfl⟩
          rw [q51] at e51
          rw [e9] at e51 H
          have HVD2:=HDM.out
          have hbl2:=HBL.out
          have hmx:maxLen=9223372036854775807:=rfl
          change Oper.wp _ _ A wx K _
          refine wp_append_sp _ _ 68 rfl 72 i0 (.agg #[.int .i64 0,.bool false,.int .i64 0,.int .i64 0]) 4 32 Tryz.underlying68 hi hz0 hz1 hz2 rfl (by decide) (.slice VB bl.length vd) bl.length (cellsB bl) (ev e41) H (some ⟨g9,0,none⟩) 1 1 [.int .i64 2,.bool lb,.int .i64 (out.length:Int),.int .i64 (out3.length:Int)] (ev e51) rfl (Rd.of_blk (H.blk 1 rfl)) (by intro u hu; simp only [List.mem_cons,List.mem_nil_iff,or_false] at hu; rcases hu with rfl | rfl | rfl | rfl <;> rfl) (by omega) (by omega) ?_
          intro v1 w2 H2 _
          exact hK.out _ _ trivial H2.swap.tail
         case p18 =>
          intro x wx A rest hDf hF hS hE H K hK0
          replace hDf:=Lib.hid hDf
          have e54:A.tmps[54]?.getD undef=.pointer (some ⟨gx,3,none⟩):=((hS 17 (by decide)).2 54 rfl).trans (hS 17 (by decide)).1
          have q52:True:=(hS 15 (by decide)).1
          have e52:A.tmps[52]?.getD undef=x 15:=(hS 15 (by decide)).2 52 rfl
          replace H:Sp w0 ((XpB gx gr (.slice VA3 out3.length vc3) most (.slice VB bl.length vd))::(Row 72 4 (x 15) (bl.length+1) (cellsB bl++[.int .i64 2,.bool lb,.int .i64 (out.length:Int),.int .i64 (out3.length:Int)]))::rest) wx:=H
          have hK:Hid (∀(v:Value) (w' : World),v=undef->Sp w0 ((Ex fun u=>Star (XpB gx gr (.slice VA3 out3.length vc3) most u) (Row 72 4 u (bl.length+1) (cellsB bl++[.int .i64 2,.bool lb,.int .i64 (out.length:Int),.int .i64 (out3.length:Int)])))::rest) w'->K (A.put none v) w'):=Lib.hid hK0
          clear hK0 hF hS hE
          have c:wx.cell? ⟨gx,3,none⟩=some (.slice VB bl.length vd):=H.cell 0 rfl 3
          have z:wx.frozen? ⟨gx,3,none⟩=false:=H.frozen 0 rfl 3
          obtain⟨A1,c9,ea,_,_⟩:=Row.form H 1 rfl
          change Oper.wp _ _ A wx K _
          rw [ea] at e52 H
          go_step
          exact hK.out _ _ rfl (Sp.ex (.slice A1 (bl.length+1) c9) (Sp.star (H.set 3 (.slice A1 (bl.length+1) c9))))
        case hend =>
         intro x wx A hA hS H
         replace H:Sp w0 ((Ex fun u=>Star (XpB gx gr (.slice VA3 out3.length vc3) most u) (Row 72 4 u (bl.length+1) (cellsB bl++[.int .i64 2,.bool lb,.int .i64 (out.length:Int),.int .i64 (out3.length:Int)])))::Rr gr l a3::Row 5 1 (.slice VA3 out3.length vc3) out3.length (cells8 out3)::L) wx:=H
         clear hS
         simp only [putAll,Act.put,List.setIfInBounds_toArray,List.set_cons_succ,List.set_cons_zero,Nat.reduceAdd] at hA
         subst hA
         obtain⟨u,H⟩:=H.unex
         replace H:=H.unstar
         have HX:=Lib.hid (H.pick 4 [2,0,3,1])
         clear H H3
         go_wp2
         go_ret
         refine XPost.yes HE.out ⟨rfl,.slice VA3 out3.length vc3,u,?_⟩
         have ec:cellsB (bl++[⟨2,lb,out.length,out3.length⟩])=(cellsB bl++[.int .i64 2,.bool lb,.int .i64 (out.length:Int),.int .i64 (out3.length:Int)]):=by simp [cellsB]
         have h8:=HX.out
         show Sp w0 (Rr gr l a3::XpB gx gr (.slice VA3 out3.length vc3) most u::Row 5 1 (.slice VA3 out3.length vc3) out3.length (cells8 out3)::Row 72 4 u (bl.length+1) (cellsB (bl++[⟨2,lb,out.length,out3.length⟩]))::L) _
         rw [ec]
         exact h8
     ·have g2:((kd:Int) == 2)=false:=by rw [beq_eq_false_iff_ne]; omega
      have g2' : ¬ (kd:Int)=2:=by omega
      have hbd:PI.body (PBits.ofB l) most kd a2 out=.error 20:=by
       unfold PI.body
       rw [if_neg h0,if_neg h1,if_neg h2]
      have HE:Hid (T=.error 20):=Lib.hid (HNO.out 20 hbd)
      clear hbd HY HNO
      go_wp2
      exact⟨rfl,XPost.no HE.out (H2.pick 4 [])⟩
set_option maxRecDepth 100000 in
set_option maxHeartbeats 4000000 in
theorem assert_err (v:Value) (W:World):(Instr.typeAssert (.iface 32 v) 20 32 true).run Tryz.prog W=.ok (.tuple #[v,.bool true]) W:=by kernel_rfl
set_option maxRecDepth 100000 in
set_option maxHeartbeats 4000000 in
theorem xcatch_pan (px pe c:Nat) (v0 e0:Value) (w:World) (hx:w.cell? ⟨px,0,none⟩=some v0) (zx:w.frozen? ⟨px,0,none⟩=false) (he:(w.setCell ⟨px,0,none⟩ (.pointer none)).cell? ⟨pe,0,none⟩=some e0) (ze:(w.setCell ⟨px,0,none⟩ (.pointer none)).frozen? ⟨pe,0,none⟩=false) :
  CallsD Tryz.prog 98 #[.pointer (some ⟨px,0,none⟩),.pointer (some ⟨pe,0,none⟩)] (.panicking (pan c)) w fun e u' w' =>
   e=.returned (.tuple #[])/\u'=.panicking [{ v:=.iface 32 (.int .i64 (c:Int)),recovered:=true }]/\w'=(w.setCell ⟨px,0,none⟩ (.pointer none)).setCell ⟨pe,0,none⟩ (.int .i64 (c:Int)):=by
 refine callsD_of_wpS Tryz.func98 rfl fun c₀ cs hu=>?_
 unfold pan at hu
 have hta:=assert_err (.int .i64 (c:Int))
 apply wpS_seq
 apply wpS_region
 simp [wpOpsS,go_sem,recoverD,hu,Tryz.ntmps98,Exit.thenS]
 refine wpS_of_wp ?_
 go_wp2
 simp [bodyPostS,results,Tryz.results98]
set_option maxHeartbeats 4000000 in
theorem xcatch_idle (px pe:Nat) (w:World) :
  CallsD Tryz.prog 98 #[.pointer (some ⟨px,0,none⟩),.pointer (some ⟨pe,0,none⟩)] .returning w fun e u' w'=>e=.returned (.tuple #[])/\u'=.returning/\w'=w:=by
 refine callsD_of_wpS Tryz.func98 rfl fun c₀ cs hu=>?_
 apply wpS_seq
 apply wpS_region
 simp [wpOpsS,go_sem,recoverD,hu,Tryz.ntmps98,Exit.thenS]
 refine wpS_of_wp ?_
 go_wp2
 cases c₀
 simp_all [bodyPostS,results,Tryz.results98]
namespace PI
theorem blocks_step {B:List Bool} {most f a:Nat} {out:List UInt8} {bl:List Blk} : blocks B most (f+1) a out bl=(block B most a out).bind fun r =>
  if r.1 then .ok (r.2.2.1,r.2.2.2,bl++[⟨r.2.1,r.1,out.length,r.2.2.2.length⟩]) else blocks B most f r.2.2.1 r.2.2.2 (bl++[⟨r.2.1,r.1,out.length,r.2.2.2.length⟩]):=rfl
end PI
def Xd (gx:Nat) (l:List UInt8) (most:Nat) (r:Nat × List UInt8 × List PI.Blk):Pr:=Ex fun gr:Nat=>Ex fun vo:Value=>Ex fun vb:Value=>Star (Rr gr l r.1) (Star (XpB gx gr vo most vb) (Star (Row 5 1 vo r.2.1.length (cells8 r.2.1)) (Row 72 4 vb r.2.2.length (cellsB r.2.2))))
def XEnd (w0:World) (L:List Pr) (l:List UInt8) (most:Nat) (T:Except Nat (Nat × List UInt8 × List PI.Blk)) (e:Ending) (w' : World):Prop :=
 match T with
 | .error c=>e=.returned (.tuple #[.pointer none,.int .i64 (c:Int)])/\Sp w0 L w'
 | .ok r=>∃gx,e=.returned (.tuple #[.pointer (some ⟨gx,0,none⟩),.int .i64 0])/\Sp w0 (Xd gx l most r::L) w'
theorem XEnd.no {w0:World} {L:List Pr} {l:List UInt8} {most:Nat} {T:Except Nat (Nat × List UInt8 × List PI.Blk)} {w' : World} {c:Nat} (h:T=.error c) (H:Sp w0 L w'):XEnd w0 L l most T (.returned (.tuple #[.pointer none,.int .i64 (c:Int)])) w':=by
 subst h; exact⟨rfl,H⟩
theorem XEnd.yes {w0:World} {L:List Pr} {l:List UInt8} {most:Nat} {T:Except Nat (Nat × List UInt8 × List PI.Blk)} {w' : World} {r:Nat × List UInt8 × List PI.Blk} {gx:Nat} (h:T=.ok r) (H:Sp w0 (Xd gx l most r::L) w'):XEnd w0 L l most T (.returned (.tuple #[.pointer (some ⟨gx,0,none⟩),.int .i64 0])) w':=by
 subst h; exact⟨gx,rfl,H⟩
set_option maxRecDepth 100000 in
set_option maxHeartbeats 8000000 in
theorem xexpand_ok (v:Value) (l:List UInt8) (most:Nat) (TL TA:Option Addr) (cl ca:Nat) {w0 w:World} {L:List Pr} (H:Sp w0 L w) (hb:Ent L fun w=>Byt w v l) (hl:l.length<=100000000) (hm:most<=1000000000) (hT:Ent L (Tabs TL TA cl ca)) :
  Calls Tryz.prog 60 #[v,.int .i64 (most:Int)] w (XEnd w0 L l most (PI.all (PBits.ofB l) most)):=by
 obtain⟨T,hTT⟩:∃T,PI.all (PBits.ofB l) most=T:=⟨_,rfl⟩
 rw [hTT]
 unfold PI.all at hTT
 have HT0:=Lib.hid hTT
 have HL:=Lib.hid hl
 have HTB:=Lib.hid hT
 have HM:=Lib.hid hm
 have hmf:∀(fn:Fn) (first cap:Array Value) (w:World),(Instr.makeFunc fn first cap).run Tryz.prog w=.ok (.func fn first cap) w:=fun _ _ _ _=>rfl
 have k0:¬ (most:Int)<0:=by omega
 have es:(w.alloc (.cells #[.pointer none] 114)).heap.size=w.heap.size+1:=Array.size_push _
 have H1:=(H.newBk [.pointer none] 114).newBk [.int .i64 0] 32
 rw [es] at H1
 clear es
 have HB:=Lib.hid hb
 clear hTT hT hb hm hl
 go_enter_defers Tryz.func60,Tryz.ntmps60
 go_wp2_with fail
 generalize w.heap.size+1=pe at H1 ⊢
 generalize w.heap.size=px at H1 ⊢
 generalize (w.alloc _).alloc _=w1 at H1 ⊢
 refine(newReader_ok (l:=l) H1 (HB.out _ _ (H1.pick 2 [])) (by have:=HL.out; omega)).mono ?_
 rintro _ w2 ⟨_,rfl,gr,rfl,H2⟩
 obtain⟨gx,hgx⟩:∃gx,w2.heap.size=gx:=⟨_,rfl⟩
 have H3:=H2.newBk [.pointer (some ⟨gr,0,none⟩),.slice none 0 0,.int .i64 (most:Int),.slice none 0 0] 119
 rw [hgx] at H3
 have H4:=(H3.pick 4 [3,0,1,2])
 have c4:(w2.alloc (.cells #[.pointer (some ⟨gr,0,none⟩),.slice none 0 0,.int .i64 (most:Int),.slice none 0 0] 119)).cell? ⟨px,0,none⟩=some (.pointer none):=H4.cell 0 rfl 0
 have z4:(w2.alloc (.cells #[.pointer (some ⟨gr,0,none⟩),.slice none 0 0,.int .i64 (most:Int),.slice none 0 0] 119)).frozen? ⟨px,0,none⟩=false:=H4.frozen 0 rfl 0
 have H5:=H4.set 0 (.pointer (some ⟨gx,0,none⟩))
 have H6:=(((H5.pick 4 [2,1,0,3]).rowNil 72 4).rowNil 5 1)
 have H7:Sp w0 (Rr gr l 0::XpB gx gr (.slice none 0 0) most (.slice none 0 0)::Row 5 1 (.slice none 0 0) 0 []::Row 72 4 (.slice none 0 0) 0 []::Bk px 114 [.pointer (some ⟨gx,0,none⟩)]::Bk pe 32 [.int .i64 0]::L) _:=H6.pick 6 [2,3,0,1,4,5]
 have HH7:=Lib.hid H7
 clear H H1 H2 H3 H4 H5 H6 H7
 go_wp2_with fail
 generalize World.setCell _ _ _=w5 at HH7 ⊢
 go_loopw [] (fun wr=>∃(a f:Nat) (vo vb:Value) (out:List UInt8) (bl:List PI.Blk),a<=8 * l.length/\8 * l.length<a+f/\out.length<=most/\bl.length<=a/\PI.blocks (PBits.ofB l) most f a out bl=T/\Sp w0 (Rr gr l a::XpB gx gr vo most vb::Row 5 1 vo out.length (cells8 out)::Row 72 4 vb bl.length (cellsB bl)::Bk px 114 [.pointer (some ⟨gx,0,none⟩)]::Bk pe 32 [.int .i64 0]::L) wr) (fun wr=>8 * l.length+1 - atOf gr wr)
 case atStart=>exact⟨0,(PBits.ofB l).length+1,_,_,[],[],Nat.zero_le _,by rw [PBits.ofB_length]; omega,Nat.zero_le _,Nat.zero_le _,HT0.out,HH7.out⟩
 case round =>
  obtain⟨a,f,vo,vb,out,bl,haa,hf,hol,hbl,hst,H1⟩:=hrel
  clear HH7 HT0
  obtain⟨f,rfl⟩:∃f',f=f'+1:=⟨f - 1,by omega⟩
  rw [PI.blocks_step] at hst
  have HST:=Lib.hid hst
  have HA:Hid (atOf gr wr=a):=Lib.hid (atOf_rr H1)
  have hq:=xblock_ok gx gr l out bl most a vo vb TL TA cl ca H1 haa HL.out hol HM.out (by have:=HL.out; omega) (fun w0 w h=>HTB.out w0 w (h.pick 2 []))
  have HQ:=Lib.hid hq
  have c1:wr.cell? ⟨px,0,none⟩=some (.pointer (some ⟨gx,0,none⟩)):=H1.cell 4 rfl 0
  clear hst hq
  go_wp2_with fail
  refine HQ.out.mono ?_
  intro e9 w2 h9
  unfold XPost at h9
  cases hr:PI.block (PBits.ofB l) most a out with
  | error c =>
   rw [hr] at h9
   obtain⟨rfl,H2⟩:=h9
   have HE:T=.error c:=by rw [<- HST.out,hr]; rfl
   have d1:w2.cell? ⟨px,0,none⟩=some (.pointer (some ⟨gx,0,none⟩)):=H2.cell 0 rfl 0
   have z1:w2.frozen? ⟨px,0,none⟩=false:=H2.frozen 0 rfl 0
   have H3:=(H2.set 0 (.pointer none)).swap
   have d2:(w2.setCell ⟨px,0,none⟩ (.pointer none)).cell? ⟨pe,0,none⟩=some (.int .i64 0):=H3.cell 0 rfl 0
   have z2:(w2.setCell ⟨px,0,none⟩ (.pointer none)).frozen? ⟨pe,0,none⟩=false:=H3.frozen 0 rfl 0
   have H4:=H3.set 0 (.int .i64 (c:Int))
   clear hr HQ HST
   go_wp2_with fail
   refine leaves_cons (f:=98) (args:=#[.pointer (some ⟨px,0,none⟩),.pointer (some ⟨pe,0,none⟩)]) (by simp) (by simp [go_sem]) ?_
   refine(xcatch_pan px pe c _ _ _ d1 z1 d2 z2).mono ?_
   rintro e u' w'' ⟨rfl,rfl,rfl⟩
   have r1:=H4.cell 0 rfl 0
   have r2:=H4.cell 1 rfl 0
   generalize World.setCell _ _ _=w9 at H4 r1 r2 ⊢
   simp [Leaves,settle,results,Tryz.results60,go_sem,r1,r2]
   exact XEnd.no HE H4.tail2
  | ok r =>
   obtain⟨lb,kd,a2,out2⟩:=r
   rw [hr] at h9
   obtain⟨rfl,vo2,vb2,H2⟩:=h9
   obtain⟨q1,q2,q3,q4⟩:=PI.block_ok hol hr
   rw [PBits.ofB_length] at q2
   have HE:Hid ((if lb=true then .ok (a2,out2,bl++[⟨kd,lb,out.length,out2.length⟩]) else PI.blocks (PBits.ofB l) most f a2 out2 (bl++[⟨kd,lb,out.length,out2.length⟩]))=T):=by rw [<- HST.out,hr]; exact Lib.hid rfl
   simp only at H2 q1 q2 q3 q4
   clear hr HQ HST H1 c1
   cases lb with
   | false =>
    go_wp2_with fail
    go_roundw
    case rel =>
     refine⟨a2,f,vo2,vb2,out2,bl++[⟨kd,false,out.length,out2.length⟩],q2,by omega,q3,by rw [List.length_append,List.length_singleton]; omega,by have h:=HE.out; rw [if_neg (by decide)] at h; exact h,?_⟩
     rw [List.length_append,List.length_singleton]
     exact H2
    case measure =>
     have:=atOf_rr H2
     rw [this,HA.out]
     omega
   | true =>
    have HE2:T=.ok (a2,out2,bl++[⟨kd,true,out.length,out2.length⟩]):=by have h:=HE.out; rw [if_pos rfl] at h; exact h.symm
    have d1:w2.cell? ⟨px,0,none⟩=some (.pointer (some ⟨gx,0,none⟩)):=H2.cell 4 rfl 0
    have z1:w2.frozen? ⟨px,0,none⟩=false:=H2.frozen 4 rfl 0
    have H3:=((H2.pick 6 [4,5,0,1,2,3]).set 0 (.pointer (some ⟨gx,0,none⟩))).swap
    have d2:(w2.setCell ⟨px,0,none⟩ (.pointer (some ⟨gx,0,none⟩))).cell? ⟨pe,0,none⟩=some (.int .i64 0):=H3.cell 0 rfl 0
    have z2:(w2.setCell ⟨px,0,none⟩ (.pointer (some ⟨gx,0,none⟩))).frozen? ⟨pe,0,none⟩=false:=H3.frozen 0 rfl 0
    have H4:=H3.set 0 (.int .i64 0)
    have HH4:=Lib.hid H4
    clear H2 H3 H4
    go_wp2_with fail
    refine leaves_cons (f:=98) (args:=#[.pointer (some ⟨px,0,none⟩),.pointer (some ⟨pe,0,none⟩)]) (by simp) (by simp [go_sem]) ?_
    refine(xcatch_idle px pe _).mono ?_
    rintro e u' w'' ⟨rfl,rfl,rfl⟩
    have H5:=HH4.out
    have r1:=H5.cell 0 rfl 0
    have r2:=H5.cell 1 rfl 0
    generalize World.setCell _ _ _=w9 at H5 r1 r2 ⊢
    simp [Leaves,settle,results,Tryz.results60,go_sem,r1,r2]
    have H6:=H5.pick 6 [2,3,4,5]
    refine XEnd.yes HE2 ?_
    have e:(bl++[⟨kd,true,out.length,out2.length⟩]:List PI.Blk).length=bl.length+1:=by rw [List.length_append]; rfl
    rw [<- e] at H6
    exact Sp.ex gr (Sp.ex vo2 (Sp.ex vb2 (((H6.pick 4 [2,3,0,1]).star.pick 3 [2,0,1]).star.swap.star)))
theorem xd_open {gx:Nat} {l:List UInt8} {most:Nat} {r:Nat × List UInt8 × List PI.Blk} {w0 w:World} {L:List Pr} (H:Sp w0 (Xd gx l most r::L) w) :
  ∃gr vo vb,Sp w0 (Rr gr l r.1::XpB gx gr vo most vb::Row 5 1 vo r.2.1.length (cells8 r.2.1)::Row 72 4 vb r.2.2.length (cellsB r.2.2)::L) w:=by
 obtain⟨gr,H⟩:=H.unex
 obtain⟨vo,H⟩:=H.unex
 obtain⟨vb,H⟩:=H.unex
 exact⟨gr,vo,vb,((H.unstar.swap.unstar.pick 3 [1,0,2]).unstar.pick 4 [3,2,0,1])⟩
end Go.Proofs.YtloijdbkikccgaaGreatDoor

