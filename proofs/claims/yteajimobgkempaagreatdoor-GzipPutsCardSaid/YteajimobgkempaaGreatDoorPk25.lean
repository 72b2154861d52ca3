/- A pack. -/
import Derived.Test.YteajimobgkempaaGreatDoorPk24
set_option linter.all false
set_option maxRecDepth 100000
set_option maxHeartbeats 8000000
namespace Go.Proofs.YteajimobgkempaaGreatDoor
variable {w0 w:World} {L:List Pr}
open Go.RowKit
theorem infoIM:(Tryz.prog.info? 3).map (fun i=>(i.zero,i.size,i.bytes))=some (some (.int .i64 0),1,8):=by kernel_rfl
theorem XL {w:World} {ad:Addr} {l c:Nat} {B:List UInt8} (h:Byt w (.slice (some ad) l c) B) (j:Nat) (hj:j+3<=B.length) :
  w.cell? (ad.add j)=some (.int .u8 ((PM.at3 B j).1.toNat:Int))/\w.cell? ⟨(ad.add j).block,(ad.add j).off+1,none⟩=some (.int .u8 ((PM.at3 B j).2.1.toNat:Int))/\w.cell? ⟨(ad.add j).block,(ad.add j).off+2,none⟩=some (.int .u8 ((PM.at3 B j).2.2.toNat:Int)):=by
 obtain⟨_,_,e,d,_,_⟩:=h;have a:∀i (hi:i<B.length),w.cell? (ad.add i)=some (.int .u8 ((B.getD i 0).toNat:Int)):=fun i hi=>by
  obtain⟨f,b,g⟩:=d.at8 hi;injection e with e
  rw [<- e] at b;injection b with b
  rw [List.getD_eq_getElem?_getD,List.getElem?_eq_getElem hi,b];exact g
 rw [Zv ad j 1 (by omega),Zv ad j 2 (by omega)];exact⟨a j (by omega),a (j+1) (by omega),a (j+2) (by omega)⟩
section
variable {P:Program}
theorem XU {o:Oper} {a:Act} {w:World} {K:Act->World->Prop} {Q:Exit->Act->World->Prop} (t:TypeId) (m k:Operand) (ho:o.op=.mapEntry t m k) (vm vk:Value) (hm:a.eval m=vm) (hk:a.eval k=vk) {v:Value} {w' : World}
  (hr:(Instr.mapEntry t vm vk).run P w=.ok v w') (h:K (a.put o.dst v) w'):o.wp P a w K Q:=by
 unfold Oper.wp execOp;simp only [ho,Sem.run_bind,Sem.run_pure,Result.andThen_ok,hm,hk,hr];exact h
theorem Xq {o:Oper} {a:Act} {w:World} {K:Act->World->Prop} {Q:Exit->Act->World->Prop} (t:TypeId) (m i x:Operand) (ho:o.op=.entryStore t m i x) (hd:o.dst=none) (vm vi vx:Value) (hm:a.eval m=vm) (hi:a.eval i=vi) (hx:a.eval x=vx) {w' : World}
  (hr:(Instr.entryStore t vm vi vx).run P w=.ok () w') (h:K a w'):o.wp P a w K Q:=by
 unfold Oper.wp execOp;simp only [ho,Sem.run_bind,Sem.run_pure,Result.andThen_ok,hm,hi,hx,hr];unfold Oper.upon;simp only [hd];exact h
end
theorem Tp (g at_ n l:Nat) (A0:Option Addr) (c:Nat) (B:List UInt8) (d:Int) (H:Sp w0 (Fd g (.slice A0 l c) B d n::L) w) (hl:l=B.length) (hb:Ent L (fun w=>Byt w (.slice A0 l c) B)) (hat:at_<=1000000000) (hlm:l<=1000000000) :
  Calls Tryz.prog 129 #[.pointer (some ⟨g,0,none⟩),.int .i64 at_] w fun e w'=>e=.returned (.tuple #[])/\Sp w0 (Fd g (.slice A0 l c) B d (max n (min at_ (l - 2)))::L) w':=by
 obtain⟨i0,hi,b3,b4,b5⟩:=info_parts infoIM;have I:Tryz.prog.underlying 206=some (.array 3 5):=by kernel_rfl
 have X:=hid I;clear I;obtain⟨_,_,_,_,_⟩:=YP H;obtain⟨d4,b6⟩:l<=c/\c<=maxLen:=by
  obtain⟨_,_,e,_,h1,h2⟩:=hb _ _ H.tail;injection e with e1 e2 e3
  rw [e3,e2];exact⟨h1,h2⟩
 unfold maxLen at b6;have HL:=hid hl;have HB:=hid hb;clear hl hb;go_enter Tryz.func129,Tryz.ntmps129
 go_wp2;go_loopw [] (fun wr=>∃j,n<=j/\j<=max n (min at_ (l - 2))/\Sp w0 (Fd g (.slice A0 l c) B d j::L) wr) (fun wr=>match wr.cell? ⟨g,3,none⟩ with | some (.int _ x)=>((at_:Int) - x).toNat | _=>0)
 case atStart=>exact⟨n,Nat.le_refl _,by omega,H⟩
 case round =>
  obtain⟨j,d5,d6,H1⟩:=hrel;obtain⟨y,E,t,F,S⟩:=YP H1;have D:wr.cell? ⟨g,3,none⟩=some (.int .i64 j):=S.cell 0 rfl 3;have C3:=hid D;clear D;by_cases d7:j<at_
  ·have k1:(j:Int)<at_:=by omega
   by_cases d8:j+3<=l
   ·have k2:(j:Int)+3<=l:=by omega
    go_wp2_with fail
    refine Zb (L:=FdB g (.slice A0 l c) d y j::Is y (.map E t)::Rows (PM.places B j) E.toList::L) [some (.pointer (some ⟨g,0,none⟩)),some (.pointer (some ⟨g,0,none⟩)),some (.pointer (some ⟨g,3,none⟩)),some (.int .i64 j),some (.int .i64 at_),some (.bool true),some (.bool true),some (.pointer (some ⟨g,0,none⟩)),some (.pointer (some ⟨g,0,none⟩)),some (.pointer (some ⟨g,3,none⟩)),some (.int .i64 j),some (.int .i64 ((j:Int)+3)),some (.pointer (some ⟨g,0,none⟩)),some (.pointer (some ⟨g,0,none⟩)),some (.pointer (some ⟨g,0,none⟩)),some (.slice A0 l c),some (.int .i64 l),some (.bool true),some (.bool true)] (fun _ _=>True) (fun _ _=>[]) (fun _=>[]) 19 56
     [some 5,some 6,some 7,some 8,some 9,some 10,some 11,some 12,some 13,some 14,some 15,some 16,some 17,some 18,some 19,some 20,some 21,some 22,some 23]
     [[],[0],[1],[2],[],[3,4],[5],[6],[7,6],[8,6],[9,6],[10,6],[6],[12,6],[13,6],[14,6],[15,6],[11,16,6],[6,17]]
     [[],[0],[0,1],[0,1,2],[],[0,1,2,3,4],[0,1,2,3,4,5],[0,1,2,3,4,5,6],[0,1,2,3,4,5,6,7],[0,1,2,3,4,5,6,7,8],[0,1,2,3,4,5,6,7,8,9],[0,1,2,3,4,5,6,7,8,9,10],[0,1,2,3,4,5,6],[0,1,2,3,4,5,6,12],[0,1,2,3,4,5,6,12,13],[0,1,2,3,4,5,6,12,13,14],[0,1,2,3,4,5,6,12,13,14,15],[0,1,2,3,4,5,6,7,8,9,10,11,12,13,14,15,16],[0,1,2,3,4,5,6,7,8,9,10,11,12,13,14,15,16,17]]
     [[],[],[],[],[],[],[],[],[],[],[],[],[],[],[],[],[],[],[]] [[],[],[],[],[],[],[],[],[],[],[],[],[],[],[],[],[],[],[]] [(0,.pointer (some ⟨g,0,none⟩)),(1,.int .i64 at_)]
     (by kernel_rfl) rfl (by decide) (by rfl) (by decide +kernel) rfl rfl (by simp) (S) ?hstep ?hend
    case hstep =>
     refine⟨?p0,⟨?p1,⟨?p2,⟨?p3,⟨?p4,⟨?p5,⟨?p6,⟨?p7,⟨?p8,⟨?p9,⟨?p10,⟨?p11,⟨?p12,⟨?p13,⟨?p14,⟨?p15,⟨?p16,⟨?p17,⟨?p18,trivial⟩⟩⟩⟩⟩⟩⟩⟩⟩⟩⟩⟩⟩⟩⟩⟩⟩⟩⟩
     case p0 | p1 | p2 | p4 | p5 | p6 | p18 =>
      intro x wx A f h i b p H K o;replace o:=hid o;clear b p h;repeat (obtain⟨_,i⟩:=i)
      refine so ?_;go_step;exact o.out _ _ rfl H
     case p3 =>
      intro x wx A f h i b p H K a;have e7:=tq b 2;have o:=hid a;clear a i b h;have D:wx.cell? ⟨g,3,none⟩=some (.int .i64 j):=p (fun w=>w.cell? ⟨g,3,none⟩=some (.int .i64 j)) (fun _ _ H=>H.cell 0 rfl 3) _ _ H;refine so ?_;go_step;exact o.out _ _ rfl H
     case p7 =>
      intro x wx A f h i b p H K a;have Y:A.tmps[0]?.getD undef=.pointer (some ⟨g,0,none⟩):=Za i (0,_) (by simp) (by rfl);have r:=(b 6 (by decide)).1;have o:=hid a;clear a i b p h;refine sgT r ?_;go_step;exact o.out _ _ rfl H
     case p8 =>
      intro x wx A f h i b p H K a;have Z:=tq b 7;have r:=(b 6 (by decide)).1;have o:=hid a;clear a i b p h;refine sgT r ?_;go_step;exact o.out _ _ rfl H
     case p9 =>
      intro x wx A f h i b p H K a;have a0:=tq b 8;have r:=(b 6 (by decide)).1;have o:=hid a;clear a i b p h;refine sgT r ?_;go_step;exact o.out _ _ rfl H
     case p10 =>
      intro x wx A f h i b p H K a;have a1:=tq b 9;have r:=(b 6 (by decide)).1;have o:=hid a;clear a i b h;have D:wx.cell? ⟨g,3,none⟩=some (.int .i64 j):=p (fun w=>w.cell? ⟨g,3,none⟩=some (.int .i64 j)) (fun _ _ H=>H.cell 0 rfl 3) _ _ H;refine sgT r ?_;go_step;exact o.out _ _ rfl H
     case p11 =>
      intro x wx A f h i b p H K a;have a2:=tq b 10;have r:=(b 6 (by decide)).1;have o:=hid a;clear a i b p h;refine sgT r ?_;go_step;exact o.out _ _ rfl H
     case p12 =>
      intro x wx A f h i b p H K a;have Y:A.tmps[0]?.getD undef=.pointer (some ⟨g,0,none⟩):=Za i (0,_) (by simp) (by rfl);have r:=(b 6 (by decide)).1;have o:=hid a;clear a i b p h;refine sgT r ?_;go_step;exact o.out _ _ rfl H
     case p13 =>
      intro x wx A f h i b p H K a;have a3:=tq b 12;have r:=(b 6 (by decide)).1;have o:=hid a;clear a i b p h;refine sgT r ?_;go_step;exact o.out _ _ rfl H
     case p14 =>
      intro x wx A f h i b p H K a;have a4:=tq b 13;have r:=(b 6 (by decide)).1;have o:=hid a;clear a i b p h;refine sgT r ?_;go_step;exact o.out _ _ rfl H
     case p15 =>
      intro x wx A f h i b p H K a;have a5:=tq b 14;have r:=(b 6 (by decide)).1;have o:=hid a;clear a i b h;have T:wx.cell? ⟨g,0,none⟩=some (.slice A0 l c):=p (fun w=>w.cell? ⟨g,0,none⟩=some (.slice A0 l c)) (fun _ _ H=>H.cell 0 rfl 0) _ _ H;refine sgT r ?_;go_step;exact o.out _ _ rfl H
     case p16 =>
      intro x wx A f h i b p H K a;have a6:=tq b 15;have r:=(b 6 (by decide)).1;have o:=hid a;clear a i b p h;refine sgT r ?_;go_step;exact o.out _ _ rfl H
     case p17 =>
      intro x wx A f h i b p H K a;have a7:=tq b 11;have a8:=tq b 16;have r:=(b 6 (by decide)).1;have o:=hid a;clear a i b p h;refine sgT r ?_;go_step;exact o.out _ _ rfl H
    case hend =>
     intro x wx A C b H;replace H:Sp w0 (_::_::_::L) wx:=H;have z:x 18=.bool true:=b 18 (by decide);clear b;simp only [putAll,Act.put,List.setIfInBounds_toArray,List.set_cons_succ,List.set_cons_zero,Nat.reduceAdd] at C;subst C;rw [z];clear z k1;obtain⟨ad,rfl⟩:∃ad,A0=some ad:=by
      obtain⟨_,_,e,hr,_,_⟩:=HB.out _ _ (H.pick 3 []);obtain⟨ad,e2,_⟩:=hr.at8 (k:=j) (by rw [<- HL.out]; omega);injection e with e
      exact⟨ad,e.trans e2⟩
     obtain⟨k,hk⟩:=exq (PM.at3 B j);have J:Ent L (fun w=>w.cell? (ad.add j)=some (.int .u8 k.1.toNat)/\w.cell? ⟨(ad.add j).block,(ad.add j).off+1,none⟩=some (.int .u8 k.2.1.toNat)/\w.cell? ⟨(ad.add j).block,(ad.add j).off+2,none⟩=some (.int .u8 k.2.2.toNat)):=HB.out.mono fun w' hw=>by
      rw [<- hk];exact XL hw j (by rw [<- HL.out]; omega)
     have b7:=hid J;have HK:=hid hk;clear J hk;have k3:(j:Int)<c:=by omega
     have k4:3<=l - j:=by omega
     have k5:j<=l:=by omega
     have k6:¬ c=j:=by omega
     go_wp2_with fail
     refine Zu (L:=FdB g (.slice (some ad) l c) d y j::Is y (.map E t)::Rows (PM.places B j) E.toList::L) [some (.pointer (some ⟨g,0,none⟩)),some (.pointer (some ⟨g,0,none⟩)),some (.pointer (some ⟨g,0,none⟩)),some (.slice (some ad) l c),some (.pointer (some ⟨g,0,none⟩)),some (.pointer (some ⟨g,0,none⟩)),some (.pointer (some ⟨g,3,none⟩)),some (.int .i64 j),some (.slice (some (ad.add j)) (l - j) (c - j)),some (.pointer (some (ad.add j))),some (key3 k),none,none] (fun ix ux vx=>match ix with | 11=>(fun v=>v=.pointer (some ⟨blkOf v,0,none⟩)) vx | _=>True) (fun ix ux vx=>match ix with | 11=>(fun v=>[Bk (blkOf v) 206 [.int .u8 0,.int .u8 0,.int .u8 0]]) vx | 12=>(fun _=>[Bk (blkOf ux) 206 (cells3 k)]) vx | _=>[]) (fun _=>[]) 13 56
      [some 31,some 32,some 33,some 34,some 35,some 36,some 37,some 38,some 39,some 40,some 41,some 4,none]
      [[],[0],[1],[2],[],[4],[5],[6],[3,7],[8],[9],[],[11,10,0,1,2,3,4,5,6,7,8,9,10,11]]
      [[],[0],[0,1],[0,1,2],[],[4],[4,5],[4,5,6],[0,1,2,3,4,5,6,7],[0,1,2,3,4,5,6,7,8],[0,1,2,3,4,5,6,7,8,9],[],[0,1,2,3,4,5,6,7,8,9,10,11]]
      [[],[],[],[],[],[],[],[],[],[],[],[],[11]] [[],[],[],[],[],[],[],[],[],[],[],[],[]] [none,none,none,none,none,none,none,none,none,none,none,none,some 11] [(0,.pointer (some ⟨g,0,none⟩))]
      (by kernel_rfl) rfl (by decide) (by rfl) (by decide +kernel) rfl (by simp) (by rfl) (H) ?hstep ?hend
     case hstep =>
      refine⟨?p0,⟨?p1,⟨?p2,⟨?p3,⟨?p4,⟨?p5,⟨?p6,⟨?p7,⟨?p8,⟨?p9,⟨?p10,⟨?p11,⟨?p12,trivial⟩⟩⟩⟩⟩⟩⟩⟩⟩⟩⟩⟩⟩
      case p0 | p1 | p2 | p4 | p5 | p6 | p8 =>
       intro x wx A f i b p H K o;replace o:=hid o;clear b p;repeat (obtain⟨_,i⟩:=i)
       refine so ?_;go_step;exact o.out _ _ rfl H
      case p3 =>
       intro x wx A f i b p H K a;have d9:=tq b 2;have o:=hid a;clear a i b;have T:wx.cell? ⟨g,0,none⟩=some (.slice (some ad) l c):=p (fun w=>w.cell? ⟨g,0,none⟩=some (.slice (some ad) l c)) (fun _ _ H=>H.cell 0 rfl 0) _ _ H;refine so ?_;go_step;exact o.out _ _ rfl H
      case p7 =>
       intro x wx A f i b p H K a;have e5:=tq b 6;have o:=hid a;clear a i b;have D:wx.cell? ⟨g,3,none⟩=some (.int .i64 j):=p (fun w=>w.cell? ⟨g,3,none⟩=some (.int .i64 j)) (fun _ _ H=>H.cell 0 rfl 3) _ _ H;refine so ?_;go_step;exact o.out _ _ rfl H
      case p9 =>
       intro x wx A f i b p H K a;have e6:=tq b 8;have o:=hid a;clear a i b p;have ha:=run_arrayAt (P:=Tryz.prog) wx 206 _ 3 (some (ad.add j)) (l - j) (c - j) X.out k4;refine so ?_;go_step;exact o.out _ _ rfl H
      case p10 =>
       intro x wx A f i b p H K a;have e8:=tq b 9;have o:=hid a;clear a i b;obtain⟨d0,d1,d2⟩:=p _ (Ent.cons _ (Ent.cons _ (Ent.cons _ b7.out))) _ _ H;refine so ?_;go_step;exact o.out _ _ rfl H
      case p11 =>
       intro x wx A f i b p H K a;have o:=hid a;clear a i b p;refine so ?_;go_step;exact o.out _ _ rfl (H.newBk _ _)
      case p12 =>
       intro x wx A f i b p H K a;have q4:(x 11)=.pointer (some ⟨blkOf (x 11),0,none⟩):=(b 11 (by decide)).1;have e4:=(b 11 (by decide)).2 4 rfl;have b8:=tq b 10;replace H:Sp w0 ((Bk (blkOf (x 11)) 206 [.int .u8 0,.int .u8 0,.int .u8 0])::f) wx:=H;have o:Hid (∀(v:Value) (w' : World),True->Sp w0 ((Bk (blkOf (x 11)) 206 (cells3 k))::f) w'->K (A.put none v) w'):=hid a;clear a i b p;obtain⟨M,e9⟩:=exq (blkOf (x 11));have q:x 11=.pointer (some ⟨blkOf (x 11),0,none⟩):=q4;rw [e9] at q H;rw [q] at e4;clear q q4;have z0:wx.frozen? ⟨M,0,none⟩=false:=H.frozen 0 rfl 0;have z1:wx.frozen? ⟨M,1,none⟩=false:=H.frozen 0 rfl 1;have z2:wx.frozen? ⟨M,2,none⟩=false:=H.frozen 0 rfl 2;have z3:wx.cell? ⟨M,0,none⟩=some (.int .u8 0):=H.cell 0 rfl 0;have z4:wx.cell? ⟨M,1,none⟩=some (.int .u8 0):=H.cell 0 rfl 1;have z5:wx.cell? ⟨M,2,none⟩=some (.int .u8 0):=H.cell 0 rfl 2;unfold key3 at b8;refine so ?_;go_step;refine o.out (x 11) _ trivial ?_;rw [e9];exact((H.set 0 _).set 1 _).set 2 _
     case hend =>
      intro x wx A C b H;replace H:Sp w0 ((Bk (blkOf (x 11)) 206 (cells3 k))::_::_::_::L) wx:=H;have U:(x 11)=.pointer (some ⟨blkOf (x 11),0,none⟩):=b 11 (by decide);clear b;simp only [putAll,Act.put,List.setIfInBounds_toArray,List.set_cons_succ,List.set_cons_zero,Nat.reduceAdd] at C;subst C;obtain⟨G,a9⟩:=exq (blkOf (x 11));rw [a9] at U H;rw [U];clear a9 U;obtain⟨v0,st,m,b9,s,E2,rl,ys,hm,H3,b0,b1,N,O⟩:=To F (H.pick 4 [2,3,0,1]);have b2:=hid b0;have c1:=hid b1;have Q:=hid N;have R:=hid O;obtain⟨V0,T,rfl,f0,_⟩:=Row.form H3 1 rfl;clear b0 b1 N O F S H1;rw [HK.out] at b2;go_wp2_with fail
      refine Zu (L:=Rows (PM.places B j) rl::Bk G 206 (cells3 k)::FdB g (.slice (some ad) l c) d y j::L) [some (.pointer (some ⟨g,0,none⟩)),some (.pointer (some ⟨g,0,none⟩)),some (.pointer (some ⟨g,2,none⟩)),some (.map (some y)),some (key3 k),some (.pointer (some ⟨g,0,none⟩)),some (.pointer (some ⟨g,0,none⟩)),some (.pointer (some ⟨g,3,none⟩)),some (.int .i64 j),none,some (.tuple #[.slice V0 m T,.int .i64 st]),some (.slice V0 m T),none,some (.int .i64 st),none] (fun ix ux vx=>match ix with | 9=>(fun v=>v=.slice (some ⟨v.ownBlock.getD 0,0,none⟩) 1 1) vx | 12=>(fun _=>True) vx | _=>True) (fun ix ux vx=>match ix with | 9=>(fun v=>[Bk (v.ownBlock.getD 0) 3 [.int .i64 j]]) vx | 10=>(fun _=>[Is y (.map b9 s)]) vx | 12=>(fun v=>[Row 3 1 v (m+1) (ys++[.int .i64 j])]) vx | 14=>(fun _=>[Is y (.map (E2 ux) s)]) vx | _=>[]) (fun ix=>match ix with | 10=>[Is y (.map E t)] | 12=>[Row 3 1 (.slice V0 m T) m ys] | _=>[]) 15 56
       [some 42,some 43,some 44,some 45,some 46,some 48,some 49,some 50,some 51,some 52,some 53,some 47,some 54,some 55,none]
       [[],[0],[1],[2],[],[],[5],[6],[7],[8],[3,4,0,1,2,3,4,5,6,7,8,9],[10],[11,9,10],[10],[3,13,12,12,0,1,2,3,4,5,6,7,8,9,10,11,12,13]]
       [[],[0],[0,1],[0,1,2],[],[],[5],[5,6],[5,6,7],[5,6,7,8],[0,1,2,3,4,5,6,7,8,9],[0,1,2,3,4,5,6,7,8,9,10],[0,1,2,3,4,5,6,7,8,9,10,11],[0,1,2,3,4,5,6,7,8,9,10],[0,1,2,3,4,5,6,7,8,9,10,11,12,13]]
       [[],[],[],[],[],[],[],[],[],[],[],[],[9],[],[10]] [[],[],[],[],[],[],[],[],[],[],[],[],[],[],[]] [none,none,none,none,none,none,none,none,none,none,none,none,none,none,some 12] [(0,.pointer (some ⟨g,0,none⟩)),(4,.pointer (some ⟨G,0,none⟩))]
       (by kernel_rfl) rfl (by decide) (by rfl) (by decide +kernel) rfl (by simp) (by rfl) (H3.pick 5 [0,1,2,3,4]) ?hstep ?hend
      case hstep =>
       refine⟨?p0,⟨?p1,⟨?p2,⟨?p3,⟨?p4,⟨?p5,⟨?p6,⟨?p7,⟨?p8,⟨?p9,⟨?p10,⟨?p11,⟨?p12,⟨?p13,⟨?p14,trivial⟩⟩⟩⟩⟩⟩⟩⟩⟩⟩⟩⟩⟩⟩⟩
       case p0 | p1 | p2 | p5 | p6 | p7 | p11 | p13 =>
        intro x wx A f i b p H K o;replace o:=hid o;clear b p;repeat (obtain⟨_,i⟩:=i)
        refine so ?_;go_step;exact o.out _ _ rfl H
       case p3 =>
        intro x wx A f i b p H K a;have f1:=tq b 2;have o:=hid a;clear a i b;have c2:wx.cell? ⟨g,2,none⟩=some (.map (some y)):=p (fun w=>w.cell? ⟨g,2,none⟩=some (.map (some y))) (fun _ _ H=>H.cell 2 rfl 2) _ _ H;refine so ?_;go_step;exact o.out _ _ rfl H
       case p4 =>
        intro x wx A f i b p H K a;have e4:A.tmps[4]?.getD undef=.pointer (some ⟨G,0,none⟩):=Y8 i (4,_) (by simp);have o:=hid a;clear a i b;have d0:wx.cell? ⟨G,0,none⟩=some (.int .u8 k.1.toNat):=p (fun w=>w.cell? ⟨G,0,none⟩=some (.int .u8 k.1.toNat)) (fun _ _ H=>H.cell 1 rfl 0) _ _ H;have d1:wx.cell? ⟨G,1,none⟩=some (.int .u8 k.2.1.toNat):=p (fun w=>w.cell? ⟨G,1,none⟩=some (.int .u8 k.2.1.toNat)) (fun _ _ H=>H.cell 1 rfl 1) _ _ H;have d2:wx.cell? ⟨G,2,none⟩=some (.int .u8 k.2.2.toNat):=p (fun w=>w.cell? ⟨G,2,none⟩=some (.int .u8 k.2.2.toNat)) (fun _ _ H=>H.cell 1 rfl 2) _ _ H;refine so ?_;go_step;exact o.out _ _ rfl H
       case p8 =>
        intro x wx A f i b p H K a;have f2:=tq b 7;have o:=hid a;clear a i b;have D:wx.cell? ⟨g,3,none⟩=some (.int .i64 j):=p (fun w=>w.cell? ⟨g,3,none⟩=some (.int .i64 j)) (fun _ _ H=>H.cell 2 rfl 3) _ _ H;refine so ?_;go_step;exact o.out _ _ rfl H
       case p9 =>
        intro x wx A f i b p H K a;have f3:=tq b 8;have o:=hid a;clear a i b p;refine so ?_;go_step;exact o.out _ _ rfl (H.newBk _ _)
       case p10 =>
        intro x wx A f i b p H K a;have V:=tq b 3;have c4:=tq b 4;replace H:Sp w0 (_::f) wx:=H;have o:=hid a;clear a i b p;refine so ?_;exact XU _ _ _ rfl _ _ (ev V) (ev c4) (b2.out wx (H.is_ 0 rfl)) (o.out _ _ rfl (H.put _))
       case p12 =>
        intro x wx A f i b p H K a;have c5:=tq b 11;have c6:(x 9)=.slice (some ⟨(x 9).ownBlock.getD 0,0,none⟩) 1 1:=(b 9 (by decide)).1;have W:=(b 9 (by decide)).2 52 rfl;replace H:Sp w0 (_::(Bk ((x 9).ownBlock.getD 0) 3 [.int .i64 j])::f) wx:=H;have o:Hid (∀(v:Value) (w' : World),True->Sp w0 ((Row 3 1 v (m+1) (ys++[.int .i64 j]))::f) w'->K (A.put (some 54) v) w'):=hid a;clear a i b p;obtain⟨M,e9⟩:=exq ((x 9).ownBlock.getD 0);rw [c6] at W;rw [e9] at W H;refine so ?_;refine Zg _ _ 97 rfl 3 i0 (.int .i64 0) 1 8 Tryz.underlying97 hi b3 b4 b5 rfl (by decide) (.slice V0 m T) m ys (ev c5) H (some ⟨M,0,none⟩) 1 1 [.int .i64 j] (ev W) rfl (Rd.of_blk (H.blk 1 rfl)) (by intro u hu; rw [List.mem_singleton.1 hu]; rfl) (by simp only [maxLen]; omega) (by omega) ?_;intro v1 w2 S _;exact o.out _ _ trivial S.swap.tail
       case p14 =>
        intro x wx A f i b p H K a;have V:=tq b 3;have c7:=tq b 13;have f4:True:=(b 12 (by decide)).1;have c8:=(b 12 (by decide)).2 54 rfl;replace H:Sp w0 (_::f) wx:=H;have o:Hid (∀(v:Value) (w' : World),True->Sp w0 ((Is y (.map (E2 (x 12)) s))::f) w'->K (A.put none v) w'):=hid a;clear a i b p;refine so ?_;exact Xq _ _ _ _ rfl rfl _ _ _ (ev V) (ev c7) (ev c8) (c1.out _ wx (H.is_ 0 rfl)) (o.out (x 12) _ trivial (H.put _))
      case hend =>
       intro x wx A C b H;replace H:Sp w0 ((Row 3 1 (x 12) (m+1) (ys++[.int .i64 j]))::(Is y (.map (E2 (x 12)) s))::_::_::_::L) wx:=H;clear b;simp only [putAll,Act.put,List.setIfInBounds_toArray,List.set_cons_succ,List.set_cons_zero,Nat.reduceAdd] at C;subst C;have H4:=R.out _ _ _ _ (H.pick 5 [0,2,1,3,4]);have H5:=H4.pick 4 [3,1,0];have d3:=Q.out (x 12);clear R Q H4 H H3;have D:wx.cell? ⟨g,3,none⟩=some (.int .i64 j):=H5.cell 0 rfl 3;have z3:wx.frozen? ⟨g,3,none⟩=false:=H5.frozen 0 rfl 3;go_wp2;go_roundw
       case rel=>exact⟨j+1,by omega,by omega,Yd d3 (H5.set 3 _)⟩
       case measure =>
        have c9:(wx.setCell ⟨g,3,none⟩ (.int .i64 ((j:Int)+1))).cell? ⟨g,3,none⟩=some (.int .i64 ((j:Int)+1)):=(H5.set 3 _).cell 0 rfl 3;rw [c9,C3.out];simp only [];omega
   ·have k2:decide ((j:Int)+3<=l)=false:=decide_eq_false (by omega);go_wp2_with fail
    refine Zb (L:=FdB g (.slice A0 l c) d y j::Is y (.map E t)::Rows (PM.places B j) E.toList::L) [some (.pointer (some ⟨g,0,none⟩)),some (.pointer (some ⟨g,0,none⟩)),some (.pointer (some ⟨g,3,none⟩)),some (.int .i64 j),some (.int .i64 at_),some (.bool true),some (.bool true),some (.pointer (some ⟨g,0,none⟩)),some (.pointer (some ⟨g,0,none⟩)),some (.pointer (some ⟨g,3,none⟩)),some (.int .i64 j),some (.int .i64 ((j:Int)+3)),some (.pointer (some ⟨g,0,none⟩)),some (.pointer (some ⟨g,0,none⟩)),some (.pointer (some ⟨g,0,none⟩)),some (.slice A0 l c),some (.int .i64 l),some (.bool false),some (.bool false)] (fun _ _=>True) (fun _ _=>[]) (fun _=>[]) 19 56
     [some 5,some 6,some 7,some 8,some 9,some 10,some 11,some 12,some 13,some 14,some 15,some 16,some 17,some 18,some 19,some 20,some 21,some 22,some 23]
     [[],[0],[1],[2],[],[3,4],[5],[6],[7,6],[8,6],[9,6],[10,6],[6],[12,6],[13,6],[14,6],[15,6],[11,16,6],[6,17]]
     [[],[0],[0,1],[0,1,2],[],[0,1,2,3,4],[0,1,2,3,4,5],[0,1,2,3,4,5,6],[0,1,2,3,4,5,6,7],[0,1,2,3,4,5,6,7,8],[0,1,2,3,4,5,6,7,8,9],[0,1,2,3,4,5,6,7,8,9,10],[0,1,2,3,4,5,6],[0,1,2,3,4,5,6,12],[0,1,2,3,4,5,6,12,13],[0,1,2,3,4,5,6,12,13,14],[0,1,2,3,4,5,6,12,13,14,15],[0,1,2,3,4,5,6,7,8,9,10,11,12,13,14,15,16],[0,1,2,3,4,5,6,7,8,9,10,11,12,13,14,15,16,17]]
     [[],[],[],[],[],[],[],[],[],[],[],[],[],[],[],[],[],[],[]] [[],[],[],[],[],[],[],[],[],[],[],[],[],[],[],[],[],[],[]] [(0,.pointer (some ⟨g,0,none⟩)),(1,.int .i64 at_)]
     (by kernel_rfl) rfl (by decide) (by rfl) (by decide +kernel) rfl rfl (by simp) (S) ?hstep ?hend
    case hstep =>
     refine⟨?p0,⟨?p1,⟨?p2,⟨?p3,⟨?p4,⟨?p5,⟨?p6,⟨?p7,⟨?p8,⟨?p9,⟨?p10,⟨?p11,⟨?p12,⟨?p13,⟨?p14,⟨?p15,⟨?p16,⟨?p17,⟨?p18,trivial⟩⟩⟩⟩⟩⟩⟩⟩⟩⟩⟩⟩⟩⟩⟩⟩⟩⟩⟩
     case p0 | p1 | p2 | p4 | p5 | p6 | p18 =>
      intro x wx A f h i b p H K o;replace o:=hid o;clear b p h;repeat (obtain⟨_,i⟩:=i)
      refine so ?_;go_step;exact o.out _ _ rfl H
     case p3 =>
      intro x wx A f h i b p H K a;have e7:=tq b 2;have o:=hid a;clear a i b h;have D:wx.cell? ⟨g,3,none⟩=some (.int .i64 j):=p (fun w=>w.cell? ⟨g,3,none⟩=some (.int .i64 j)) (fun _ _ H=>H.cell 0 rfl 3) _ _ H;refine so ?_;go_step;exact o.out _ _ rfl H
     case p7 =>
      intro x wx A f h i b p H K a;have Y:A.tmps[0]?.getD undef=.pointer (some ⟨g,0,none⟩):=Za i (0,_) (by simp) (by rfl);have r:=(b 6 (by decide)).1;have o:=hid a;clear a i b p h;refine sgT r ?_;go_step;exact o.out _ _ rfl H
     case p8 =>
      intro x wx A f h i b p H K a;have Z:=tq b 7;have r:=(b 6 (by decide)).1;have o:=hid a;clear a i b p h;refine sgT r ?_;go_step;exact o.out _ _ rfl H
     case p9 =>
      intro x wx A f h i b p H K a;have a0:=tq b 8;have r:=(b 6 (by decide)).1;have o:=hid a;clear a i b p h;refine sgT r ?_;go_step;exact o.out _ _ rfl H
     case p10 =>
      intro x wx A f h i b p H K a;have a1:=tq b 9;have r:=(b 6 (by decide)).1;have o:=hid a;clear a i b h;have D:wx.cell? ⟨g,3,none⟩=some (.int .i64 j):=p (fun w=>w.cell? ⟨g,3,none⟩=some (.int .i64 j)) (fun _ _ H=>H.cell 0 rfl 3) _ _ H;refine sgT r ?_;go_step;exact o.out _ _ rfl H
     case p11 =>
      intro x wx A f h i b p H K a;have a2:=tq b 10;have r:=(b 6 (by decide)).1;have o:=hid a;clear a i b p h;refine sgT r ?_;go_step;exact o.out _ _ rfl H
     case p12 =>
      intro x wx A f h i b p H K a;have Y:A.tmps[0]?.getD undef=.pointer (some ⟨g,0,none⟩):=Za i (0,_) (by simp) (by rfl);have r:=(b 6 (by decide)).1;have o:=hid a;clear a i b p h;refine sgT r ?_;go_step;exact o.out _ _ rfl H
     case p13 =>
      intro x wx A f h i b p H K a;have a3:=tq b 12;have r:=(b 6 (by decide)).1;have o:=hid a;clear a i b p h;refine sgT r ?_;go_step;exact o.out _ _ rfl H
     case p14 =>
      intro x wx A f h i b p H K a;have a4:=tq b 13;have r:=(b 6 (by decide)).1;have o:=hid a;clear a i b p h;refine sgT r ?_;go_step;exact o.out _ _ rfl H
     case p15 =>
      intro x wx A f h i b p H K a;have a5:=tq b 14;have r:=(b 6 (by decide)).1;have o:=hid a;clear a i b h;have T:wx.cell? ⟨g,0,none⟩=some (.slice A0 l c):=p (fun w=>w.cell? ⟨g,0,none⟩=some (.slice A0 l c)) (fun _ _ H=>H.cell 0 rfl 0) _ _ H;refine sgT r ?_;go_step;exact o.out _ _ rfl H
     case p16 =>
      intro x wx A f h i b p H K a;have a6:=tq b 15;have r:=(b 6 (by decide)).1;have o:=hid a;clear a i b p h;refine sgT r ?_;go_step;exact o.out _ _ rfl H
     case p17 =>
      intro x wx A f h i b p H K a;have a7:=tq b 11;have a8:=tq b 16;have r:=(b 6 (by decide)).1;have o:=hid a;clear a i b p h;refine sgT r ?_;go_step;exact o.out _ _ rfl H
    case hend =>
     intro x wx A C b H;replace H:Sp w0 (_::_::_::L) wx:=H;have z:x 18=.bool false:=b 18 (by decide);clear b;simp only [putAll,Act.put,List.setIfInBounds_toArray,List.set_cons_succ,List.set_cons_zero,Nat.reduceAdd] at C;subst C;rw [z];clear z;go_wp2;go_end0;rw [show max n (min at_ (l - 2))=j by omega];exact⟨rfl,Yd F H⟩
  ·have k1:¬ (j:Int)<at_:=by omega
   go_wp2_with fail
   refine Zb (L:=FdB g (.slice A0 l c) d y j::Is y (.map E t)::Rows (PM.places B j) E.toList::L) [some (.pointer (some ⟨g,0,none⟩)),some (.pointer (some ⟨g,0,none⟩)),some (.pointer (some ⟨g,3,none⟩)),some (.int .i64 j),some (.int .i64 at_),some (.bool false),some (.bool false),some (undef),some (undef),some (undef),some (undef),some (undef),some (undef),some (undef),some (undef),some (undef),some (undef),some (undef),some (.bool false)] (fun _ _=>True) (fun _ _=>[]) (fun _=>[]) 19 56
    [some 5,some 6,some 7,some 8,some 9,some 10,some 11,some 12,some 13,some 14,some 15,some 16,some 17,some 18,some 19,some 20,some 21,some 22,some 23]
    [[],[0],[1],[2],[],[3,4],[5],[6],[7,6],[8,6],[9,6],[10,6],[6],[12,6],[13,6],[14,6],[15,6],[11,16,6],[6,17]]
    [[],[0],[0,1],[0,1,2],[],[0,1,2,3,4],[0,1,2,3,4,5],[0,1,2,3,4,5,6],[0,1,2,3,4,5,6,7],[0,1,2,3,4,5,6,7,8],[0,1,2,3,4,5,6,7,8,9],[0,1,2,3,4,5,6,7,8,9,10],[0,1,2,3,4,5,6],[0,1,2,3,4,5,6,12],[0,1,2,3,4,5,6,12,13],[0,1,2,3,4,5,6,12,13,14],[0,1,2,3,4,5,6,12,13,14,15],[0,1,2,3,4,5,6,7,8,9,10,11,12,13,14,15,16],[0,1,2,3,4,5,6,7,8,9,10,11,12,13,14,15,16,17]]
    [[],[],[],[],[],[],[],[],[],[],[],[],[],[],[],[],[],[],[]] [[],[],[],[],[],[],[],[],[],[],[],[],[],[],[],[],[],[],[]] [(0,.pointer (some ⟨g,0,none⟩)),(1,.int .i64 at_)]
    (by kernel_rfl) rfl (by decide) (by rfl) (by decide +kernel) rfl rfl (by simp) (S) ?hstep ?hend
   case hstep =>
    refine⟨?p0,⟨?p1,⟨?p2,⟨?p3,⟨?p4,⟨?p5,⟨?p6,⟨?p7,⟨?p8,⟨?p9,⟨?p10,⟨?p11,⟨?p12,⟨?p13,⟨?p14,⟨?p15,⟨?p16,⟨?p17,⟨?p18,trivial⟩⟩⟩⟩⟩⟩⟩⟩⟩⟩⟩⟩⟩⟩⟩⟩⟩⟩⟩
    case p0 | p1 | p2 | p4 | p5 | p6 | p18 =>
     intro x wx A f h i b p H K o;replace o:=hid o;clear b p h;repeat (obtain⟨_,i⟩:=i)
     refine so ?_;go_step;exact o.out _ _ rfl H
    case p3 =>
     intro x wx A f h i b p H K a;have e7:=tq b 2;have o:=hid a;clear a i b h;have D:wx.cell? ⟨g,3,none⟩=some (.int .i64 j):=p (fun w=>w.cell? ⟨g,3,none⟩=some (.int .i64 j)) (fun _ _ H=>H.cell 0 rfl 3) _ _ H;refine so ?_;go_step;exact o.out _ _ rfl H
    case p7 =>
     intro x wx A f h i b p H K a;have Y:A.tmps[0]?.getD undef=.pointer (some ⟨g,0,none⟩):=Za i (0,_) (by simp) (by rfl);have r:=(b 6 (by decide)).1;have o:=hid a;clear a i b p h;exact sgF r (o.out _ _ rfl H)
    case p8 =>
     intro x wx A f h i b p H K a;have Z:=tq b 7;have r:=(b 6 (by decide)).1;have o:=hid a;clear a i b p h;exact sgF r (o.out _ _ rfl H)
    case p9 =>
     intro x wx A f h i b p H K a;have a0:=tq b 8;have r:=(b 6 (by decide)).1;have o:=hid a;clear a i b p h;exact sgF r (o.out _ _ rfl H)
    case p10 =>
     intro x wx A f h i b p H K a;have a1:=tq b 9;have r:=(b 6 (by decide)).1;have o:=hid a;clear a i b h;exact sgF r (o.out _ _ rfl H)
    case p11 =>
     intro x wx A f h i b p H K a;have a2:=tq b 10;have r:=(b 6 (by decide)).1;have o:=hid a;clear a i b p h;exact sgF r (o.out _ _ rfl H)
    case p12 =>
     intro x wx A f h i b p H K a;have Y:A.tmps[0]?.getD undef=.pointer (some ⟨g,0,none⟩):=Za i (0,_) (by simp) (by rfl);have r:=(b 6 (by decide)).1;have o:=hid a;clear a i b p h;exact sgF r (o.out _ _ rfl H)
    case p13 =>
     intro x wx A f h i b p H K a;have a3:=tq b 12;have r:=(b 6 (by decide)).1;have o:=hid a;clear a i b p h;exact sgF r (o.out _ _ rfl H)
    case p14 =>
     intro x wx A f h i b p H K a;have a4:=tq b 13;have r:=(b 6 (by decide)).1;have o:=hid a;clear a i b p h;exact sgF r (o.out _ _ rfl H)
    case p15 =>
     intro x wx A f h i b p H K a;have a5:=tq b 14;have r:=(b 6 (by decide)).1;have o:=hid a;clear a i b h;exact sgF r (o.out _ _ rfl H)
    case p16 =>
     intro x wx A f h i b p H K a;have a6:=tq b 15;have r:=(b 6 (by decide)).1;have o:=hid a;clear a i b p h;exact sgF r (o.out _ _ rfl H)
    case p17 =>
     intro x wx A f h i b p H K a;have a7:=tq b 11;have a8:=tq b 16;have r:=(b 6 (by decide)).1;have o:=hid a;clear a i b p h;exact sgF r (o.out _ _ rfl H)
   case hend =>
    intro x wx A C b H;replace H:Sp w0 (_::_::_::L) wx:=H;have z:x 18=.bool false:=b 18 (by decide);clear b;simp only [putAll,Act.put,List.setIfInBounds_toArray,List.set_cons_succ,List.set_cons_zero,Nat.reduceAdd] at C;subst C;rw [z];clear z;go_wp2;go_end0;rw [show max n (min at_ (l - 2))=j by omega];exact⟨rfl,Yd F H⟩
end Go.Proofs.YteajimobgkempaaGreatDoor

