/- A pack. -/
import Derived.Test.YtnjpnmpemhldcaaGreatDoorPk25
set_option linter.all false
set_option maxRecDepth 100000
set_option maxHeartbeats 8000000
namespace Go.Proofs.YtnjpnmpemhldcaaGreatDoor
variable {w0 w:World} {L:List Pr}
open Go.RowKit
theorem infoIM:(Tryz.prog.info? 3).map (fun i=>(i.zero,i.size,i.bytes))=some (some (.int .i64 0),1,8):=by kernel_rfl
theorem XI {w:World} {ad:Addr} {l c:Nat} {B:List UInt8} (h:Byt w (.slice (some ad) l c) B) (j:Nat) (hj:j+3<=B.length) :
  w.cell? (ad.add j)=some (.int .u8 ((PM.at3 B j).1.toNat:Int))/\w.cell? ⟨(ad.add j).block,(ad.add j).off+1,none⟩=some (.int .u8 ((PM.at3 B j).2.1.toNat:Int))/\w.cell? ⟨(ad.add j).block,(ad.add j).off+2,none⟩=some (.int .u8 ((PM.at3 B j).2.2.toNat:Int)):=by
 obtain⟨_,_,e,d,_,_⟩:=h;have a:∀i (hi:i<B.length),w.cell? (ad.add i)=some (.int .u8 ((B.getD i 0).toNat:Int)):=fun i hi=>by
  obtain⟨f,b,g⟩:=d.at8 hi;injection e with e
  rw [<- e] at b;injection b with b
  rw [List.getD_eq_getElem?_getD,List.getElem?_eq_getElem hi,b];exact g
 rw [Zv ad j 1 (by omega),Zv ad j 2 (by omega)];exact⟨a j (by omega),a (j+1) (by omega),a (j+2) (by omega)⟩
section
variable {P:Program}
theorem XR {o:Oper} {a:Act} {w:World} {K:Act->World->Prop} {Q:Exit->Act->World->Prop} (t:TypeId) (m k:Operand) (ho:o.op=.mapEntry t m k) (vm vk:Value) (hm:a.eval m=vm) (hk:a.eval k=vk) {v:Value} {w' : World}
  (hr:(Instr.mapEntry t vm vk).run P w=.ok v w') (h:K (a.put o.dst v) w'):o.wp P a w K Q:=by
 unfold Oper.wp execOp;simp only [ho,Sem.run_bind,Sem.run_pure,Result.andThen_ok,hm,hk,hr];exact h
theorem Xn {o:Oper} {a:Act} {w:World} {K:Act->World->Prop} {Q:Exit->Act->World->Prop} (t:TypeId) (m i x:Operand) (ho:o.op=.entryStore t m i x) (hd:o.dst=none) (vm vi vx:Value) (hm:a.eval m=vm) (hi:a.eval i=vi) (hx:a.eval x=vx) {w' : World}
  (hr:(Instr.entryStore t vm vi vx).run P w=.ok () w') (h:K a w'):o.wp P a w K Q:=by
 unfold Oper.wp execOp;simp only [ho,Sem.run_bind,Sem.run_pure,Result.andThen_ok,hm,hi,hx,hr];unfold Oper.upon;simp only [hd];exact h
end
theorem Ts (g at_ n l:Nat) (A0:Option Addr) (c:Nat) (B:List UInt8) (d:Int) (H:Sp w0 (Fd g (.slice A0 l c) B d n::L) w) (hl:l=B.length) (hb:Ent L (fun w=>Byt w (.slice A0 l c) B)) (hat:at_<=1000000000) (hlm:l<=1000000000) :
  Calls Tryz.prog 128 #[.pointer (some ⟨g,0,none⟩),.int .i64 at_] w fun e w'=>e=.returned (.tuple #[])/\Sp w0 (Fd g (.slice A0 l c) B d (max n (min at_ (l - 2)))::L) w':=by
 obtain⟨i0,hi,b2,b3,b4⟩:=info_parts infoIM;have G:Tryz.prog.underlying 209=some (.array 3 5):=by kernel_rfl
 have W:=hid G;clear G;obtain⟨_,_,_,_,_⟩:=YC H;obtain⟨d3,b5⟩:l<=c/\c<=maxLen:=by
  obtain⟨_,_,e,_,h1,h2⟩:=hb _ _ H.tail;injection e with e1 e2 e3
  rw [e3,e2];exact⟨h1,h2⟩
 unfold maxLen at b5;have HL:=hid hl;have HB:=hid hb;clear hl hb;go_enter Tryz.func128,Tryz.ntmps128
 go_wp2;go_loopw [] (fun wr=>∃j,n<=j/\j<=max n (min at_ (l - 2))/\Sp w0 (Fd g (.slice A0 l c) B d j::L) wr) (fun wr=>match wr.cell? ⟨g,3,none⟩ with | some (.int _ x)=>((at_:Int) - x).toNat | _=>0)
 case atStart=>exact⟨n,Nat.le_refl _,by omega,H⟩
 case round =>
  obtain⟨j,d4,d5,H1⟩:=hrel;obtain⟨t,D,s,E,R⟩:=YC H1;have C:wr.cell? ⟨g,3,none⟩=some (.int .i64 j):=R.cell 0 rfl 3;have C3:=hid C;clear C;by_cases d6:j<at_
  ·have k1:(j:Int)<at_:=by omega
   by_cases d7:j+3<=l
   ·have k2:(j:Int)+3<=l:=by omega
    go_wp2_with fail
    refine Zb (L:=FdB g (.slice A0 l c) d t j::Is t (.map D s)::Rows (PM.places B j) D.toList::L) [some (.pointer (some ⟨g,0,none⟩)),some (.pointer (some ⟨g,0,none⟩)),some (.pointer (some ⟨g,3,none⟩)),some (.int .i64 j),some (.int .i64 at_),some (.bool true),some (.bool true),some (.pointer (some ⟨g,0,none⟩)),some (.pointer (some ⟨g,0,none⟩)),some (.pointer (some ⟨g,3,none⟩)),some (.int .i64 j),some (.int .i64 ((j:Int)+3)),some (.pointer (some ⟨g,0,none⟩)),some (.pointer (some ⟨g,0,none⟩)),some (.pointer (some ⟨g,0,none⟩)),some (.slice A0 l c),some (.int .i64 l),some (.bool true),some (.bool true)] (fun _ _=>True) (fun _ _=>[]) (fun _=>[]) 19 56
     [some 5,some 6,some 7,some 8,some 9,some 10,some 11,some 12,some 13,some 14,some 15,some 16,some 17,some 18,some 19,some 20,some 21,some 22,some 23]
     [[],[0],[1],[2],[],[3,4],[5],[6],[7,6],[8,6],[9,6],[10,6],[6],[12,6],[13,6],[14,6],[15,6],[11,16,6],[6,17]]
     [[],[0],[0,1],[0,1,2],[],[0,1,2,3,4],[0,1,2,3,4,5],[0,1,2,3,4,5,6],[0,1,2,3,4,5,6,7],[0,1,2,3,4,5,6,7,8],[0,1,2,3,4,5,6,7,8,9],[0,1,2,3,4,5,6,7,8,9,10],[0,1,2,3,4,5,6],[0,1,2,3,4,5,6,12],[0,1,2,3,4,5,6,12,13],[0,1,2,3,4,5,6,12,13,14],[0,1,2,3,4,5,6,12,13,14,15],[0,1,2,3,4,5,6,7,8,9,10,11,12,13,14,15,16],[0,1,2,3,4,5,6,7,8,9,10,11,12,13,14,15,16,17]]
     [[],[],[],[],[],[],[],[],[],[],[],[],[],[],[],[],[],[],[]] [[],[],[],[],[],[],[],[],[],[],[],[],[],[],[],[],[],[],[]] [(0,.pointer (some ⟨g,0,none⟩)),(1,.int .i64 at_)]
     (by kernel_rfl) rfl (by decide) (by rfl) (by decide +kernel) rfl rfl (by simp) (R) ?hstep ?hend
    case hstep =>
     refine⟨?p0,⟨?p1,⟨?p2,⟨?p3,⟨?p4,⟨?p5,⟨?p6,⟨?p7,⟨?p8,⟨?p9,⟨?p10,⟨?p11,⟨?p12,⟨?p13,⟨?p14,⟨?p15,⟨?p16,⟨?p17,⟨?p18,trivial⟩⟩⟩⟩⟩⟩⟩⟩⟩⟩⟩⟩⟩⟩⟩⟩⟩⟩⟩
     case p0 | p1 | p2 | p4 | p5 | p6 | p18 =>
      intro x wx A f h i b o H K hK;replace hK:=hid hK;clear b o h;repeat (obtain⟨_,i⟩:=i)
      refine so ?_;go_step;exact hK.out _ _ rfl H
     case p3 =>
      intro x wx A f h i b o H K a;have e7:=tq b 2;have hK:=hid a;clear a i b h;have C:wx.cell? ⟨g,3,none⟩=some (.int .i64 j):=o (fun w=>w.cell? ⟨g,3,none⟩=some (.int .i64 j)) (fun _ _ H=>H.cell 0 rfl 3) _ _ H;refine so ?_;go_step;exact hK.out _ _ rfl H
     case p7 =>
      intro x wx A f h i b o H K a;have X:A.tmps[0]?.getD undef=.pointer (some ⟨g,0,none⟩):=Zc i (0,_) (by simp) (by rfl);have p:=(b 6 (by decide)).1;have hK:=hid a;clear a i b o h;refine sgT p ?_;go_step;exact hK.out _ _ rfl H
     case p8 =>
      intro x wx A f h i b o H K a;have Y:=tq b 7;have p:=(b 6 (by decide)).1;have hK:=hid a;clear a i b o h;refine sgT p ?_;go_step;exact hK.out _ _ rfl H
     case p9 =>
      intro x wx A f h i b o H K a;have Z:=tq b 8;have p:=(b 6 (by decide)).1;have hK:=hid a;clear a i b o h;refine sgT p ?_;go_step;exact hK.out _ _ rfl H
     case p10 =>
      intro x wx A f h i b o H K a;have a0:=tq b 9;have p:=(b 6 (by decide)).1;have hK:=hid a;clear a i b h;have C:wx.cell? ⟨g,3,none⟩=some (.int .i64 j):=o (fun w=>w.cell? ⟨g,3,none⟩=some (.int .i64 j)) (fun _ _ H=>H.cell 0 rfl 3) _ _ H;refine sgT p ?_;go_step;exact hK.out _ _ rfl H
     case p11 =>
      intro x wx A f h i b o H K a;have a1:=tq b 10;have p:=(b 6 (by decide)).1;have hK:=hid a;clear a i b o h;refine sgT p ?_;go_step;exact hK.out _ _ rfl H
     case p12 =>
      intro x wx A f h i b o H K a;have X:A.tmps[0]?.getD undef=.pointer (some ⟨g,0,none⟩):=Zc i (0,_) (by simp) (by rfl);have p:=(b 6 (by decide)).1;have hK:=hid a;clear a i b o h;refine sgT p ?_;go_step;exact hK.out _ _ rfl H
     case p13 =>
      intro x wx A f h i b o H K a;have a2:=tq b 12;have p:=(b 6 (by decide)).1;have hK:=hid a;clear a i b o h;refine sgT p ?_;go_step;exact hK.out _ _ rfl H
     case p14 =>
      intro x wx A f h i b o H K a;have a3:=tq b 13;have p:=(b 6 (by decide)).1;have hK:=hid a;clear a i b o h;refine sgT p ?_;go_step;exact hK.out _ _ rfl H
     case p15 =>
      intro x wx A f h i b o H K a;have a4:=tq b 14;have p:=(b 6 (by decide)).1;have hK:=hid a;clear a i b h;have S:wx.cell? ⟨g,0,none⟩=some (.slice A0 l c):=o (fun w=>w.cell? ⟨g,0,none⟩=some (.slice A0 l c)) (fun _ _ H=>H.cell 0 rfl 0) _ _ H;refine sgT p ?_;go_step;exact hK.out _ _ rfl H
     case p16 =>
      intro x wx A f h i b o H K a;have a5:=tq b 15;have p:=(b 6 (by decide)).1;have hK:=hid a;clear a i b o h;refine sgT p ?_;go_step;exact hK.out _ _ rfl H
     case p17 =>
      intro x wx A f h i b o H K a;have a6:=tq b 11;have a7:=tq b 16;have p:=(b 6 (by decide)).1;have hK:=hid a;clear a i b o h;refine sgT p ?_;go_step;exact hK.out _ _ rfl H
    case hend =>
     intro x wx A z b H;replace H:Sp w0 (_::_::_::L) wx:=H;have y:x 18=.bool true:=b 18 (by decide);clear b;simp only [putAll,Act.put,List.setIfInBounds_toArray,List.set_cons_succ,List.set_cons_zero,Nat.reduceAdd] at z;subst z;rw [y];clear y k1;obtain⟨ad,rfl⟩:∃ad,A0=some ad:=by
      obtain⟨_,_,e,hr,_,_⟩:=HB.out _ _ (H.pick 3 []);obtain⟨ad,e2,_⟩:=hr.at8 (k:=j) (by rw [<- HL.out]; omega);injection e with e
      exact⟨ad,e.trans e2⟩
     obtain⟨k,hk⟩:=exq (PM.at3 B j);have I:Ent L (fun w=>w.cell? (ad.add j)=some (.int .u8 k.1.toNat)/\w.cell? ⟨(ad.add j).block,(ad.add j).off+1,none⟩=some (.int .u8 k.2.1.toNat)/\w.cell? ⟨(ad.add j).block,(ad.add j).off+2,none⟩=some (.int .u8 k.2.2.toNat)):=HB.out.mono fun w' hw=>by
      rw [<- hk];exact XI hw j (by rw [<- HL.out]; omega)
     have b6:=hid I;have HK:=hid hk;clear I hk;have k3:(j:Int)<c:=by omega
     have k4:3<=l - j:=by omega
     have k5:j<=l:=by omega
     have k6:¬ c=j:=by omega
     go_wp2_with fail
     refine Zr (L:=FdB g (.slice (some ad) l c) d t j::Is t (.map D s)::Rows (PM.places B j) D.toList::L) [some (.pointer (some ⟨g,0,none⟩)),some (.pointer (some ⟨g,0,none⟩)),some (.pointer (some ⟨g,0,none⟩)),some (.slice (some ad) l c),some (.pointer (some ⟨g,0,none⟩)),some (.pointer (some ⟨g,0,none⟩)),some (.pointer (some ⟨g,3,none⟩)),some (.int .i64 j),some (.slice (some (ad.add j)) (l - j) (c - j)),some (.pointer (some (ad.add j))),some (key3 k),none,none] (fun ix ux vx=>match ix with | 11=>(fun v=>v=.pointer (some ⟨blkOf v,0,none⟩)) vx | _=>True) (fun ix ux vx=>match ix with | 11=>(fun v=>[Bk (blkOf v) 209 [.int .u8 0,.int .u8 0,.int .u8 0]]) vx | 12=>(fun _=>[Bk (blkOf ux) 209 (cells3 k)]) vx | _=>[]) (fun _=>[]) 13 56
      [some 31,some 32,some 33,some 34,some 35,some 36,some 37,some 38,some 39,some 40,some 41,some 4,none]
      [[],[0],[1],[2],[],[4],[5],[6],[3,7],[8],[9],[],[11,10,0,1,2,3,4,5,6,7,8,9,10,11]]
      [[],[0],[0,1],[0,1,2],[],[4],[4,5],[4,5,6],[0,1,2,3,4,5,6,7],[0,1,2,3,4,5,6,7,8],[0,1,2,3,4,5,6,7,8,9],[],[0,1,2,3,4,5,6,7,8,9,10,11]]
      [[],[],[],[],[],[],[],[],[],[],[],[],[11]] [[],[],[],[],[],[],[],[],[],[],[],[],[]] [none,none,none,none,none,none,none,none,none,none,none,none,some 11] [(0,.pointer (some ⟨g,0,none⟩))]
      (by kernel_rfl) rfl (by decide) (by rfl) (by decide +kernel) rfl (by simp) (by rfl) (H) ?hstep ?hend
     case hstep =>
      refine⟨?p0,⟨?p1,⟨?p2,⟨?p3,⟨?p4,⟨?p5,⟨?p6,⟨?p7,⟨?p8,⟨?p9,⟨?p10,⟨?p11,⟨?p12,trivial⟩⟩⟩⟩⟩⟩⟩⟩⟩⟩⟩⟩⟩
      case p0 | p1 | p2 | p4 | p5 | p6 | p8 =>
       intro x wx A f i b o H K hK;replace hK:=hid hK;clear b o;repeat (obtain⟨_,i⟩:=i)
       refine so ?_;go_step;exact hK.out _ _ rfl H
      case p3 =>
       intro x wx A f i b o H K a;have d8:=tq b 2;have hK:=hid a;clear a i b;have S:wx.cell? ⟨g,0,none⟩=some (.slice (some ad) l c):=o (fun w=>w.cell? ⟨g,0,none⟩=some (.slice (some ad) l c)) (fun _ _ H=>H.cell 0 rfl 0) _ _ H;refine so ?_;go_step;exact hK.out _ _ rfl H
      case p7 =>
       intro x wx A f i b o H K a;have d9:=tq b 6;have hK:=hid a;clear a i b;have C:wx.cell? ⟨g,3,none⟩=some (.int .i64 j):=o (fun w=>w.cell? ⟨g,3,none⟩=some (.int .i64 j)) (fun _ _ H=>H.cell 0 rfl 3) _ _ H;refine so ?_;go_step;exact hK.out _ _ rfl H
      case p9 =>
       intro x wx A f i b o H K a;have e5:=tq b 8;have hK:=hid a;clear a i b o;have ha:=run_arrayAt (P:=Tryz.prog) wx 209 _ 3 (some (ad.add j)) (l - j) (c - j) W.out k4;refine so ?_;go_step;exact hK.out _ _ rfl H
      case p10 =>
       intro x wx A f i b o H K a;have e6:=tq b 9;have hK:=hid a;clear a i b;obtain⟨d0,d1,d2⟩:=o _ (Ent.cons _ (Ent.cons _ (Ent.cons _ b6.out))) _ _ H;refine so ?_;go_step;exact hK.out _ _ rfl H
      case p11 =>
       intro x wx A f i b o H K a;have hK:=hid a;clear a i b o;refine so ?_;go_step;exact hK.out _ _ rfl (H.newBk _ _)
      case p12 =>
       intro x wx A f i b o H K a;have q4:(x 11)=.pointer (some ⟨blkOf (x 11),0,none⟩):=(b 11 (by decide)).1;have e4:=(b 11 (by decide)).2 4 rfl;have b7:=tq b 10;replace H:Sp w0 ((Bk (blkOf (x 11)) 209 [.int .u8 0,.int .u8 0,.int .u8 0])::f) wx:=H;have hK:Hid (∀(v:Value) (w' : World),True->Sp w0 ((Bk (blkOf (x 11)) 209 (cells3 k))::f) w'->K (A.put none v) w'):=hid a;clear a i b o;obtain⟨J,e9⟩:=exq (blkOf (x 11));have q:x 11=.pointer (some ⟨blkOf (x 11),0,none⟩):=q4;rw [e9] at q H;rw [q] at e4;clear q q4;have z0:wx.frozen? ⟨J,0,none⟩=false:=H.frozen 0 rfl 0;have z1:wx.frozen? ⟨J,1,none⟩=false:=H.frozen 0 rfl 1;have z2:wx.frozen? ⟨J,2,none⟩=false:=H.frozen 0 rfl 2;have z3:wx.cell? ⟨J,0,none⟩=some (.int .u8 0):=H.cell 0 rfl 0;have z4:wx.cell? ⟨J,1,none⟩=some (.int .u8 0):=H.cell 0 rfl 1;have z5:wx.cell? ⟨J,2,none⟩=some (.int .u8 0):=H.cell 0 rfl 2;unfold key3 at b7;refine so ?_;go_step;refine hK.out (x 11) _ trivial ?_;rw [e9];exact((H.set 0 _).set 1 _).set 2 _
     case hend =>
      intro x wx A z b H;replace H:Sp w0 ((Bk (blkOf (x 11)) 209 (cells3 k))::_::_::_::L) wx:=H;have T:(x 11)=.pointer (some ⟨blkOf (x 11),0,none⟩):=b 11 (by decide);clear b;simp only [putAll,Act.put,List.setIfInBounds_toArray,List.set_cons_succ,List.set_cons_zero,Nat.reduceAdd] at z;subst z;obtain⟨F,a8⟩:=exq (blkOf (x 11));rw [a8] at T H;rw [T];clear a8 T;obtain⟨v0,st,m,b8,r,E2,rl,ys,hm,H3,a9,b0,M,N⟩:=Tr E (H.pick 4 [2,3,0,1]);have b1:=hid a9;have b9:=hid b0;have O:=hid M;have Q:=hid N;obtain⟨V0,S,rfl,e8,_⟩:=Row.form H3 1 rfl;clear a9 b0 M N E R H1;rw [HK.out] at b1;go_wp2_with fail
      refine Zr (L:=Rows (PM.places B j) rl::Bk F 209 (cells3 k)::FdB g (.slice (some ad) l c) d t j::L) [some (.pointer (some ⟨g,0,none⟩)),some (.pointer (some ⟨g,0,none⟩)),some (.pointer (some ⟨g,2,none⟩)),some (.map (some t)),some (key3 k),some (.pointer (some ⟨g,0,none⟩)),some (.pointer (some ⟨g,0,none⟩)),some (.pointer (some ⟨g,3,none⟩)),some (.int .i64 j),none,some (.tuple #[.slice V0 m S,.int .i64 st]),some (.slice V0 m S),none,some (.int .i64 st),none] (fun ix ux vx=>match ix with | 9=>(fun v=>v=.slice (some ⟨v.ownBlock.getD 0,0,none⟩) 1 1) vx | 12=>(fun _=>True) vx | _=>True) (fun ix ux vx=>match ix with | 9=>(fun v=>[Bk (v.ownBlock.getD 0) 3 [.int .i64 j]]) vx | 10=>(fun _=>[Is t (.map b8 r)]) vx | 12=>(fun v=>[Row 3 1 v (m+1) (ys++[.int .i64 j])]) vx | 14=>(fun _=>[Is t (.map (E2 ux) r)]) vx | _=>[]) (fun ix=>match ix with | 10=>[Is t (.map D s)] | 12=>[Row 3 1 (.slice V0 m S) m ys] | _=>[]) 15 56
       [some 42,some 43,some 44,some 45,some 46,some 48,some 49,some 50,some 51,some 52,some 53,some 47,some 54,some 55,none]
       [[],[0],[1],[2],[],[],[5],[6],[7],[8],[3,4,0,1,2,3,4,5,6,7,8,9],[10],[11,9,10],[10],[3,13,12,12,0,1,2,3,4,5,6,7,8,9,10,11,12,13]]
       [[],[0],[0,1],[0,1,2],[],[],[5],[5,6],[5,6,7],[5,6,7,8],[0,1,2,3,4,5,6,7,8,9],[0,1,2,3,4,5,6,7,8,9,10],[0,1,2,3,4,5,6,7,8,9,10,11],[0,1,2,3,4,5,6,7,8,9,10],[0,1,2,3,4,5,6,7,8,9,10,11,12,13]]
       [[],[],[],[],[],[],[],[],[],[],[],[],[9],[],[10]] [[],[],[],[],[],[],[],[],[],[],[],[],[],[],[]] [none,none,none,none,none,none,none,none,none,none,none,none,none,none,some 12] [(0,.pointer (some ⟨g,0,none⟩)),(4,.pointer (some ⟨F,0,none⟩))]
       (by kernel_rfl) rfl (by decide) (by rfl) (by decide +kernel) rfl (by simp) (by rfl) (H3.pick 5 [0,1,2,3,4]) ?hstep ?hend
      case hstep =>
       refine⟨?p0,⟨?p1,⟨?p2,⟨?p3,⟨?p4,⟨?p5,⟨?p6,⟨?p7,⟨?p8,⟨?p9,⟨?p10,⟨?p11,⟨?p12,⟨?p13,⟨?p14,trivial⟩⟩⟩⟩⟩⟩⟩⟩⟩⟩⟩⟩⟩⟩⟩
       case p0 | p1 | p2 | p5 | p6 | p7 | p11 | p13 =>
        intro x wx A f i b o H K hK;replace hK:=hid hK;clear b o;repeat (obtain⟨_,i⟩:=i)
        refine so ?_;go_step;exact hK.out _ _ rfl H
       case p3 =>
        intro x wx A f i b o H K a;have f0:=tq b 2;have hK:=hid a;clear a i b;have c2:wx.cell? ⟨g,2,none⟩=some (.map (some t)):=o (fun w=>w.cell? ⟨g,2,none⟩=some (.map (some t))) (fun _ _ H=>H.cell 2 rfl 2) _ _ H;refine so ?_;go_step;exact hK.out _ _ rfl H
       case p4 =>
        intro x wx A f i b o H K a;have e4:A.tmps[4]?.getD undef=.pointer (some ⟨F,0,none⟩):=Zs i (4,_) (by simp);have hK:=hid a;clear a i b;have d0:wx.cell? ⟨F,0,none⟩=some (.int .u8 k.1.toNat):=o (fun w=>w.cell? ⟨F,0,none⟩=some (.int .u8 k.1.toNat)) (fun _ _ H=>H.cell 1 rfl 0) _ _ H;have d1:wx.cell? ⟨F,1,none⟩=some (.int .u8 k.2.1.toNat):=o (fun w=>w.cell? ⟨F,1,none⟩=some (.int .u8 k.2.1.toNat)) (fun _ _ H=>H.cell 1 rfl 1) _ _ H;have d2:wx.cell? ⟨F,2,none⟩=some (.int .u8 k.2.2.toNat):=o (fun w=>w.cell? ⟨F,2,none⟩=some (.int .u8 k.2.2.toNat)) (fun _ _ H=>H.cell 1 rfl 2) _ _ H;refine so ?_;go_step;exact hK.out _ _ rfl H
       case p8 =>
        intro x wx A f i b o H K a;have f1:=tq b 7;have hK:=hid a;clear a i b;have C:wx.cell? ⟨g,3,none⟩=some (.int .i64 j):=o (fun w=>w.cell? ⟨g,3,none⟩=some (.int .i64 j)) (fun _ _ H=>H.cell 2 rfl 3) _ _ H;refine so ?_;go_step;exact hK.out _ _ rfl H
       case p9 =>
        intro x wx A f i b o H K a;have f2:=tq b 8;have hK:=hid a;clear a i b o;refine so ?_;go_step;exact hK.out _ _ rfl (H.newBk _ _)
       case p10 =>
        intro x wx A f i b o H K a;have U:=tq b 3;have c1:=tq b 4;replace H:Sp w0 (_::f) wx:=H;have hK:=hid a;clear a i b o;refine so ?_;exact XR _ _ _ rfl _ _ (ev U) (ev c1) (b1.out wx (H.is_ 0 rfl)) (hK.out _ _ rfl (H.put _))
       case p12 =>
        intro x wx A f i b o H K a;have c4:=tq b 11;have c5:(x 9)=.slice (some ⟨(x 9).ownBlock.getD 0,0,none⟩) 1 1:=(b 9 (by decide)).1;have V:=(b 9 (by decide)).2 52 rfl;replace H:Sp w0 (_::(Bk ((x 9).ownBlock.getD 0) 3 [.int .i64 j])::f) wx:=H;have hK:Hid (∀(v:Value) (w' : World),True->Sp w0 ((Row 3 1 v (m+1) (ys++[.int .i64 j]))::f) w'->K (A.put (some 54) v) w'):=hid a;clear a i b o;obtain⟨J,e9⟩:=exq ((x 9).ownBlock.getD 0);rw [c5] at V;rw [e9] at V H;refine so ?_;refine Zi _ _ 141 rfl 3 i0 (.int .i64 0) 1 8 Tryz.underlying141 hi b2 b3 b4 rfl (by decide) (.slice V0 m S) m ys (ev c4) H (some ⟨J,0,none⟩) 1 1 [.int .i64 j] (ev V) rfl (Rd.of_blk (H.blk 1 rfl)) (by intro u hu; rw [List.mem_singleton.1 hu]; rfl) (by simp only [maxLen]; omega) (by omega) ?_;intro v1 w2 R _;exact hK.out _ _ trivial R.swap.tail
       case p14 =>
        intro x wx A f i b o H K a;have U:=tq b 3;have c6:=tq b 13;have f3:True:=(b 12 (by decide)).1;have c7:=(b 12 (by decide)).2 54 rfl;replace H:Sp w0 (_::f) wx:=H;have hK:Hid (∀(v:Value) (w' : World),True->Sp w0 ((Is t (.map (E2 (x 12)) r))::f) w'->K (A.put none v) w'):=hid a;clear a i b o;refine so ?_;exact Xn _ _ _ _ rfl rfl _ _ _ (ev U) (ev c6) (ev c7) (b9.out _ wx (H.is_ 0 rfl)) (hK.out (x 12) _ trivial (H.put _))
      case hend =>
       intro x wx A z b H;replace H:Sp w0 ((Row 3 1 (x 12) (m+1) (ys++[.int .i64 j]))::(Is t (.map (E2 (x 12)) r))::_::_::_::L) wx:=H;clear b;simp only [putAll,Act.put,List.setIfInBounds_toArray,List.set_cons_succ,List.set_cons_zero,Nat.reduceAdd] at z;subst z;have H4:=Q.out _ _ _ _ (H.pick 5 [0,2,1,3,4]);have H5:=H4.pick 4 [3,1,0];have c8:=O.out (x 12);clear Q O H4 H H3;have C:wx.cell? ⟨g,3,none⟩=some (.int .i64 j):=H5.cell 0 rfl 3;have z3:wx.frozen? ⟨g,3,none⟩=false:=H5.frozen 0 rfl 3;go_wp2;go_roundw
       case rel=>exact⟨j+1,by omega,by omega,Z9 c8 (H5.set 3 _)⟩
       case measure =>
        have c9:(wx.setCell ⟨g,3,none⟩ (.int .i64 ((j:Int)+1))).cell? ⟨g,3,none⟩=some (.int .i64 ((j:Int)+1)):=(H5.set 3 _).cell 0 rfl 3;rw [c9,C3.out];simp only [];omega
   ·have k2:decide ((j:Int)+3<=l)=false:=decide_eq_false (by omega);go_wp2_with fail
    refine Zb (L:=FdB g (.slice A0 l c) d t j::Is t (.map D s)::Rows (PM.places B j) D.toList::L) [some (.pointer (some ⟨g,0,none⟩)),some (.pointer (some ⟨g,0,none⟩)),some (.pointer (some ⟨g,3,none⟩)),some (.int .i64 j),some (.int .i64 at_),some (.bool true),some (.bool true),some (.pointer (some ⟨g,0,none⟩)),some (.pointer (some ⟨g,0,none⟩)),some (.pointer (some ⟨g,3,none⟩)),some (.int .i64 j),some (.int .i64 ((j:Int)+3)),some (.pointer (some ⟨g,0,none⟩)),some (.pointer (some ⟨g,0,none⟩)),some (.pointer (some ⟨g,0,none⟩)),some (.slice A0 l c),some (.int .i64 l),some (.bool false),some (.bool false)] (fun _ _=>True) (fun _ _=>[]) (fun _=>[]) 19 56
     [some 5,some 6,some 7,some 8,some 9,some 10,some 11,some 12,some 13,some 14,some 15,some 16,some 17,some 18,some 19,some 20,some 21,some 22,some 23]
     [[],[0],[1],[2],[],[3,4],[5],[6],[7,6],[8,6],[9,6],[10,6],[6],[12,6],[13,6],[14,6],[15,6],[11,16,6],[6,17]]
     [[],[0],[0,1],[0,1,2],[],[0,1,2,3,4],[0,1,2,3,4,5],[0,1,2,3,4,5,6],[0,1,2,3,4,5,6,7],[0,1,2,3,4,5,6,7,8],[0,1,2,3,4,5,6,7,8,9],[0,1,2,3,4,5,6,7,8,9,10],[0,1,2,3,4,5,6],[0,1,2,3,4,5,6,12],[0,1,2,3,4,5,6,12,13],[0,1,2,3,4,5,6,12,13,14],[0,1,2,3,4,5,6,12,13,14,15],[0,1,2,3,4,5,6,7,8,9,10,11,12,13,14,15,16],[0,1,2,3,4,5,6,7,8,9,10,11,12,13,14,15,16,17]]
     [[],[],[],[],[],[],[],[],[],[],[],[],[],[],[],[],[],[],[]] [[],[],[],[],[],[],[],[],[],[],[],[],[],[],[],[],[],[],[]] [(0,.pointer (some ⟨g,0,none⟩)),(1,.int .i64 at_)]
     (by kernel_rfl) rfl (by decide) (by rfl) (by decide +kernel) rfl rfl (by simp) (R) ?hstep ?hend
    case hstep =>
     refine⟨?p0,⟨?p1,⟨?p2,⟨?p3,⟨?p4,⟨?p5,⟨?p6,⟨?p7,⟨?p8,⟨?p9,⟨?p10,⟨?p11,⟨?p12,⟨?p13,⟨?p14,⟨?p15,⟨?p16,⟨?p17,⟨?p18,trivial⟩⟩⟩⟩⟩⟩⟩⟩⟩⟩⟩⟩⟩⟩⟩⟩⟩⟩⟩
     case p0 | p1 | p2 | p4 | p5 | p6 | p18 =>
      intro x wx A f h i b o H K hK;replace hK:=hid hK;clear b o h;repeat (obtain⟨_,i⟩:=i)
      refine so ?_;go_step;exact hK.out _ _ rfl H
     case p3 =>
      intro x wx A f h i b o H K a;have e7:=tq b 2;have hK:=hid a;clear a i b h;have C:wx.cell? ⟨g,3,none⟩=some (.int .i64 j):=o (fun w=>w.cell? ⟨g,3,none⟩=some (.int .i64 j)) (fun _ _ H=>H.cell 0 rfl 3) _ _ H;refine so ?_;go_step;exact hK.out _ _ rfl H
     case p7 =>
      intro x wx A f h i b o H K a;have X:A.tmps[0]?.getD undef=.pointer (some ⟨g,0,none⟩):=Zc i (0,_) (by simp) (by rfl);have p:=(b 6 (by decide)).1;have hK:=hid a;clear a i b o h;refine sgT p ?_;go_step;exact hK.out _ _ rfl H
     case p8 =>
      intro x wx A f h i b o H K a;have Y:=tq b 7;have p:=(b 6 (by decide)).1;have hK:=hid a;clear a i b o h;refine sgT p ?_;go_step;exact hK.out _ _ rfl H
     case p9 =>
      intro x wx A f h i b o H K a;have Z:=tq b 8;have p:=(b 6 (by decide)).1;have hK:=hid a;clear a i b o h;refine sgT p ?_;go_step;exact hK.out _ _ rfl H
     case p10 =>
      intro x wx A f h i b o H K a;have a0:=tq b 9;have p:=(b 6 (by decide)).1;have hK:=hid a;clear a i b h;have C:wx.cell? ⟨g,3,none⟩=some (.int .i64 j):=o (fun w=>w.cell? ⟨g,3,none⟩=some (.int .i64 j)) (fun _ _ H=>H.cell 0 rfl 3) _ _ H;refine sgT p ?_;go_step;exact hK.out _ _ rfl H
     case p11 =>
      intro x wx A f h i b o H K a;have a1:=tq b 10;have p:=(b 6 (by decide)).1;have hK:=hid a;clear a i b o h;refine sgT p ?_;go_step;exact hK.out _ _ rfl H
     case p12 =>
      intro x wx A f h i b o H K a;have X:A.tmps[0]?.getD undef=.pointer (some ⟨g,0,none⟩):=Zc i (0,_) (by simp) (by rfl);have p:=(b 6 (by decide)).1;have hK:=hid a;clear a i b o h;refine sgT p ?_;go_step;exact hK.out _ _ rfl H
     case p13 =>
      intro x wx A f h i b o H K a;have a2:=tq b 12;have p:=(b 6 (by decide)).1;have hK:=hid a;clear a i b o h;refine sgT p ?_;go_step;exact hK.out _ _ rfl H
     case p14 =>
      intro x wx A f h i b o H K a;have a3:=tq b 13;have p:=(b 6 (by decide)).1;have hK:=hid a;clear a i b o h;refine sgT p ?_;go_step;exact hK.out _ _ rfl H
     case p15 =>
      intro x wx A f h i b o H K a;have a4:=tq b 14;have p:=(b 6 (by decide)).1;have hK:=hid a;clear a i b h;have S:wx.cell? ⟨g,0,none⟩=some (.slice A0 l c):=o (fun w=>w.cell? ⟨g,0,none⟩=some (.slice A0 l c)) (fun _ _ H=>H.cell 0 rfl 0) _ _ H;refine sgT p ?_;go_step;exact hK.out _ _ rfl H
     case p16 =>
      intro x wx A f h i b o H K a;have a5:=tq b 15;have p:=(b 6 (by decide)).1;have hK:=hid a;clear a i b o h;refine sgT p ?_;go_step;exact hK.out _ _ rfl H
     case p17 =>
      intro x wx A f h i b o H K a;have a6:=tq b 11;have a7:=tq b 16;have p:=(b 6 (by decide)).1;have hK:=hid a;clear a i b o h;refine sgT p ?_;go_step;exact hK.out _ _ rfl H
    case hend =>
     intro x wx A z b H;replace H:Sp w0 (_::_::_::L) wx:=H;have y:x 18=.bool false:=b 18 (by decide);clear b;simp only [putAll,Act.put,List.setIfInBounds_toArray,List.set_cons_succ,List.set_cons_zero,Nat.reduceAdd] at z;subst z;rw [y];clear y;go_wp2;go_end0;rw [show max n (min at_ (l - 2))=j by omega];exact⟨rfl,Z9 E H⟩
  ·have k1:¬ (j:Int)<at_:=by omega
   go_wp2_with fail
   refine Zb (L:=FdB g (.slice A0 l c) d t j::Is t (.map D s)::Rows (PM.places B j) D.toList::L) [some (.pointer (some ⟨g,0,none⟩)),some (.pointer (some ⟨g,0,none⟩)),some (.pointer (some ⟨g,3,none⟩)),some (.int .i64 j),some (.int .i64 at_),some (.bool false),some (.bool false),some (undef),some (undef),some (undef),some (undef),some (undef),some (undef),some (undef),some (undef),some (undef),some (undef),some (undef),some (.bool false)] (fun _ _=>True) (fun _ _=>[]) (fun _=>[]) 19 56
    [some 5,some 6,some 7,some 8,some 9,some 10,some 11,some 12,some 13,some 14,some 15,some 16,some 17,some 18,some 19,some 20,some 21,some 22,some 23]
    [[],[0],[1],[2],[],[3,4],[5],[6],[7,6],[8,6],[9,6],[10,6],[6],[12,6],[13,6],[14,6],[15,6],[11,16,6],[6,17]]
    [[],[0],[0,1],[0,1,2],[],[0,1,2,3,4],[0,1,2,3,4,5],[0,1,2,3,4,5,6],[0,1,2,3,4,5,6,7],[0,1,2,3,4,5,6,7,8],[0,1,2,3,4,5,6,7,8,9],[0,1,2,3,4,5,6,7,8,9,10],[0,1,2,3,4,5,6],[0,1,2,3,4,5,6,12],[0,1,2,3,4,5,6,12,13],[0,1,2,3,4,5,6,12,13,14],[0,1,2,3,4,5,6,12,13,14,15],[0,1,2,3,4,5,6,7,8,9,10,11,12,13,14,15,16],[0,1,2,3,4,5,6,7,8,9,10,11,12,13,14,15,16,17]]
    [[],[],[],[],[],[],[],[],[],[],[],[],[],[],[],[],[],[],[]] [[],[],[],[],[],[],[],[],[],[],[],[],[],[],[],[],[],[],[]] [(0,.pointer (some ⟨g,0,none⟩)),(1,.int .i64 at_)]
    (by kernel_rfl) rfl (by decide) (by rfl) (by decide +kernel) rfl rfl (by simp) (R) ?hstep ?hend
   case hstep =>
    refine⟨?p0,⟨?p1,⟨?p2,⟨?p3,⟨?p4,⟨?p5,⟨?p6,⟨?p7,⟨?p8,⟨?p9,⟨?p10,⟨?p11,⟨?p12,⟨?p13,⟨?p14,⟨?p15,⟨?p16,⟨?p17,⟨?p18,trivial⟩⟩⟩⟩⟩⟩⟩⟩⟩⟩⟩⟩⟩⟩⟩⟩⟩⟩⟩
    case p0 | p1 | p2 | p4 | p5 | p6 | p18 =>
     intro x wx A f h i b o H K hK;replace hK:=hid hK;clear b o h;repeat (obtain⟨_,i⟩:=i)
     refine so ?_;go_step;exact hK.out _ _ rfl H
    case p3 =>
     intro x wx A f h i b o H K a;have e7:=tq b 2;have hK:=hid a;clear a i b h;have C:wx.cell? ⟨g,3,none⟩=some (.int .i64 j):=o (fun w=>w.cell? ⟨g,3,none⟩=some (.int .i64 j)) (fun _ _ H=>H.cell 0 rfl 3) _ _ H;refine so ?_;go_step;exact hK.out _ _ rfl H
    case p7 =>
     intro x wx A f h i b o H K a;have X:A.tmps[0]?.getD undef=.pointer (some ⟨g,0,none⟩):=Zc i (0,_) (by simp) (by rfl);have p:=(b 6 (by decide)).1;have hK:=hid a;clear a i b o h;exact sgF p (hK.out _ _ rfl H)
    case p8 =>
     intro x wx A f h i b o H K a;have Y:=tq b 7;have p:=(b 6 (by decide)).1;have hK:=hid a;clear a i b o h;exact sgF p (hK.out _ _ rfl H)
    case p9 =>
     intro x wx A f h i b o H K a;have Z:=tq b 8;have p:=(b 6 (by decide)).1;have hK:=hid a;clear a i b o h;exact sgF p (hK.out _ _ rfl H)
    case p10 =>
     intro x wx A f h i b o H K a;have a0:=tq b 9;have p:=(b 6 (by decide)).1;have hK:=hid a;clear a i b h;exact sgF p (hK.out _ _ rfl H)
    case p11 =>
     intro x wx A f h i b o H K a;have a1:=tq b 10;have p:=(b 6 (by decide)).1;have hK:=hid a;clear a i b o h;exact sgF p (hK.out _ _ rfl H)
    case p12 =>
     intro x wx A f h i b o H K a;have X:A.tmps[0]?.getD undef=.pointer (some ⟨g,0,none⟩):=Zc i (0,_) (by simp) (by rfl);have p:=(b 6 (by decide)).1;have hK:=hid a;clear a i b o h;exact sgF p (hK.out _ _ rfl H)
    case p13 =>
     intro x wx A f h i b o H K a;have a2:=tq b 12;have p:=(b 6 (by decide)).1;have hK:=hid a;clear a i b o h;exact sgF p (hK.out _ _ rfl H)
    case p14 =>
     intro x wx A f h i b o H K a;have a3:=tq b 13;have p:=(b 6 (by decide)).1;have hK:=hid a;clear a i b o h;exact sgF p (hK.out _ _ rfl H)
    case p15 =>
     intro x wx A f h i b o H K a;have a4:=tq b 14;have p:=(b 6 (by decide)).1;have hK:=hid a;clear a i b h;exact sgF p (hK.out _ _ rfl H)
    case p16 =>
     intro x wx A f h i b o H K a;have a5:=tq b 15;have p:=(b 6 (by decide)).1;have hK:=hid a;clear a i b o h;exact sgF p (hK.out _ _ rfl H)
    case p17 =>
     intro x wx A f h i b o H K a;have a6:=tq b 11;have a7:=tq b 16;have p:=(b 6 (by decide)).1;have hK:=hid a;clear a i b o h;exact sgF p (hK.out _ _ rfl H)
   case hend =>
    intro x wx A z b H;replace H:Sp w0 (_::_::_::L) wx:=H;have y:x 18=.bool false:=b 18 (by decide);clear b;simp only [putAll,Act.put,List.setIfInBounds_toArray,List.set_cons_succ,List.set_cons_zero,Nat.reduceAdd] at z;subst z;rw [y];clear y;go_wp2;go_end0;rw [show max n (min at_ (l - 2))=j by omega];exact⟨rfl,Z9 E H⟩
end Go.Proofs.YtnjpnmpemhldcaaGreatDoor

