/- A pack. -/
import Derived.Test.YteajimobgkempaaGreatDoorPk20
set_option linter.all false
set_option maxRecDepth 100000
set_option maxHeartbeats 8000000
namespace Go.Proofs.YteajimobgkempaaGreatDoor
variable {w0 w:World} {L:List Pr}
open Go.RowKit
def FdB (g:Nat) (bv:Value) (d:Int) (mb n:Nat):Pr:=Bk g 203 [bv,.int .i64 d,.map (some mb),.int .i64 n]
theorem Tn (g p q n:Nat) (A0:Option Addr) (c:Nat) (B:List UInt8) (H:Sp w0 L w) (hn:n=B.length) (hc0:Ent L (fun w=>w.cell? ⟨g,0,none⟩=some (.slice A0 n c))) (hb:Ent L (fun w=>Byt w (.slice A0 n c) B)) (hpq:p<q) (hq:q<=1000000000) (hl:n<=1000000000) :
  Calls Tryz.prog 130 #[.pointer (some ⟨g,0,none⟩),.int .i64 p,.int .i64 q] w fun e w'=>e=.returned (.int .i64 (PM.mlen B p q:Nat))/\Sp w0 L w':=by
 have HN:=hid hn;have u:=hid hc0;have HB:=hid hb;clear hn hc0 hb;go_enter Tryz.func130,Tryz.ntmps130
 go_wp2;go_loopw [7] (fun i wr=>∃j:Nat,i=.int .i64 j/\j<=258/\(∀i,i<j->q+i<B.length/\B.getD (p+i) 0=B.getD (q+i) 0)/\Sp w0 L wr) (fun i _=>258 - (intOf i).toNat)
 case atStart=>exact⟨0,rfl,by omega,fun i h=>absurd h (Nat.not_lt_zero _),H⟩
 case round =>
  obtain⟨j,rfl,hj,hs,H⟩:=hrel;have HS:=hid hs;clear hs;by_cases c5:j<258
  ·have k1:(j:Int)<258:=by omega
   obtain⟨v,M⟩:=exq (p+j);obtain⟨qj,N⟩:=exq (q+j);have y1:(q:Int)+(j:Int)=(qj:Int):=by omega
   have y2:(p:Int)+(j:Int)=(v:Int):=by omega
   have y3:v<qj:=by omega
   have y4:qj<=1000001000:=by omega
   have c2:=hid M;have G:=hid N;clear M N;by_cases O:qj<n
   ·have k2:(qj:Int)<n:=by omega
    have k3:(v:Int)<n:=by omega
    have y:qj<B.length:=by rw [<- HN.out]; exact O
    have P:v<B.length:=by omega
    obtain⟨ad,rfl⟩:∃ad,A0=some ad:=by
     obtain⟨_,_,e,hr,_,_⟩:=HB.out _ _ H;obtain⟨ad,t,_⟩:=hr.at8 y;injection e with e
     exact⟨ad,e.trans t⟩
    have s:∀i (h:i<B.length),Ent L (fun w=>w.cell? (ad.add i)=some (.int .u8 ((B[i]).toNat:Int))):=fun i h=>HB.out.mono fun w' hw=>by
     obtain⟨_,_,e,hr,_,_⟩:=hw;obtain⟨c6,t,hc⟩:=hr.at8 h;injection e with e
     rw [<- e] at t;injection t with t
     rw [t]; exact hc
    have X1:=hid (s v P);have X2:=hid (s qj y);clear s;obtain⟨Q,I⟩:=exq ((B[v]).toNat);obtain⟨yb,J⟩:=exq ((B[qj]).toNat);have R:B.getD (p+j) 0=B.getD (q+j) 0↔Q=yb:=by
     rw [c2.out,G.out,List.getD_eq_getElem?_getD,List.getD_eq_getElem?_getD,List.getElem?_eq_getElem P,List.getElem?_eq_getElem y,<- I,<- J];exact UInt8.toNat_inj.symm
    rw [I] at X1;rw [J] at X2;have S:=hid R;obtain⟨be,T⟩:=exq (((Q:Int) == (yb:Int)));have z:be=true↔Q=yb:=by rw [<- T,beq_iff_eq]; omega
    have C:=hid z;clear I J R z;go_wp2_with fail
    refine Zb (L:=L) [some (.int .i64 j),some (.bool true),some (.bool true),some (.int .i64 q),some (.int .i64 j),some (.int .i64 qj),some (.pointer (some ⟨g,0,none⟩)),some (.pointer (some ⟨g,0,none⟩)),some (.pointer (some ⟨g,0,none⟩)),some (.slice (some ad) n c),some (.int .i64 n),some (.bool true),some (.bool true),some (.bool true),some (.pointer (some ⟨g,0,none⟩)),some (.pointer (some ⟨g,0,none⟩)),some (.pointer (some ⟨g,0,none⟩)),some (.slice (some ad) n c),some (.int .i64 p),some (.int .i64 j),some (.int .i64 v),some (.pointer (some (ad.add v))),some (.int .u8 Q),some (.pointer (some ⟨g,0,none⟩)),some (.pointer (some ⟨g,0,none⟩)),some (.pointer (some ⟨g,0,none⟩)),some (.slice (some ad) n c),some (.int .i64 q),some (.int .i64 j),some (.int .i64 qj),some (.pointer (some (ad.add qj))),some (.int .u8 yb),some (.bool be),some (.bool be)] (fun _ _=>True) (fun _ _=>[]) (fun _=>[]) 34 45
     [some 8,some 9,some 10,some 11,some 12,some 13,some 14,some 15,some 16,some 17,some 18,some 19,some 20,some 21,some 22,some 23,some 24,some 25,some 26,some 27,some 28,some 29,some 30,some 31,some 32,some 33,some 34,some 35,some 36,some 37,some 38,some 39,some 40,some 41]
     [[],[0],[1],[2],[2],[3,4,2],[2],[6,2],[7,2],[8,2],[9,2],[5,10,2],[2,11],[12,2],[13],[14,13],[15,13],[16,13],[13],[13],[18,19,13],[17,20,13],[21,13],[13],[23,13],[24,13],[25,13],[13],[13],[27,28,13],[26,29,13],[30,13],[22,31,13],[13,32]]
     [[],[0],[0,1],[0,1,2],[0,1,2],[0,1,2,3,4],[0,1,2],[0,1,2,6],[0,1,2,6,7],[0,1,2,6,7,8],[0,1,2,6,7,8,9],[0,1,2,3,4,5,6,7,8,9,10],[0,1,2,3,4,5,6,7,8,9,10,11],[0,1,2,3,4,5,6,7,8,9,10,11,12],[0,1,2,3,4,5,6,7,8,9,10,11,12,13],[0,1,2,3,4,5,6,7,8,9,10,11,12,13,14],[0,1,2,3,4,5,6,7,8,9,10,11,12,13,14,15],[0,1,2,3,4,5,6,7,8,9,10,11,12,13,14,15,16],[0,1,2,3,4,5,6,7,8,9,10,11,12,13],[0,1,2,3,4,5,6,7,8,9,10,11,12,13],[0,1,2,3,4,5,6,7,8,9,10,11,12,13,18,19],[0,1,2,3,4,5,6,7,8,9,10,11,12,13,14,15,16,17,18,19,20],[0,1,2,3,4,5,6,7,8,9,10,11,12,13,14,15,16,17,18,19,20,21],[0,1,2,3,4,5,6,7,8,9,10,11,12,13],[0,1,2,3,4,5,6,7,8,9,10,11,12,13,23],[0,1,2,3,4,5,6,7,8,9,10,11,12,13,23,24],[0,1,2,3,4,5,6,7,8,9,10,11,12,13,23,24,25],[0,1,2,3,4,5,6,7,8,9,10,11,12,13],[0,1,2,3,4,5,6,7,8,9,10,11,12,13],[0,1,2,3,4,5,6,7,8,9,10,11,12,13,27,28],[0,1,2,3,4,5,6,7,8,9,10,11,12,13,23,24,25,26,27,28,29],[0,1,2,3,4,5,6,7,8,9,10,11,12,13,23,24,25,26,27,28,29,30],[0,1,2,3,4,5,6,7,8,9,10,11,12,13,14,15,16,17,18,19,20,21,22,23,24,25,26,27,28,29,30,31],[0,1,2,3,4,5,6,7,8,9,10,11,12,13,14,15,16,17,18,19,20,21,22,23,24,25,26,27,28,29,30,31,32]]
     [[],[],[],[],[],[],[],[],[],[],[],[],[],[],[],[],[],[],[],[],[],[],[],[],[],[],[],[],[],[],[],[],[],[]] [[],[],[],[],[],[],[],[],[],[],[],[],[],[],[],[],[],[],[],[],[],[],[],[],[],[],[],[],[],[],[],[],[],[]] [(0,.pointer (some ⟨g,0,none⟩)),(1,.int .i64 p),(2,.int .i64 q),(7,.int .i64 j)]
     (by kernel_rfl) rfl (by decide) (by rfl) (by decide +kernel) rfl rfl (by simp) (H) ?hstep ?hend
    case hstep =>
     refine⟨?p0,⟨?p1,⟨?p2,⟨?p3,⟨?p4,⟨?p5,⟨?p6,⟨?p7,⟨?p8,⟨?p9,⟨?p10,⟨?p11,⟨?p12,⟨?p13,⟨?p14,⟨?p15,⟨?p16,⟨?p17,⟨?p18,⟨?p19,⟨?p20,⟨?p21,⟨?p22,⟨?p23,⟨?p24,⟨?p25,⟨?p26,⟨?p27,⟨?p28,⟨?p29,⟨?p30,⟨?p31,⟨?p32,⟨?p33,trivial⟩⟩⟩⟩⟩⟩⟩⟩⟩⟩⟩⟩⟩⟩⟩⟩⟩⟩⟩⟩⟩⟩⟩⟩⟩⟩⟩⟩⟩⟩⟩⟩⟩⟩
     case p0 | p1 | p2 | p12 | p13 | p33 =>
      intro x wx A f b k d o H K l;replace l:=hid l;clear d o b;repeat (obtain⟨_,k⟩:=k)
      refine so ?_;go_step;exact l.out _ _ rfl H
     case p3 =>
      intro x wx A f b k d o H K a;have t:A.tmps[2]?.getD undef=.int .i64 q:=Za k (2,_) (by simp) (by rfl);have m:=(d 2 (by decide)).1;have l:=hid a;clear a k d o b;refine sgT m ?_;go_step;exact l.out _ _ rfl H
     case p4 =>
      intro x wx A f b k d o H K a;have D:A.tmps[7]?.getD undef=.int .i64 j:=Za k (7,_) (by simp) (by rfl);have m:=(d 2 (by decide)).1;have l:=hid a;clear a k d o b;refine sgT m ?_;go_step;exact l.out _ _ rfl H
     case p5 =>
      intro x wx A f b k d o H K a;have U:=tq d 3;have V:=tq d 4;have m:=(d 2 (by decide)).1;have l:=hid a;clear a k d o b;refine sgT m ?_;go_step;exact l.out _ _ rfl H
     case p6 =>
      intro x wx A f b k d o H K a;have E:A.tmps[0]?.getD undef=.pointer (some ⟨g,0,none⟩):=Za k (0,_) (by simp) (by rfl);have m:=(d 2 (by decide)).1;have l:=hid a;clear a k d o b;refine sgT m ?_;go_step;exact l.out _ _ rfl H
     case p7 =>
      intro x wx A f b k d o H K a;have W:=tq d 6;have m:=(d 2 (by decide)).1;have l:=hid a;clear a k d o b;refine sgT m ?_;go_step;exact l.out _ _ rfl H
     case p8 =>
      intro x wx A f b k d o H K a;have X:=tq d 7;have m:=(d 2 (by decide)).1;have l:=hid a;clear a k d o b;refine sgT m ?_;go_step;exact l.out _ _ rfl H
     case p9 =>
      intro x wx A f b k d o H K a;have Y:=tq d 8;have m:=(d 2 (by decide)).1;have l:=hid a;clear a k d b;have c0:wx.cell? ⟨g,0,none⟩=some (.slice (some ad) n c):=o _ u.out _ _ H;refine sgT m ?_;go_step;exact l.out _ _ rfl H
     case p10 =>
      intro x wx A f b k d o H K a;have Z:=tq d 9;have m:=(d 2 (by decide)).1;have l:=hid a;clear a k d o b;refine sgT m ?_;go_step;exact l.out _ _ rfl H
     case p11 =>
      intro x wx A f b k d o H K a;have a0:=tq d 5;have a1:=tq d 10;have m:=(d 2 (by decide)).1;have l:=hid a;clear a k d o b;refine sgT m ?_;go_step;exact l.out _ _ rfl H
     case p14 =>
      intro x wx A f b k d o H K a;have E:A.tmps[0]?.getD undef=.pointer (some ⟨g,0,none⟩):=Za k (0,_) (by simp) (by rfl);have m:=(d 13 (by decide)).1;have l:=hid a;clear a k d o b;refine sgT m ?_;go_step;exact l.out _ _ rfl H
     case p15 =>
      intro x wx A f b k d o H K a;have a2:=tq d 14;have m:=(d 13 (by decide)).1;have l:=hid a;clear a k d o b;refine sgT m ?_;go_step;exact l.out _ _ rfl H
     case p16 =>
      intro x wx A f b k d o H K a;have a3:=tq d 15;have m:=(d 13 (by decide)).1;have l:=hid a;clear a k d o b;refine sgT m ?_;go_step;exact l.out _ _ rfl H
     case p17 =>
      intro x wx A f b k d o H K a;have a4:=tq d 16;have m:=(d 13 (by decide)).1;have l:=hid a;clear a k d b;have c0:wx.cell? ⟨g,0,none⟩=some (.slice (some ad) n c):=o _ u.out _ _ H;refine sgT m ?_;go_step;exact l.out _ _ rfl H
     case p18 =>
      intro x wx A f b k d o H K a;have e1:A.tmps[1]?.getD undef=.int .i64 p:=Za k (1,_) (by simp) (by rfl);have m:=(d 13 (by decide)).1;have l:=hid a;clear a k d o b;refine sgT m ?_;go_step;exact l.out _ _ rfl H
     case p19 =>
      intro x wx A f b k d o H K a;have D:A.tmps[7]?.getD undef=.int .i64 j:=Za k (7,_) (by simp) (by rfl);have m:=(d 13 (by decide)).1;have l:=hid a;clear a k d o b;refine sgT m ?_;go_step;exact l.out _ _ rfl H
     case p20 =>
      intro x wx A f b k d o H K a;have a5:=tq d 18;have a6:=tq d 19;have m:=(d 13 (by decide)).1;have l:=hid a;clear a k d o b;refine sgT m ?_;go_step;exact l.out _ _ rfl H
     case p21 =>
      intro x wx A f b k d o H K a;have a7:=tq d 17;have a8:=tq d 20;have m:=(d 13 (by decide)).1;have l:=hid a;clear a k d o b;refine sgT m ?_;go_step;exact l.out _ _ rfl H
     case p22 =>
      intro x wx A f b k d o H K a;have a9:=tq d 21;have m:=(d 13 (by decide)).1;have l:=hid a;clear a k d b;have c1:wx.cell? (ad.add v)=some (.int .u8 Q):=o _ X1.out _ _ H;refine sgT m ?_;go_step;exact l.out _ _ rfl H
     case p23 =>
      intro x wx A f b k d o H K a;have E:A.tmps[0]?.getD undef=.pointer (some ⟨g,0,none⟩):=Za k (0,_) (by simp) (by rfl);have m:=(d 13 (by decide)).1;have l:=hid a;clear a k d o b;refine sgT m ?_;go_step;exact l.out _ _ rfl H
     case p24 =>
      intro x wx A f b k d o H K a;have b0:=tq d 23;have m:=(d 13 (by decide)).1;have l:=hid a;clear a k d o b;refine sgT m ?_;go_step;exact l.out _ _ rfl H
     case p25 =>
      intro x wx A f b k d o H K a;have b1:=tq d 24;have m:=(d 13 (by decide)).1;have l:=hid a;clear a k d o b;refine sgT m ?_;go_step;exact l.out _ _ rfl H
     case p26 =>
      intro x wx A f b k d o H K a;have b2:=tq d 25;have m:=(d 13 (by decide)).1;have l:=hid a;clear a k d b;have c0:wx.cell? ⟨g,0,none⟩=some (.slice (some ad) n c):=o _ u.out _ _ H;refine sgT m ?_;go_step;exact l.out _ _ rfl H
     case p27 =>
      intro x wx A f b k d o H K a;have t:A.tmps[2]?.getD undef=.int .i64 q:=Za k (2,_) (by simp) (by rfl);have m:=(d 13 (by decide)).1;have l:=hid a;clear a k d o b;refine sgT m ?_;go_step;exact l.out _ _ rfl H
     case p28 =>
      intro x wx A f b k d o H K a;have D:A.tmps[7]?.getD undef=.int .i64 j:=Za k (7,_) (by simp) (by rfl);have m:=(d 13 (by decide)).1;have l:=hid a;clear a k d o b;refine sgT m ?_;go_step;exact l.out _ _ rfl H
     case p29 =>
      intro x wx A f b k d o H K a;have b3:=tq d 27;have b4:=tq d 28;have m:=(d 13 (by decide)).1;have l:=hid a;clear a k d o b;refine sgT m ?_;go_step;exact l.out _ _ rfl H
     case p30 =>
      intro x wx A f b k d o H K a;have b5:=tq d 26;have b6:=tq d 29;have m:=(d 13 (by decide)).1;have l:=hid a;clear a k d o b;refine sgT m ?_;go_step;exact l.out _ _ rfl H
     case p31 =>
      intro x wx A f b k d o H K a;have b7:=tq d 30;have m:=(d 13 (by decide)).1;have l:=hid a;clear a k d b;have c1:wx.cell? (ad.add qj)=some (.int .u8 yb):=o _ X2.out _ _ H;refine sgT m ?_;go_step;exact l.out _ _ rfl H
     case p32 =>
      intro x wx A f b k d o H K a;have b8:=tq d 22;have b9:=tq d 31;have m:=(d 13 (by decide)).1;have l:=hid a;clear a k d o b;refine sgT m ?_;go_step;exact l.out _ _ rfl H
    case hend =>
     intro x wx A F d H;replace H:Sp w0 (L) wx:=H;have r:x 33=.bool be:=d 33 (by decide);clear d;simp only [putAll,Act.put,List.setIfInBounds_toArray,List.set_cons_succ,List.set_cons_zero,Nat.reduceAdd] at F;subst F;cases hbv:be
     ·rw [hbv] at r;rw [r];clear r;go_wp2;go_ret;refine⟨?_,H⟩;have c3:¬ B.getD (p+j) 0=B.getD (q+j) 0:=fun h=>by
       have:=C.out.2 (S.out.1 h);rw [hbv] at this;cases this
      rw [PM.mlen_of B p q j hj HS.out (.inr fun h=>c3 h.2)];rfl
     ·rw [hbv] at r;rw [r];clear r;go_wp2;go_roundw
      case rel =>
       refine⟨j+1,by go_num,by omega,fun i hi=>?_,H⟩;by_cases c4:i=j
       ·subst c4;exact⟨by rw [G.out]; exact y,S.out.2 (C.out.1 hbv)⟩
       ·exact HS.out i (by omega)
      case measure=>simp [intOf]; omega
   ·have k2:¬ (qj:Int)<n:=by omega
    go_wp2_with fail
    refine Zb (L:=L) [some (.int .i64 j),some (.bool true),some (.bool true),some (.int .i64 q),some (.int .i64 j),some (.int .i64 qj),some (.pointer (some ⟨g,0,none⟩)),some (.pointer (some ⟨g,0,none⟩)),some (.pointer (some ⟨g,0,none⟩)),some (.slice A0 n c),some (.int .i64 n),some (.bool false),some (.bool false),some (.bool false),some (undef),some (undef),some (undef),some (undef),some (undef),some (undef),some (undef),some (undef),some (undef),some (undef),some (undef),some (undef),some (undef),some (undef),some (undef),some (undef),some (undef),some (undef),some (undef),some (.bool false)] (fun _ _=>True) (fun _ _=>[]) (fun _=>[]) 34 45
     [some 8,some 9,some 10,some 11,some 12,some 13,some 14,some 15,some 16,some 17,some 18,some 19,some 20,some 21,some 22,some 23,some 24,some 25,some 26,some 27,some 28,some 29,some 30,some 31,some 32,some 33,some 34,some 35,some 36,some 37,some 38,some 39,some 40,some 41]
     [[],[0],[1],[2],[2],[3,4,2],[2],[6,2],[7,2],[8,2],[9,2],[5,10,2],[2,11],[12,2],[13],[14,13],[15,13],[16,13],[13],[13],[18,19,13],[17,20,13],[21,13],[13],[23,13],[24,13],[25,13],[13],[13],[27,28,13],[26,29,13],[30,13],[22,31,13],[13,32]]
     [[],[0],[0,1],[0,1,2],[0,1,2],[0,1,2,3,4],[0,1,2],[0,1,2,6],[0,1,2,6,7],[0,1,2,6,7,8],[0,1,2,6,7,8,9],[0,1,2,3,4,5,6,7,8,9,10],[0,1,2,3,4,5,6,7,8,9,10,11],[0,1,2,3,4,5,6,7,8,9,10,11,12],[0,1,2,3,4,5,6,7,8,9,10,11,12,13],[0,1,2,3,4,5,6,7,8,9,10,11,12,13,14],[0,1,2,3,4,5,6,7,8,9,10,11,12,13,14,15],[0,1,2,3,4,5,6,7,8,9,10,11,12,13,14,15,16],[0,1,2,3,4,5,6,7,8,9,10,11,12,13],[0,1,2,3,4,5,6,7,8,9,10,11,12,13],[0,1,2,3,4,5,6,7,8,9,10,11,12,13,18,19],[0,1,2,3,4,5,6,7,8,9,10,11,12,13,14,15,16,17,18,19,20],[0,1,2,3,4,5,6,7,8,9,10,11,12,13,14,15,16,17,18,19,20,21],[0,1,2,3,4,5,6,7,8,9,10,11,12,13],[0,1,2,3,4,5,6,7,8,9,10,11,12,13,23],[0,1,2,3,4,5,6,7,8,9,10,11,12,13,23,24],[0,1,2,3,4,5,6,7,8,9,10,11,12,13,23,24,25],[0,1,2,3,4,5,6,7,8,9,10,11,12,13],[0,1,2,3,4,5,6,7,8,9,10,11,12,13],[0,1,2,3,4,5,6,7,8,9,10,11,12,13,27,28],[0,1,2,3,4,5,6,7,8,9,10,11,12,13,23,24,25,26,27,28,29],[0,1,2,3,4,5,6,7,8,9,10,11,12,13,23,24,25,26,27,28,29,30],[0,1,2,3,4,5,6,7,8,9,10,11,12,13,14,15,16,17,18,19,20,21,22,23,24,25,26,27,28,29,30,31],[0,1,2,3,4,5,6,7,8,9,10,11,12,13,14,15,16,17,18,19,20,21,22,23,24,25,26,27,28,29,30,31,32]]
     [[],[],[],[],[],[],[],[],[],[],[],[],[],[],[],[],[],[],[],[],[],[],[],[],[],[],[],[],[],[],[],[],[],[]] [[],[],[],[],[],[],[],[],[],[],[],[],[],[],[],[],[],[],[],[],[],[],[],[],[],[],[],[],[],[],[],[],[],[]] [(0,.pointer (some ⟨g,0,none⟩)),(1,.int .i64 p),(2,.int .i64 q),(7,.int .i64 j)]
     (by kernel_rfl) rfl (by decide) (by rfl) (by decide +kernel) rfl rfl (by simp) (H) ?hstep ?hend
    case hstep =>
     refine⟨?p0,⟨?p1,⟨?p2,⟨?p3,⟨?p4,⟨?p5,⟨?p6,⟨?p7,⟨?p8,⟨?p9,⟨?p10,⟨?p11,⟨?p12,⟨?p13,⟨?p14,⟨?p15,⟨?p16,⟨?p17,⟨?p18,⟨?p19,⟨?p20,⟨?p21,⟨?p22,⟨?p23,⟨?p24,⟨?p25,⟨?p26,⟨?p27,⟨?p28,⟨?p29,⟨?p30,⟨?p31,⟨?p32,⟨?p33,trivial⟩⟩⟩⟩⟩⟩⟩⟩⟩⟩⟩⟩⟩⟩⟩⟩⟩⟩⟩⟩⟩⟩⟩⟩⟩⟩⟩⟩⟩⟩⟩⟩⟩⟩
     case p0 | p1 | p2 | p12 | p13 | p33 =>
      intro x wx A f b k d o H K l;replace l:=hid l;clear d o b;repeat (obtain⟨_,k⟩:=k)
      refine so ?_;go_step;exact l.out _ _ rfl H
     case p3 =>
      intro x wx A f b k d o H K a;have t:A.tmps[2]?.getD undef=.int .i64 q:=Za k (2,_) (by simp) (by rfl);have m:=(d 2 (by decide)).1;have l:=hid a;clear a k d o b;refine sgT m ?_;go_step;exact l.out _ _ rfl H
     case p4 =>
      intro x wx A f b k d o H K a;have D:A.tmps[7]?.getD undef=.int .i64 j:=Za k (7,_) (by simp) (by rfl);have m:=(d 2 (by decide)).1;have l:=hid a;clear a k d o b;refine sgT m ?_;go_step;exact l.out _ _ rfl H
     case p5 =>
      intro x wx A f b k d o H K a;have U:=tq d 3;have V:=tq d 4;have m:=(d 2 (by decide)).1;have l:=hid a;clear a k d o b;refine sgT m ?_;go_step;exact l.out _ _ rfl H
     case p6 =>
      intro x wx A f b k d o H K a;have E:A.tmps[0]?.getD undef=.pointer (some ⟨g,0,none⟩):=Za k (0,_) (by simp) (by rfl);have m:=(d 2 (by decide)).1;have l:=hid a;clear a k d o b;refine sgT m ?_;go_step;exact l.out _ _ rfl H
     case p7 =>
      intro x wx A f b k d o H K a;have W:=tq d 6;have m:=(d 2 (by decide)).1;have l:=hid a;clear a k d o b;refine sgT m ?_;go_step;exact l.out _ _ rfl H
     case p8 =>
      intro x wx A f b k d o H K a;have X:=tq d 7;have m:=(d 2 (by decide)).1;have l:=hid a;clear a k d o b;refine sgT m ?_;go_step;exact l.out _ _ rfl H
     case p9 =>
      intro x wx A f b k d o H K a;have Y:=tq d 8;have m:=(d 2 (by decide)).1;have l:=hid a;clear a k d b;have c0:wx.cell? ⟨g,0,none⟩=some (.slice A0 n c):=o _ u.out _ _ H;refine sgT m ?_;go_step;exact l.out _ _ rfl H
     case p10 =>
      intro x wx A f b k d o H K a;have Z:=tq d 9;have m:=(d 2 (by decide)).1;have l:=hid a;clear a k d o b;refine sgT m ?_;go_step;exact l.out _ _ rfl H
     case p11 =>
      intro x wx A f b k d o H K a;have a0:=tq d 5;have a1:=tq d 10;have m:=(d 2 (by decide)).1;have l:=hid a;clear a k d o b;refine sgT m ?_;go_step;exact l.out _ _ rfl H
     case p14 =>
      intro x wx A f b k d o H K a;have E:A.tmps[0]?.getD undef=.pointer (some ⟨g,0,none⟩):=Za k (0,_) (by simp) (by rfl);have m:=(d 13 (by decide)).1;have l:=hid a;clear a k d o b;exact sgF m (l.out _ _ rfl H)
     case p15 =>
      intro x wx A f b k d o H K a;have a2:=tq d 14;have m:=(d 13 (by decide)).1;have l:=hid a;clear a k d o b;exact sgF m (l.out _ _ rfl H)
     case p16 =>
      intro x wx A f b k d o H K a;have a3:=tq d 15;have m:=(d 13 (by decide)).1;have l:=hid a;clear a k d o b;exact sgF m (l.out _ _ rfl H)
     case p17 =>
      intro x wx A f b k d o H K a;have a4:=tq d 16;have m:=(d 13 (by decide)).1;have l:=hid a;clear a k d b;exact sgF m (l.out _ _ rfl H)
     case p18 =>
      intro x wx A f b k d o H K a;have e1:A.tmps[1]?.getD undef=.int .i64 p:=Za k (1,_) (by simp) (by rfl);have m:=(d 13 (by decide)).1;have l:=hid a;clear a k d o b;exact sgF m (l.out _ _ rfl H)
     case p19 =>
      intro x wx A f b k d o H K a;have D:A.tmps[7]?.getD undef=.int .i64 j:=Za k (7,_) (by simp) (by rfl);have m:=(d 13 (by decide)).1;have l:=hid a;clear a k d o b;exact sgF m (l.out _ _ rfl H)
     case p20 =>
      intro x wx A f b k d o H K a;have a5:=tq d 18;have a6:=tq d 19;have m:=(d 13 (by decide)).1;have l:=hid a;clear a k d o b;exact sgF m (l.out _ _ rfl H)
     case p21 =>
      intro x wx A f b k d o H K a;have a7:=tq d 17;have a8:=tq d 20;have m:=(d 13 (by decide)).1;have l:=hid a;clear a k d o b;exact sgF m (l.out _ _ rfl H)
     case p22 =>
      intro x wx A f b k d o H K a;have a9:=tq d 21;have m:=(d 13 (by decide)).1;have l:=hid a;clear a k d b;exact sgF m (l.out _ _ rfl H)
     case p23 =>
      intro x wx A f b k d o H K a;have E:A.tmps[0]?.getD undef=.pointer (some ⟨g,0,none⟩):=Za k (0,_) (by simp) (by rfl);have m:=(d 13 (by decide)).1;have l:=hid a;clear a k d o b;exact sgF m (l.out _ _ rfl H)
     case p24 =>
      intro x wx A f b k d o H K a;have b0:=tq d 23;have m:=(d 13 (by decide)).1;have l:=hid a;clear a k d o b;exact sgF m (l.out _ _ rfl H)
     case p25 =>
      intro x wx A f b k d o H K a;have b1:=tq d 24;have m:=(d 13 (by decide)).1;have l:=hid a;clear a k d o b;exact sgF m (l.out _ _ rfl H)
     case p26 =>
      intro x wx A f b k d o H K a;have b2:=tq d 25;have m:=(d 13 (by decide)).1;have l:=hid a;clear a k d b;exact sgF m (l.out _ _ rfl H)
     case p27 =>
      intro x wx A f b k d o H K a;have t:A.tmps[2]?.getD undef=.int .i64 q:=Za k (2,_) (by simp) (by rfl);have m:=(d 13 (by decide)).1;have l:=hid a;clear a k d o b;exact sgF m (l.out _ _ rfl H)
     case p28 =>
      intro x wx A f b k d o H K a;have D:A.tmps[7]?.getD undef=.int .i64 j:=Za k (7,_) (by simp) (by rfl);have m:=(d 13 (by decide)).1;have l:=hid a;clear a k d o b;exact sgF m (l.out _ _ rfl H)
     case p29 =>
      intro x wx A f b k d o H K a;have b3:=tq d 27;have b4:=tq d 28;have m:=(d 13 (by decide)).1;have l:=hid a;clear a k d o b;exact sgF m (l.out _ _ rfl H)
     case p30 =>
      intro x wx A f b k d o H K a;have b5:=tq d 26;have b6:=tq d 29;have m:=(d 13 (by decide)).1;have l:=hid a;clear a k d o b;exact sgF m (l.out _ _ rfl H)
     case p31 =>
      intro x wx A f b k d o H K a;have b7:=tq d 30;have m:=(d 13 (by decide)).1;have l:=hid a;clear a k d b;exact sgF m (l.out _ _ rfl H)
     case p32 =>
      intro x wx A f b k d o H K a;have b8:=tq d 22;have b9:=tq d 31;have m:=(d 13 (by decide)).1;have l:=hid a;clear a k d o b;exact sgF m (l.out _ _ rfl H)
    case hend =>
     intro x wx A F d H;replace H:Sp w0 (L) wx:=H;have r:x 33=.bool false:=d 33 (by decide);clear d;simp only [putAll,Act.put,List.setIfInBounds_toArray,List.set_cons_succ,List.set_cons_zero,Nat.reduceAdd] at F;subst F;rw [r];clear r;go_wp2;go_ret;refine⟨?_,H⟩;rw [PM.mlen_of B p q j hj HS.out (.inr fun h=>O (by rw [HN.out,<- G.out]; exact h.1))];rfl
  ·obtain rfl:j=258:=by omega
   go_wp2_with fail
   refine Zb (L:=L) [some (.int .i64 258),some (.bool false),some (.bool false),some (undef),some (undef),some (undef),some (undef),some (undef),some (undef),some (undef),some (undef),some (undef),some (.bool false),some (.bool false),some (undef),some (undef),some (undef),some (undef),some (undef),some (undef),some (undef),some (undef),some (undef),some (undef),some (undef),some (undef),some (undef),some (undef),some (undef),some (undef),some (undef),some (undef),some (undef),some (.bool false)] (fun _ _=>True) (fun _ _=>[]) (fun _=>[]) 34 45
    [some 8,some 9,some 10,some 11,some 12,some 13,some 14,some 15,some 16,some 17,some 18,some 19,some 20,some 21,some 22,some 23,some 24,some 25,some 26,some 27,some 28,some 29,some 30,some 31,some 32,some 33,some 34,some 35,some 36,some 37,some 38,some 39,some 40,some 41]
    [[],[0],[1],[2],[2],[3,4,2],[2],[6,2],[7,2],[8,2],[9,2],[5,10,2],[2,11],[12,2],[13],[14,13],[15,13],[16,13],[13],[13],[18,19,13],[17,20,13],[21,13],[13],[23,13],[24,13],[25,13],[13],[13],[27,28,13],[26,29,13],[30,13],[22,31,13],[13,32]]
    [[],[0],[0,1],[0,1,2],[0,1,2],[0,1,2,3,4],[0,1,2],[0,1,2,6],[0,1,2,6,7],[0,1,2,6,7,8],[0,1,2,6,7,8,9],[0,1,2,3,4,5,6,7,8,9,10],[0,1,2,3,4,5,6,7,8,9,10,11],[0,1,2,3,4,5,6,7,8,9,10,11,12],[0,1,2,3,4,5,6,7,8,9,10,11,12,13],[0,1,2,3,4,5,6,7,8,9,10,11,12,13,14],[0,1,2,3,4,5,6,7,8,9,10,11,12,13,14,15],[0,1,2,3,4,5,6,7,8,9,10,11,12,13,14,15,16],[0,1,2,3,4,5,6,7,8,9,10,11,12,13],[0,1,2,3,4,5,6,7,8,9,10,11,12,13],[0,1,2,3,4,5,6,7,8,9,10,11,12,13,18,19],[0,1,2,3,4,5,6,7,8,9,10,11,12,13,14,15,16,17,18,19,20],[0,1,2,3,4,5,6,7,8,9,10,11,12,13,14,15,16,17,18,19,20,21],[0,1,2,3,4,5,6,7,8,9,10,11,12,13],[0,1,2,3,4,5,6,7,8,9,10,11,12,13,23],[0,1,2,3,4,5,6,7,8,9,10,11,12,13,23,24],[0,1,2,3,4,5,6,7,8,9,10,11,12,13,23,24,25],[0,1,2,3,4,5,6,7,8,9,10,11,12,13],[0,1,2,3,4,5,6,7,8,9,10,11,12,13],[0,1,2,3,4,5,6,7,8,9,10,11,12,13,27,28],[0,1,2,3,4,5,6,7,8,9,10,11,12,13,23,24,25,26,27,28,29],[0,1,2,3,4,5,6,7,8,9,10,11,12,13,23,24,25,26,27,28,29,30],[0,1,2,3,4,5,6,7,8,9,10,11,12,13,14,15,16,17,18,19,20,21,22,23,24,25,26,27,28,29,30,31],[0,1,2,3,4,5,6,7,8,9,10,11,12,13,14,15,16,17,18,19,20,21,22,23,24,25,26,27,28,29,30,31,32]]
    [[],[],[],[],[],[],[],[],[],[],[],[],[],[],[],[],[],[],[],[],[],[],[],[],[],[],[],[],[],[],[],[],[],[]] [[],[],[],[],[],[],[],[],[],[],[],[],[],[],[],[],[],[],[],[],[],[],[],[],[],[],[],[],[],[],[],[],[],[]] [(0,.pointer (some ⟨g,0,none⟩)),(1,.int .i64 p),(2,.int .i64 q),(7,.int .i64 258)]
    (by kernel_rfl) rfl (by decide) (by rfl) (by decide +kernel) rfl rfl (by simp) (H) ?hstep ?hend
   case hstep =>
    refine⟨?p0,⟨?p1,⟨?p2,⟨?p3,⟨?p4,⟨?p5,⟨?p6,⟨?p7,⟨?p8,⟨?p9,⟨?p10,⟨?p11,⟨?p12,⟨?p13,⟨?p14,⟨?p15,⟨?p16,⟨?p17,⟨?p18,⟨?p19,⟨?p20,⟨?p21,⟨?p22,⟨?p23,⟨?p24,⟨?p25,⟨?p26,⟨?p27,⟨?p28,⟨?p29,⟨?p30,⟨?p31,⟨?p32,⟨?p33,trivial⟩⟩⟩⟩⟩⟩⟩⟩⟩⟩⟩⟩⟩⟩⟩⟩⟩⟩⟩⟩⟩⟩⟩⟩⟩⟩⟩⟩⟩⟩⟩⟩⟩⟩
    case p0 | p1 | p2 | p12 | p13 | p33 =>
     intro x wx A f b k d o H K l;replace l:=hid l;clear d o b;repeat (obtain⟨_,k⟩:=k)
     refine so ?_;go_step;exact l.out _ _ rfl H
    case p3 =>
     intro x wx A f b k d o H K a;have t:A.tmps[2]?.getD undef=.int .i64 q:=Za k (2,_) (by simp) (by rfl);have m:=(d 2 (by decide)).1;have l:=hid a;clear a k d o b;exact sgF m (l.out _ _ rfl H)
    case p4 =>
     intro x wx A f b k d o H K a;have D:A.tmps[7]?.getD undef=.int .i64 258:=Za k (7,_) (by simp) (by rfl);have m:=(d 2 (by decide)).1;have l:=hid a;clear a k d o b;exact sgF m (l.out _ _ rfl H)
    case p5 =>
     intro x wx A f b k d o H K a;have U:=tq d 3;have V:=tq d 4;have m:=(d 2 (by decide)).1;have l:=hid a;clear a k d o b;exact sgF m (l.out _ _ rfl H)
    case p6 =>
     intro x wx A f b k d o H K a;have E:A.tmps[0]?.getD undef=.pointer (some ⟨g,0,none⟩):=Za k (0,_) (by simp) (by rfl);have m:=(d 2 (by decide)).1;have l:=hid a;clear a k d o b;exact sgF m (l.out _ _ rfl H)
    case p7 =>
     intro x wx A f b k d o H K a;have W:=tq d 6;have m:=(d 2 (by decide)).1;have l:=hid a;clear a k d o b;exact sgF m (l.out _ _ rfl H)
    case p8 =>
     intro x wx A f b k d o H K a;have X:=tq d 7;have m:=(d 2 (by decide)).1;have l:=hid a;clear a k d o b;exact sgF m (l.out _ _ rfl H)
    case p9 =>
     intro x wx A f b k d o H K a;have Y:=tq d 8;have m:=(d 2 (by decide)).1;have l:=hid a;clear a k d b;exact sgF m (l.out _ _ rfl H)
    case p10 =>
     intro x wx A f b k d o H K a;have Z:=tq d 9;have m:=(d 2 (by decide)).1;have l:=hid a;clear a k d o b;exact sgF m (l.out _ _ rfl H)
    case p11 =>
     intro x wx A f b k d o H K a;have a0:=tq d 5;have a1:=tq d 10;have m:=(d 2 (by decide)).1;have l:=hid a;clear a k d o b;exact sgF m (l.out _ _ rfl H)
    case p14 =>
     intro x wx A f b k d o H K a;have E:A.tmps[0]?.getD undef=.pointer (some ⟨g,0,none⟩):=Za k (0,_) (by simp) (by rfl);have m:=(d 13 (by decide)).1;have l:=hid a;clear a k d o b;exact sgF m (l.out _ _ rfl H)
    case p15 =>
     intro x wx A f b k d o H K a;have a2:=tq d 14;have m:=(d 13 (by decide)).1;have l:=hid a;clear a k d o b;exact sgF m (l.out _ _ rfl H)
    case p16 =>
     intro x wx A f b k d o H K a;have a3:=tq d 15;have m:=(d 13 (by decide)).1;have l:=hid a;clear a k d o b;exact sgF m (l.out _ _ rfl H)
    case p17 =>
     intro x wx A f b k d o H K a;have a4:=tq d 16;have m:=(d 13 (by decide)).1;have l:=hid a;clear a k d b;exact sgF m (l.out _ _ rfl H)
    case p18 =>
     intro x wx A f b k d o H K a;have e1:A.tmps[1]?.getD undef=.int .i64 p:=Za k (1,_) (by simp) (by rfl);have m:=(d 13 (by decide)).1;have l:=hid a;clear a k d o b;exact sgF m (l.out _ _ rfl H)
    case p19 =>
     intro x wx A f b k d o H K a;have D:A.tmps[7]?.getD undef=.int .i64 258:=Za k (7,_) (by simp) (by rfl);have m:=(d 13 (by decide)).1;have l:=hid a;clear a k d o b;exact sgF m (l.out _ _ rfl H)
    case p20 =>
     intro x wx A f b k d o H K a;have a5:=tq d 18;have a6:=tq d 19;have m:=(d 13 (by decide)).1;have l:=hid a;clear a k d o b;exact sgF m (l.out _ _ rfl H)
    case p21 =>
     intro x wx A f b k d o H K a;have a7:=tq d 17;have a8:=tq d 20;have m:=(d 13 (by decide)).1;have l:=hid a;clear a k d o b;exact sgF m (l.out _ _ rfl H)
    case p22 =>
     intro x wx A f b k d o H K a;have a9:=tq d 21;have m:=(d 13 (by decide)).1;have l:=hid a;clear a k d b;exact sgF m (l.out _ _ rfl H)
    case p23 =>
     intro x wx A f b k d o H K a;have E:A.tmps[0]?.getD undef=.pointer (some ⟨g,0,none⟩):=Za k (0,_) (by simp) (by rfl);have m:=(d 13 (by decide)).1;have l:=hid a;clear a k d o b;exact sgF m (l.out _ _ rfl H)
    case p24 =>
     intro x wx A f b k d o H K a;have b0:=tq d 23;have m:=(d 13 (by decide)).1;have l:=hid a;clear a k d o b;exact sgF m (l.out _ _ rfl H)
    case p25 =>
     intro x wx A f b k d o H K a;have b1:=tq d 24;have m:=(d 13 (by decide)).1;have l:=hid a;clear a k d o b;exact sgF m (l.out _ _ rfl H)
    case p26 =>
     intro x wx A f b k d o H K a;have b2:=tq d 25;have m:=(d 13 (by decide)).1;have l:=hid a;clear a k d b;exact sgF m (l.out _ _ rfl H)
    case p27 =>
     intro x wx A f b k d o H K a;have t:A.tmps[2]?.getD undef=.int .i64 q:=Za k (2,_) (by simp) (by rfl);have m:=(d 13 (by decide)).1;have l:=hid a;clear a k d o b;exact sgF m (l.out _ _ rfl H)
    case p28 =>
     intro x wx A f b k d o H K a;have D:A.tmps[7]?.getD undef=.int .i64 258:=Za k (7,_) (by simp) (by rfl);have m:=(d 13 (by decide)).1;have l:=hid a;clear a k d o b;exact sgF m (l.out _ _ rfl H)
    case p29 =>
     intro x wx A f b k d o H K a;have b3:=tq d 27;have b4:=tq d 28;have m:=(d 13 (by decide)).1;have l:=hid a;clear a k d o b;exact sgF m (l.out _ _ rfl H)
    case p30 =>
     intro x wx A f b k d o H K a;have b5:=tq d 26;have b6:=tq d 29;have m:=(d 13 (by decide)).1;have l:=hid a;clear a k d o b;exact sgF m (l.out _ _ rfl H)
    case p31 =>
     intro x wx A f b k d o H K a;have b7:=tq d 30;have m:=(d 13 (by decide)).1;have l:=hid a;clear a k d b;exact sgF m (l.out _ _ rfl H)
    case p32 =>
     intro x wx A f b k d o H K a;have b8:=tq d 22;have b9:=tq d 31;have m:=(d 13 (by decide)).1;have l:=hid a;clear a k d o b;exact sgF m (l.out _ _ rfl H)
   case hend =>
    intro x wx A F d H;replace H:Sp w0 (L) wx:=H;have r:x 33=.bool false:=d 33 (by decide);clear d;simp only [putAll,Act.put,List.setIfInBounds_toArray,List.set_cons_succ,List.set_cons_zero,Nat.reduceAdd] at F;subst F;rw [r];clear r;go_wp2;go_ret;refine⟨?_,H⟩;rw [PM.mlen_of B p q 258 hj HS.out (.inl rfl)];rfl
end Go.Proofs.YteajimobgkempaaGreatDoor

