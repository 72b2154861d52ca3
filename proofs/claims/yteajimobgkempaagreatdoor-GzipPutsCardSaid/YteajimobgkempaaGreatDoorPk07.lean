/- A pack. -/
import Derived.Test.YteajimobgkempaaGreatDoorPk06
set_option linter.all false
set_option maxRecDepth 100000
set_option maxHeartbeats 8000000
namespace Go.Proofs.YteajimobgkempaaGreatDoor
variable {w0 w:World} {L:List Pr}
open Go.RowKit
theorem Xl (h:PG.Hd) (A0:Option Addr) (n c:Nat) (hn:n=h.extra.length) (H:Sp w0 L w) (hm1:h.name.length<=maxLen) (hm2:h.note.length<=maxLen) :
  Calls Tryz.prog 21 #[.agg (hdV h (.slice A0 n c)).toArray] w fun e w'=>e=.returned (.bool (decide (PG.Ok h)))/\Sp w0 L w':=by
 obtain⟨r,hr⟩:=exq (decide (PG.Ok h));rw [hr];have HR:=hid hr;have HN:=hid hn.symm;have a7:=hid hm1;have a5:=hid hm2;obtain⟨b4,b3⟩:=exq (PG.has h.flags 4);obtain⟨M,b2⟩:=exq (PG.has h.flags 8);obtain⟨D,b0⟩:=exq (PG.has h.flags 16);have J:Hid (decide (PG.textQ h.name M)=decide (PG.textOk h.flags 8 h.name)):=hid (by rw [<- b2]; exact decide_eq_decide.2 (PG.textQ_iff _ _ _));have E:Hid (decide (PG.textQ h.note D)=decide (PG.textOk h.flags 16 h.note)):=hid (by rw [<- b0]; exact decide_eq_decide.2 (PG.textQ_iff _ _ _));have I:=hid b3;have a8:=hid b2;have a6:=hid b0;have KK:=hid (H.newBk [.int .u8 h.flags.toNat,.int .u8 h.level.toNat,.int .u8 h.system.toNat,.int .u32 h.time,.slice A0 n c,.string (strOf h.name),.string (strOf h.note)] 47);clear hr hn hm1 hm2 b3 b2 b0 H;unfold hdV;go_enter Tryz.func21,Tryz.ntmps21
 go_wp2_with fail
 generalize World.alloc _ _=wq at KK ⊢;generalize w.heap.size=g at KK ⊢;have O:Hid (Ent (Bk g 47 [.int .u8 h.flags.toNat,.int .u8 h.level.toNat,.int .u8 h.system.toNat,.int .u32 h.time,.slice A0 n c,.string (strOf h.name),.string (strOf h.note)]::L) fun w=>∀j v,([.int .u8 h.flags.toNat,.int .u8 h.level.toNat,.int .u8 h.system.toNat,.int .u32 h.time,.slice A0 n c,.string (strOf h.name),.string (strOf h.note)]:List Value)[j]?=some v->w.cell? ((⟨g,0,none⟩:Addr).add j)=some v):=hid fun _ _ q=>ZQ q 0 rfl;have N:Hid (Ent (Bk g 47 [.int .u8 h.flags.toNat,.int .u8 h.level.toNat,.int .u8 h.system.toNat,.int .u32 h.time,.slice A0 n c,.string (strOf h.name),.string (strOf h.note)]::L) fun w=>w.cell? ⟨g,0,none⟩=some (.int .u8 h.flags.toNat)):=hid fun _ _ q=>q.cell 0 rfl 0;have G:Hid (Ent (Bk g 47 [.int .u8 h.flags.toNat,.int .u8 h.level.toNat,.int .u8 h.system.toNat,.int .u32 h.time,.slice A0 n c,.string (strOf h.name),.string (strOf h.note)]::L) fun w=>w.cell? ⟨g,4,none⟩=some (.slice A0 n c)):=hid fun _ _ q=>q.cell 0 rfl 4;have a9:Hid (Ent (Bk g 47 [.int .u8 h.flags.toNat,.int .u8 h.level.toNat,.int .u8 h.system.toNat,.int .u32 h.time,.slice A0 n c,.string (strOf h.name),.string (strOf h.note)]::L) fun w=>w.cell? ⟨g,5,none⟩=some (.string (strOf h.name))):=hid fun _ _ q=>q.cell 0 rfl 5;have b1:Hid (Ent (Bk g 47 [.int .u8 h.flags.toNat,.int .u8 h.level.toNat,.int .u8 h.system.toNat,.int .u32 h.time,.slice A0 n c,.string (strOf h.name),.string (strOf h.note)]::L) fun w=>w.cell? ⟨g,6,none⟩=some (.string (strOf h.note))):=hid fun _ _ q=>q.cell 0 rfl 6;by_cases h1:h.flags.toNat<32
 ·have y1:(h.flags.toNat:Int)<32:=by omega
  by_cases h2:n<=65535
  ·have y2:(n:Int)<=65535:=by omega
   cases hq4:b4 with
   | false =>
    rw [hq4] at I;by_cases h3:n=0
    ·have y3:((n:Int) == 0)=true:=by rw [beq_iff_eq]; omega
     have HZ:=hid h3;clear h3;cases ht8:decide (PG.textOk h.flags 8 h.name) with
     | false =>
      have s:decide (PG.Ok h)=false:=decide_eq_false fun t=>of_decide_eq_false ht8 t.2.2.2.1;rw [HR.out] at s;replace s:=hid s;rw [ht8] at J;clear ht8;refine Zb (L:=Bk g 47 [.int .u8 h.flags.toNat,.int .u8 h.level.toNat,.int .u8 h.system.toNat,.int .u32 h.time,.slice A0 n c,.string (strOf h.name),.string (strOf h.note)]::L) [some (.pointer (some ⟨g,0,none⟩)),some (.int .u8 h.flags.toNat),some (.bool true),some (.bool true),some (.pointer (some ⟨g,4,none⟩)),some (.slice A0 n c),some (.int .i64 n),some (.bool true),some (.bool true),some (.bool true),some (.agg #[.int .u8 h.flags.toNat,.int .u8 h.level.toNat,.int .u8 h.system.toNat,.int .u32 h.time,.slice A0 n c,.string (strOf h.name),.string (strOf h.note)]),some (.bool false),some (.bool false),some (.pointer (some ⟨g,4,none⟩)),some (.slice A0 n c),some (.int .i64 n),some (.bool true),some (.bool true),some (.bool true),some (.bool true),some (.pointer (some ⟨g,5,none⟩)),some (.string (strOf h.name)),some (.agg #[.int .u8 h.flags.toNat,.int .u8 h.level.toNat,.int .u8 h.system.toNat,.int .u32 h.time,.slice A0 n c,.string (strOf h.name),.string (strOf h.note)]),some (.bool M),some (.bool false),some (.bool false),some (.bool false),some (undef),some (undef),some (undef),some (undef),some (undef),some (.bool false),some (.bool false)] (fun _ _=>True) (fun _ _=>[]) (fun _=>[]) 34 36
       [some 3,some 4,some 5,some 6,some 7,some 8,some 9,some 10,some 11,some 12,some 13,some 14,some 15,some 16,some 17,some 18,some 19,some 20,some 21,some 22,some 23,some 24,some 25,some 26,some 27,some 28,some 29,some 30,some 31,some 32,some 33,some 34,some 35,some 2]
       [[],[0],[1],[2],[3],[4,3],[5,3],[6,3],[3,7],[8,3],[9],[10,9,9],[11,11,9],[12],[13,12],[14,12],[15,12],[12,16,9],[9,17],[18,12],[19],[20,19],[19],[22,19,19],[21,23,23,19],[19,24],[25,24],[26],[27,26],[26],[29,26,26],[28,30,30,26],[26,31],[32,31,0,1,2,3,4,5,6,7,8,9,10,11,12,13,14,15,16,17,18,19,20,21,22,23,24,25,26,27,28,29,30,31,32]]
       [[],[0],[0,1],[0,1,2],[0,1,2,3],[0,1,2,3,4],[0,1,2,3,4,5],[0,1,2,3,4,5,6],[0,1,2,3,4,5,6,7],[0,1,2,3,4,5,6,7,8],[0,1,2,3,4,5,6,7,8,9],[0,1,2,3,4,5,6,7,8,9,10],[0,1,2,3,4,5,6,7,8,9,10,11],[0,1,2,3,4,5,6,7,8,9,10,11,12],[0,1,2,3,4,5,6,7,8,9,10,11,12,13],[0,1,2,3,4,5,6,7,8,9,10,11,12,13,14],[0,1,2,3,4,5,6,7,8,9,10,11,12,13,14,15],[0,1,2,3,4,5,6,7,8,9,10,11,12,13,14,15,16],[0,1,2,3,4,5,6,7,8,9,10,11,12,13,14,15,16,17],[0,1,2,3,4,5,6,7,8,9,10,11,12,13,14,15,16,17,18],[0,1,2,3,4,5,6,7,8,9,10,11,12,13,14,15,16,17,18,19],[0,1,2,3,4,5,6,7,8,9,10,11,12,13,14,15,16,17,18,19,20],[0,1,2,3,4,5,6,7,8,9,10,11,12,13,14,15,16,17,18,19],[0,1,2,3,4,5,6,7,8,9,10,11,12,13,14,15,16,17,18,19,22],[0,1,2,3,4,5,6,7,8,9,10,11,12,13,14,15,16,17,18,19,20,21,22,23],[0,1,2,3,4,5,6,7,8,9,10,11,12,13,14,15,16,17,18,19,20,21,22,23,24],[0,1,2,3,4,5,6,7,8,9,10,11,12,13,14,15,16,17,18,19,20,21,22,23,24,25],[0,1,2,3,4,5,6,7,8,9,10,11,12,13,14,15,16,17,18,19,20,21,22,23,24,25,26],[0,1,2,3,4,5,6,7,8,9,10,11,12,13,14,15,16,17,18,19,20,21,22,23,24,25,26,27],[0,1,2,3,4,5,6,7,8,9,10,11,12,13,14,15,16,17,18,19,20,21,22,23,24,25,26],[0,1,2,3,4,5,6,7,8,9,10,11,12,13,14,15,16,17,18,19,20,21,22,23,24,25,26,29],[0,1,2,3,4,5,6,7,8,9,10,11,12,13,14,15,16,17,18,19,20,21,22,23,24,25,26,27,28,29,30],[0,1,2,3,4,5,6,7,8,9,10,11,12,13,14,15,16,17,18,19,20,21,22,23,24,25,26,27,28,29,30,31],[0,1,2,3,4,5,6,7,8,9,10,11,12,13,14,15,16,17,18,19,20,21,22,23,24,25,26,27,28,29,30,31,32]]
       [[],[],[],[],[],[],[],[],[],[],[],[],[],[],[],[],[],[],[],[],[],[],[],[],[],[],[],[],[],[],[],[],[],[]] [[],[],[],[],[],[],[],[],[],[],[],[],[],[],[],[],[],[],[],[],[],[],[],[],[],[],[],[],[],[],[],[],[],[]] [(1,.pointer (some ⟨g,0,none⟩))]
       (by kernel_rfl) rfl (by decide) (by rfl) (by decide +kernel) rfl rfl (by simp) (KK.out) ?hstep ?hend
      case hstep =>
       refine⟨?p0,⟨?p1,⟨?p2,⟨?p3,⟨?p4,⟨?p5,⟨?p6,⟨?p7,⟨?p8,⟨?p9,⟨?p10,⟨?p11,⟨?p12,⟨?p13,⟨?p14,⟨?p15,⟨?p16,⟨?p17,⟨?p18,⟨?p19,⟨?p20,⟨?p21,⟨?p22,⟨?p23,⟨?p24,⟨?p25,⟨?p26,⟨?p27,⟨?p28,⟨?p29,⟨?p30,⟨?p31,⟨?p32,⟨?p33,trivial⟩⟩⟩⟩⟩⟩⟩⟩⟩⟩⟩⟩⟩⟩⟩⟩⟩⟩⟩⟩⟩⟩⟩⟩⟩⟩⟩⟩⟩⟩⟩⟩⟩⟩
       case p0 | p2 | p3 | p8 | p9 | p18 | p19 | p25 | p26 | p32 | p33 =>
        intro x wx A i d k f m H K l;replace l:=hid l;clear f m d;repeat (obtain⟨_,k⟩:=k)
        refine so ?_;go_step;exact l.out _ _ rfl H
       case p1 =>
        intro x wx A i d k f m H K a;have e3:=tq f 0;have l:=hid a;clear a k f d;have B:wx.cell? ⟨g,0,none⟩=some (.int .u8 h.flags.toNat):=m _ N.out _ _ H;refine so ?_;go_step;exact l.out _ _ rfl H
       case p4 =>
        intro x wx A i d k f m H K a;have p:A.tmps[1]?.getD undef=.pointer (some ⟨g,0,none⟩):=Za k (1,_) (by simp) (by rfl);have o:=(f 3 (by decide)).1;have l:=hid a;clear a k f m d;refine sgT o ?_;go_step;exact l.out _ _ rfl H
       case p5 =>
        intro x wx A i d k f m H K a;have e7:=tq f 4;have o:=(f 3 (by decide)).1;have l:=hid a;clear a k f d;have B:wx.cell? ⟨g,4,none⟩=some (.slice A0 n c):=m _ G.out _ _ H;refine sgT o ?_;go_step;exact l.out _ _ rfl H
       case p6 =>
        intro x wx A i d k f m H K a;have e8:=tq f 5;have o:=(f 3 (by decide)).1;have l:=hid a;clear a k f m d;refine sgT o ?_;go_step;exact l.out _ _ rfl H
       case p7 =>
        intro x wx A i d k f m H K a;have e9:=tq f 6;have o:=(f 3 (by decide)).1;have l:=hid a;clear a k f m d;refine sgT o ?_;go_step;exact l.out _ _ rfl H
       case p10 =>
        intro x wx A i d k f m H K a;have p:A.tmps[1]?.getD undef=.pointer (some ⟨g,0,none⟩):=Za k (1,_) (by simp) (by rfl);have o:=(f 9 (by decide)).1;have l:=hid a;clear a k f d;have y:=m _ O.out _ _ H;refine sgT o ?_;exact Zc 47 _ rfl _ [.int .u8 h.flags.toNat,.int .u8 h.level.toNat,.int .u8 h.system.toNat,.int .u32 h.time,.slice A0 n c,.string (strOf h.name),.string (strOf h.note)] (ev p) y Tryz.isAgg47 Tryz.sizeOf47 (l.out _ _ rfl H)
       case p11 =>
        intro x wx A i d k f m H K a;have P:=tq f 10;have o:=(f 9 (by decide)).1;have l:Hid (∀(v:Value) (w' : World),(v=.bool false)->Sp w0 (i) w'->K (A.put (some 14) v) w'):=hid a;clear a k f m d;refine sgT o ?_;go_wp2_with fail
        refine((Zo h (.slice A0 n c) 4 (by omega) H)).mono ?_;rintro _ w9 ⟨rfl,z⟩;exact l.out _ _ (congrArg Value.bool I.out) z
       case p12 =>
        intro x wx A i d k f m H K a;have Q:=tq f 11;have o:=(f 9 (by decide)).1;have l:=hid a;clear a k f m d;refine sgT o ?_;go_step;exact l.out _ _ rfl H
       case p13 =>
        intro x wx A i d k f m H K a;have p:A.tmps[1]?.getD undef=.pointer (some ⟨g,0,none⟩):=Za k (1,_) (by simp) (by rfl);have o:=(f 12 (by decide)).1;have l:=hid a;clear a k f m d;refine⟨some false,by rw [o]; rfl,?_⟩;rw [if_pos rfl];change Oper.wp _ _ A wx K _;go_step;exact l.out _ _ rfl H
       case p14 =>
        intro x wx A i d k f m H K a;have R:=tq f 13;have o:=(f 12 (by decide)).1;have l:=hid a;clear a k f d;have B:wx.cell? ⟨g,4,none⟩=some (.slice A0 n c):=m _ G.out _ _ H;refine⟨some false,by rw [o]; rfl,?_⟩;rw [if_pos rfl];change Oper.wp _ _ A wx K _;go_step;exact l.out _ _ rfl H
       case p15 =>
        intro x wx A i d k f m H K a;have S:=tq f 14;have o:=(f 12 (by decide)).1;have l:=hid a;clear a k f m d;refine⟨some false,by rw [o]; rfl,?_⟩;rw [if_pos rfl];change Oper.wp _ _ A wx K _;go_step;exact l.out _ _ rfl H
       case p16 =>
        intro x wx A i d k f m H K a;have T:=tq f 15;have o:=(f 12 (by decide)).1;have l:=hid a;clear a k f m d;refine⟨some false,by rw [o]; rfl,?_⟩;rw [if_pos rfl];change Oper.wp _ _ A wx K _;go_step;exact l.out _ _ rfl H
       case p17 =>
        intro x wx A i d k f m H K a;have U:=tq f 12;have V:=tq f 16;have o:=(f 9 (by decide)).1;have l:=hid a;clear a k f m d;refine sgT o ?_;go_step;exact l.out _ _ rfl H
       case p20 =>
        intro x wx A i d k f m H K a;have p:A.tmps[1]?.getD undef=.pointer (some ⟨g,0,none⟩):=Za k (1,_) (by simp) (by rfl);have o:=(f 19 (by decide)).1;have l:=hid a;clear a k f m d;refine sgT o ?_;go_step;exact l.out _ _ rfl H
       case p21 =>
        intro x wx A i d k f m H K a;have W:=tq f 20;have o:=(f 19 (by decide)).1;have l:=hid a;clear a k f d;have B:wx.cell? ⟨g,5,none⟩=some (.string (strOf h.name)):=m _ a9.out _ _ H;refine sgT o ?_;go_step;exact l.out _ _ rfl H
       case p22 =>
        intro x wx A i d k f m H K a;have p:A.tmps[1]?.getD undef=.pointer (some ⟨g,0,none⟩):=Za k (1,_) (by simp) (by rfl);have o:=(f 19 (by decide)).1;have l:=hid a;clear a k f d;have y:=m _ O.out _ _ H;refine sgT o ?_;exact Zc 47 _ rfl _ [.int .u8 h.flags.toNat,.int .u8 h.level.toNat,.int .u8 h.system.toNat,.int .u32 h.time,.slice A0 n c,.string (strOf h.name),.string (strOf h.note)] (ev p) y Tryz.isAgg47 Tryz.sizeOf47 (l.out _ _ rfl H)
       case p23 =>
        intro x wx A i d k f m H K a;have X:=tq f 22;have o:=(f 19 (by decide)).1;have l:Hid (∀(v:Value) (w' : World),(v=.bool M)->Sp w0 (i) w'->K (A.put (some 26) v) w'):=hid a;clear a k f m d;refine sgT o ?_;go_wp2_with fail
        refine((Zo h (.slice A0 n c) 8 (by omega) H)).mono ?_;rintro _ w9 ⟨rfl,z⟩;exact l.out _ _ (congrArg Value.bool a8.out) z
       case p24 =>
        intro x wx A i d k f m H K a;have Y:=tq f 21;have Z:=tq f 23;have o:=(f 19 (by decide)).1;have l:Hid (∀(v:Value) (w' : World),(v=.bool false)->Sp w0 (i) w'->K (A.put (some 27) v) w'):=hid a;clear a k f m d;refine sgT o ?_;go_wp2_with fail
        refine(Zy h.name M wx a7.out).mono ?_;rintro _ _ ⟨rfl,rfl⟩;exact l.out _ _ (congrArg Value.bool J.out) H
       case p27 =>
        intro x wx A i d k f m H K a;have p:A.tmps[1]?.getD undef=.pointer (some ⟨g,0,none⟩):=Za k (1,_) (by simp) (by rfl);have o:=(f 26 (by decide)).1;have l:=hid a;clear a k f m d;exact sgF o (l.out _ _ rfl H)
       case p28 =>
        intro x wx A i d k f m H K a;have a0:=tq f 27;have o:=(f 26 (by decide)).1;have l:=hid a;clear a k f m d;exact sgF o (l.out _ _ rfl H)
       case p29 =>
        intro x wx A i d k f m H K a;have p:A.tmps[1]?.getD undef=.pointer (some ⟨g,0,none⟩):=Za k (1,_) (by simp) (by rfl);have o:=(f 26 (by decide)).1;have l:=hid a;clear a k f m d;exact sgF o (l.out _ _ rfl H)
       case p30 =>
        intro x wx A i d k f m H K a;have a1:=tq f 29;have o:=(f 26 (by decide)).1;have l:=hid a;clear a k f m d;exact sgF o (l.out _ _ rfl H)
       case p31 =>
        intro x wx A i d k f m H K a;have a2:=tq f 28;have a3:=tq f 30;have o:=(f 26 (by decide)).1;have l:=hid a;clear a k f m d;exact sgF o (l.out _ _ rfl H)
      case hend =>
       intro x wx A F f H;replace H:Sp w0 (_::L) wx:=H;have u:x 33=.bool false:=f 33 (by decide);clear f;simp only [putAll,Act.put,List.setIfInBounds_toArray,List.set_cons_succ,List.set_cons_zero,Nat.reduceAdd] at F;subst F;rw [u];clear u;replace H:=H.tail;go_wp2_with fail
       go_ret;exact⟨congrArg (fun b=>Ending.returned (.bool b)) s.out.symm,H⟩
     | true =>
      have a4:=of_decide_eq_true ht8;rw [ht8] at J;clear ht8;cases ht16:decide (PG.textOk h.flags 16 h.note) with
      | false =>
       have s:decide (PG.Ok h)=false:=decide_eq_false fun t=>of_decide_eq_false ht16 t.2.2.2.2;rw [HR.out] at s;replace s:=hid s;rw [ht16] at E;clear ht16 a4;refine Zb (L:=Bk g 47 [.int .u8 h.flags.toNat,.int .u8 h.level.toNat,.int .u8 h.system.toNat,.int .u32 h.time,.slice A0 n c,.string (strOf h.name),.string (strOf h.note)]::L) [some (.pointer (some ⟨g,0,none⟩)),some (.int .u8 h.flags.toNat),some (.bool true),some (.bool true),some (.pointer (some ⟨g,4,none⟩)),some (.slice A0 n c),some (.int .i64 n),some (.bool true),some (.bool true),some (.bool true),some (.agg #[.int .u8 h.flags.toNat,.int .u8 h.level.toNat,.int .u8 h.system.toNat,.int .u32 h.time,.slice A0 n c,.string (strOf h.name),.string (strOf h.note)]),some (.bool false),some (.bool false),some (.pointer (some ⟨g,4,none⟩)),some (.slice A0 n c),some (.int .i64 n),some (.bool true),some (.bool true),some (.bool true),some (.bool true),some (.pointer (some ⟨g,5,none⟩)),some (.string (strOf h.name)),some (.agg #[.int .u8 h.flags.toNat,.int .u8 h.level.toNat,.int .u8 h.system.toNat,.int .u32 h.time,.slice A0 n c,.string (strOf h.name),.string (strOf h.note)]),some (.bool M),some (.bool true),some (.bool true),some (.bool true),some (.pointer (some ⟨g,6,none⟩)),some (.string (strOf h.note)),some (.agg #[.int .u8 h.flags.toNat,.int .u8 h.level.toNat,.int .u8 h.system.toNat,.int .u32 h.time,.slice A0 n c,.string (strOf h.name),.string (strOf h.note)]),some (.bool D),some (.bool false),some (.bool false),some (.bool false)] (fun _ _=>True) (fun _ _=>[]) (fun _=>[]) 34 36
        [some 3,some 4,some 5,some 6,some 7,some 8,some 9,some 10,some 11,some 12,some 13,some 14,some 15,some 16,some 17,some 18,some 19,some 20,some 21,some 22,some 23,some 24,some 25,some 26,some 27,some 28,some 29,some 30,some 31,some 32,some 33,some 34,some 35,some 2]
        [[],[0],[1],[2],[3],[4,3],[5,3],[6,3],[3,7],[8,3],[9],[10,9,9],[11,11,9],[12],[13,12],[14,12],[15,12],[12,16,9],[9,17],[18,12],[19],[20,19],[19],[22,19,19],[21,23,23,19],[19,24],[25,24],[26],[27,26],[26],[29,26,26],[28,30,30,26],[26,31],[32,31,0,1,2,3,4,5,6,7,8,9,10,11,12,13,14,15,16,17,18,19,20,21,22,23,24,25,26,27,28,29,30,31,32]]
        [[],[0],[0,1],[0,1,2],[0,1,2,3],[0,1,2,3,4],[0,1,2,3,4,5],[0,1,2,3,4,5,6],[0,1,2,3,4,5,6,7],[0,1,2,3,4,5,6,7,8],[0,1,2,3,4,5,6,7,8,9],[0,1,2,3,4,5,6,7,8,9,10],[0,1,2,3,4,5,6,7,8,9,10,11],[0,1,2,3,4,5,6,7,8,9,10,11,12],[0,1,2,3,4,5,6,7,8,9,10,11,12,13],[0,1,2,3,4,5,6,7,8,9,10,11,12,13,14],[0,1,2,3,4,5,6,7,8,9,10,11,12,13,14,15],[0,1,2,3,4,5,6,7,8,9,10,11,12,13,14,15,16],[0,1,2,3,4,5,6,7,8,9,10,11,12,13,14,15,16,17],[0,1,2,3,4,5,6,7,8,9,10,11,12,13,14,15,16,17,18],[0,1,2,3,4,5,6,7,8,9,10,11,12,13,14,15,16,17,18,19],[0,1,2,3,4,5,6,7,8,9,10,11,12,13,14,15,16,17,18,19,20],[0,1,2,3,4,5,6,7,8,9,10,11,12,13,14,15,16,17,18,19],[0,1,2,3,4,5,6,7,8,9,10,11,12,13,14,15,16,17,18,19,22],[0,1,2,3,4,5,6,7,8,9,10,11,12,13,14,15,16,17,18,19,20,21,22,23],[0,1,2,3,4,5,6,7,8,9,10,11,12,13,14,15,16,17,18,19,20,21,22,23,24],[0,1,2,3,4,5,6,7,8,9,10,11,12,13,14,15,16,17,18,19,20,21,22,23,24,25],[0,1,2,3,4,5,6,7,8,9,10,11,12,13,14,15,16,17,18,19,20,21,22,23,24,25,26],[0,1,2,3,4,5,6,7,8,9,10,11,12,13,14,15,16,17,18,19,20,21,22,23,24,25,26,27],[0,1,2,3,4,5,6,7,8,9,10,11,12,13,14,15,16,17,18,19,20,21,22,23,24,25,26],[0,1,2,3,4,5,6,7,8,9,10,11,12,13,14,15,16,17,18,19,20,21,22,23,24,25,26,29],[0,1,2,3,4,5,6,7,8,9,10,11,12,13,14,15,16,17,18,19,20,21,22,23,24,25,26,27,28,29,30],[0,1,2,3,4,5,6,7,8,9,10,11,12,13,14,15,16,17,18,19,20,21,22,23,24,25,26,27,28,29,30,31],[0,1,2,3,4,5,6,7,8,9,10,11,12,13,14,15,16,17,18,19,20,21,22,23,24,25,26,27,28,29,30,31,32]]
        [[],[],[],[],[],[],[],[],[],[],[],[],[],[],[],[],[],[],[],[],[],[],[],[],[],[],[],[],[],[],[],[],[],[]] [[],[],[],[],[],[],[],[],[],[],[],[],[],[],[],[],[],[],[],[],[],[],[],[],[],[],[],[],[],[],[],[],[],[]] [(1,.pointer (some ⟨g,0,none⟩))]
        (by kernel_rfl) rfl (by decide) (by rfl) (by decide +kernel) rfl rfl (by simp) (KK.out) ?hstep ?hend
       case hstep =>
        refine⟨?p0,⟨?p1,⟨?p2,⟨?p3,⟨?p4,⟨?p5,⟨?p6,⟨?p7,⟨?p8,⟨?p9,⟨?p10,⟨?p11,⟨?p12,⟨?p13,⟨?p14,⟨?p15,⟨?p16,⟨?p17,⟨?p18,⟨?p19,⟨?p20,⟨?p21,⟨?p22,⟨?p23,⟨?p24,⟨?p25,⟨?p26,⟨?p27,⟨?p28,⟨?p29,⟨?p30,⟨?p31,⟨?p32,⟨?p33,trivial⟩⟩⟩⟩⟩⟩⟩⟩⟩⟩⟩⟩⟩⟩⟩⟩⟩⟩⟩⟩⟩⟩⟩⟩⟩⟩⟩⟩⟩⟩⟩⟩⟩⟩
        case p0 | p2 | p3 | p8 | p9 | p18 | p19 | p25 | p26 | p32 | p33 =>
         intro x wx A i d k f m H K l;replace l:=hid l;clear f m d;repeat (obtain⟨_,k⟩:=k)
         refine so ?_;go_step;exact l.out _ _ rfl H
        case p1 =>
         intro x wx A i d k f m H K a;have e3:=tq f 0;have l:=hid a;clear a k f d;have B:wx.cell? ⟨g,0,none⟩=some (.int .u8 h.flags.toNat):=m _ N.out _ _ H;refine so ?_;go_step;exact l.out _ _ rfl H
        case p4 =>
         intro x wx A i d k f m H K a;have p:A.tmps[1]?.getD undef=.pointer (some ⟨g,0,none⟩):=Za k (1,_) (by simp) (by rfl);have o:=(f 3 (by decide)).1;have l:=hid a;clear a k f m d;refine sgT o ?_;go_step;exact l.out _ _ rfl H
        case p5 =>
         intro x wx A i d k f m H K a;have e7:=tq f 4;have o:=(f 3 (by decide)).1;have l:=hid a;clear a k f d;have B:wx.cell? ⟨g,4,none⟩=some (.slice A0 n c):=m _ G.out _ _ H;refine sgT o ?_;go_step;exact l.out _ _ rfl H
        case p6 =>
         intro x wx A i d k f m H K a;have e8:=tq f 5;have o:=(f 3 (by decide)).1;have l:=hid a;clear a k f m d;refine sgT o ?_;go_step;exact l.out _ _ rfl H
        case p7 =>
         intro x wx A i d k f m H K a;have e9:=tq f 6;have o:=(f 3 (by decide)).1;have l:=hid a;clear a k f m d;refine sgT o ?_;go_step;exact l.out _ _ rfl H
        case p10 =>
         intro x wx A i d k f m H K a;have p:A.tmps[1]?.getD undef=.pointer (some ⟨g,0,none⟩):=Za k (1,_) (by simp) (by rfl);have o:=(f 9 (by decide)).1;have l:=hid a;clear a k f d;have y:=m _ O.out _ _ H;refine sgT o ?_;exact Zc 47 _ rfl _ [.int .u8 h.flags.toNat,.int .u8 h.level.toNat,.int .u8 h.system.toNat,.int .u32 h.time,.slice A0 n c,.string (strOf h.name),.string (strOf h.note)] (ev p) y Tryz.isAgg47 Tryz.sizeOf47 (l.out _ _ rfl H)
        case p11 =>
         intro x wx A i d k f m H K a;have P:=tq f 10;have o:=(f 9 (by decide)).1;have l:Hid (∀(v:Value) (w' : World),(v=.bool false)->Sp w0 (i) w'->K (A.put (some 14) v) w'):=hid a;clear a k f m d;refine sgT o ?_;go_wp2_with fail
         refine((Zo h (.slice A0 n c) 4 (by omega) H)).mono ?_;rintro _ w9 ⟨rfl,z⟩;exact l.out _ _ (congrArg Value.bool I.out) z
        case p12 =>
         intro x wx A i d k f m H K a;have Q:=tq f 11;have o:=(f 9 (by decide)).1;have l:=hid a;clear a k f m d;refine sgT o ?_;go_step;exact l.out _ _ rfl H
        case p13 =>
         intro x wx A i d k f m H K a;have p:A.tmps[1]?.getD undef=.pointer (some ⟨g,0,none⟩):=Za k (1,_) (by simp) (by rfl);have o:=(f 12 (by decide)).1;have l:=hid a;clear a k f m d;refine⟨some false,by rw [o]; rfl,?_⟩;rw [if_pos rfl];change Oper.wp _ _ A wx K _;go_step;exact l.out _ _ rfl H
        case p14 =>
         intro x wx A i d k f m H K a;have R:=tq f 13;have o:=(f 12 (by decide)).1;have l:=hid a;clear a k f d;have B:wx.cell? ⟨g,4,none⟩=some (.slice A0 n c):=m _ G.out _ _ H;refine⟨some false,by rw [o]; rfl,?_⟩;rw [if_pos rfl];change Oper.wp _ _ A wx K _;go_step;exact l.out _ _ rfl H
        case p15 =>
         intro x wx A i d k f m H K a;have S:=tq f 14;have o:=(f 12 (by decide)).1;have l:=hid a;clear a k f m d;refine⟨some false,by rw [o]; rfl,?_⟩;rw [if_pos rfl];change Oper.wp _ _ A wx K _;go_step;exact l.out _ _ rfl H
        case p16 =>
         intro x wx A i d k f m H K a;have T:=tq f 15;have o:=(f 12 (by decide)).1;have l:=hid a;clear a k f m d;refine⟨some false,by rw [o]; rfl,?_⟩;rw [if_pos rfl];change Oper.wp _ _ A wx K _;go_step;exact l.out _ _ rfl H
        case p17 =>
         intro x wx A i d k f m H K a;have U:=tq f 12;have V:=tq f 16;have o:=(f 9 (by decide)).1;have l:=hid a;clear a k f m d;refine sgT o ?_;go_step;exact l.out _ _ rfl H
        case p20 =>
         intro x wx A i d k f m H K a;have p:A.tmps[1]?.getD undef=.pointer (some ⟨g,0,none⟩):=Za k (1,_) (by simp) (by rfl);have o:=(f 19 (by decide)).1;have l:=hid a;clear a k f m d;refine sgT o ?_;go_step;exact l.out _ _ rfl H
        case p21 =>
         intro x wx A i d k f m H K a;have W:=tq f 20;have o:=(f 19 (by decide)).1;have l:=hid a;clear a k f d;have B:wx.cell? ⟨g,5,none⟩=some (.string (strOf h.name)):=m _ a9.out _ _ H;refine sgT o ?_;go_step;exact l.out _ _ rfl H
        case p22 =>
         intro x wx A i d k f m H K a;have p:A.tmps[1]?.getD undef=.pointer (some ⟨g,0,none⟩):=Za k (1,_) (by simp) (by rfl);have o:=(f 19 (by decide)).1;have l:=hid a;clear a k f d;have y:=m _ O.out _ _ H;refine sgT o ?_;exact Zc 47 _ rfl _ [.int .u8 h.flags.toNat,.int .u8 h.level.toNat,.int .u8 h.system.toNat,.int .u32 h.time,.slice A0 n c,.string (strOf h.name),.string (strOf h.note)] (ev p) y Tryz.isAgg47 Tryz.sizeOf47 (l.out _ _ rfl H)
        case p23 =>
         intro x wx A i d k f m H K a;have X:=tq f 22;have o:=(f 19 (by decide)).1;have l:Hid (∀(v:Value) (w' : World),(v=.bool M)->Sp w0 (i) w'->K (A.put (some 26) v) w'):=hid a;clear a k f m d;refine sgT o ?_;go_wp2_with fail
         refine((Zo h (.slice A0 n c) 8 (by omega) H)).mono ?_;rintro _ w9 ⟨rfl,z⟩;exact l.out _ _ (congrArg Value.bool a8.out) z
        case p24 =>
         intro x wx A i d k f m H K a;have Y:=tq f 21;have Z:=tq f 23;have o:=(f 19 (by decide)).1;have l:Hid (∀(v:Value) (w' : World),(v=.bool true)->Sp w0 (i) w'->K (A.put (some 27) v) w'):=hid a;clear a k f m d;refine sgT o ?_;go_wp2_with fail
         refine(Zy h.name M wx a7.out).mono ?_;rintro _ _ ⟨rfl,rfl⟩;exact l.out _ _ (congrArg Value.bool J.out) H
        case p27 =>
         intro x wx A i d k f m H K a;have p:A.tmps[1]?.getD undef=.pointer (some ⟨g,0,none⟩):=Za k (1,_) (by simp) (by rfl);have o:=(f 26 (by decide)).1;have l:=hid a;clear a k f m d;refine sgT o ?_;go_step;exact l.out _ _ rfl H
        case p28 =>
         intro x wx A i d k f m H K a;have a0:=tq f 27;have o:=(f 26 (by decide)).1;have l:=hid a;clear a k f d;have B:wx.cell? ⟨g,6,none⟩=some (.string (strOf h.note)):=m _ b1.out _ _ H;refine sgT o ?_;go_step;exact l.out _ _ rfl H
        case p29 =>
         intro x wx A i d k f m H K a;have p:A.tmps[1]?.getD undef=.pointer (some ⟨g,0,none⟩):=Za k (1,_) (by simp) (by rfl);have o:=(f 26 (by decide)).1;have l:=hid a;clear a k f d;have y:=m _ O.out _ _ H;refine sgT o ?_;exact Zc 47 _ rfl _ [.int .u8 h.flags.toNat,.int .u8 h.level.toNat,.int .u8 h.system.toNat,.int .u32 h.time,.slice A0 n c,.string (strOf h.name),.string (strOf h.note)] (ev p) y Tryz.isAgg47 Tryz.sizeOf47 (l.out _ _ rfl H)
        case p30 =>
         intro x wx A i d k f m H K a;have a1:=tq f 29;have o:=(f 26 (by decide)).1;have l:Hid (∀(v:Value) (w' : World),(v=.bool D)->Sp w0 (i) w'->K (A.put (some 33) v) w'):=hid a;clear a k f m d;refine sgT o ?_;go_wp2_with fail
         refine((Zo h (.slice A0 n c) 16 (by omega) H)).mono ?_;rintro _ w9 ⟨rfl,z⟩;exact l.out _ _ (congrArg Value.bool a6.out) z
        case p31 =>
         intro x wx A i d k f m H K a;have a2:=tq f 28;have a3:=tq f 30;have o:=(f 26 (by decide)).1;have l:Hid (∀(v:Value) (w' : World),(v=.bool false)->Sp w0 (i) w'->K (A.put (some 34) v) w'):=hid a;clear a k f m d;refine sgT o ?_;go_wp2_with fail
         refine(Zy h.note D wx a5.out).mono ?_;rintro _ _ ⟨rfl,rfl⟩;exact l.out _ _ (congrArg Value.bool E.out) H
       case hend =>
        intro x wx A F f H;replace H:Sp w0 (_::L) wx:=H;have u:x 33=.bool false:=f 33 (by decide);clear f;simp only [putAll,Act.put,List.setIfInBounds_toArray,List.set_cons_succ,List.set_cons_zero,Nat.reduceAdd] at F;subst F;rw [u];clear u;replace H:=H.tail;go_wp2_with fail
        go_ret;exact⟨congrArg (fun b=>Ending.returned (.bool b)) s.out.symm,H⟩
      | true =>
       have C:decide (PG.Ok h)=true:=decide_eq_true ⟨h1,by rw [HN.out]; exact h2,.inl (List.length_eq_zero_iff.1 (by rw [HN.out]; exact HZ.out)),a4,of_decide_eq_true ht16⟩;rw [HR.out] at C;replace C:=hid C;rw [ht16] at E;clear ht16 a4;refine Zb (L:=Bk g 47 [.int .u8 h.flags.toNat,.int .u8 h.level.toNat,.int .u8 h.system.toNat,.int .u32 h.time,.slice A0 n c,.string (strOf h.name),.string (strOf h.note)]::L) [some (.pointer (some ⟨g,0,none⟩)),some (.int .u8 h.flags.toNat),some (.bool true),some (.bool true),some (.pointer (some ⟨g,4,none⟩)),some (.slice A0 n c),some (.int .i64 n),some (.bool true),some (.bool true),some (.bool true),some (.agg #[.int .u8 h.flags.toNat,.int .u8 h.level.toNat,.int .u8 h.system.toNat,.int .u32 h.time,.slice A0 n c,.string (strOf h.name),.string (strOf h.note)]),some (.bool false),some (.bool false),some (.pointer (some ⟨g,4,none⟩)),some (.slice A0 n c),some (.int .i64 n),some (.bool true),some (.bool true),some (.bool true),some (.bool true),some (.pointer (some ⟨g,5,none⟩)),some (.string (strOf h.name)),some (.agg #[.int .u8 h.flags.toNat,.int .u8 h.level.toNat,.int .u8 h.system.toNat,.int .u32 h.time,.slice A0 n c,.string (strOf h.name),.string (strOf h.note)]),some (.bool M),some (.bool true),some (.bool true),some (.bool true),some (.pointer (some ⟨g,6,none⟩)),some (.string (strOf h.note)),some (.agg #[.int .u8 h.flags.toNat,.int .u8 h.level.toNat,.int .u8 h.system.toNat,.int .u32 h.time,.slice A0 n c,.string (strOf h.name),.string (strOf h.note)]),some (.bool D),some (.bool true),some (.bool true),some (.bool true)] (fun _ _=>True) (fun _ _=>[]) (fun _=>[]) 34 36
        [some 3,some 4,some 5,some 6,some 7,some 8,some 9,some 10,some 11,some 12,some 13,some 14,some 15,some 16,some 17,some 18,some 19,some 20,some 21,some 22,some 23,some 24,some 25,some 26,some 27,some 28,some 29,some 30,some 31,some 32,some 33,some 34,some 35,some 2]
        [[],[0],[1],[2],[3],[4,3],[5,3],[6,3],[3,7],[8,3],[9],[10,9,9],[11,11,9],[12],[13,12],[14,12],[15,12],[12,16,9],[9,17],[18,12],[19],[20,19],[19],[22,19,19],[21,23,23,19],[19,24],[25,24],[26],[27,26],[26],[29,26,26],[28,30,30,26],[26,31],[32,31,0,1,2,3,4,5,6,7,8,9,10,11,12,13,14,15,16,17,18,19,20,21,22,23,24,25,26,27,28,29,30,31,32]]
        [[],[0],[0,1],[0,1,2],[0,1,2,3],[0,1,2,3,4],[0,1,2,3,4,5],[0,1,2,3,4,5,6],[0,1,2,3,4,5,6,7],[0,1,2,3,4,5,6,7,8],[0,1,2,3,4,5,6,7,8,9],[0,1,2,3,4,5,6,7,8,9,10],[0,1,2,3,4,5,6,7,8,9,10,11],[0,1,2,3,4,5,6,7,8,9,10,11,12],[0,1,2,3,4,5,6,7,8,9,10,11,12,13],[0,1,2,3,4,5,6,7,8,9,10,11,12,13,14],[0,1,2,3,4,5,6,7,8,9,10,11,12,13,14,15],[0,1,2,3,4,5,6,7,8,9,10,11,12,13,14,15,16],[0,1,2,3,4,5,6,7,8,9,10,11,12,13,14,15,16,17],[0,1,2,3,4,5,6,7,8,9,10,11,12,13,14,15,16,17,18],[0,1,2,3,4,5,6,7,8,9,10,11,12,13,14,15,16,17,18,19],[0,1,2,3,4,5,6,7,8,9,10,11,12,13,14,15,16,17,18,19,20],[0,1,2,3,4,5,6,7,8,9,10,11,12,13,14,15,16,17,18,19],[0,1,2,3,4,5,6,7,8,9,10,11,12,13,14,15,16,17,18,19,22],[0,1,2,3,4,5,6,7,8,9,10,11,12,13,14,15,16,17,18,19,20,21,22,23],[0,1,2,3,4,5,6,7,8,9,10,11,12,13,14,15,16,17,18,19,20,21,22,23,24],[0,1,2,3,4,5,6,7,8,9,10,11,12,13,14,15,16,17,18,19,20,21,22,23,24,25],[0,1,2,3,4,5,6,7,8,9,10,11,12,13,14,15,16,17,18,19,20,21,22,23,24,25,26],[0,1,2,3,4,5,6,7,8,9,10,11,12,13,14,15,16,17,18,19,20,21,22,23,24,25,26,27],[0,1,2,3,4,5,6,7,8,9,10,11,12,13,14,15,16,17,18,19,20,21,22,23,24,25,26],[0,1,2,3,4,5,6,7,8,9,10,11,12,13,14,15,16,17,18,19,20,21,22,23,24,25,26,29],[0,1,2,3,4,5,6,7,8,9,10,11,12,13,14,15,16,17,18,19,20,21,22,23,24,25,26,27,28,29,30],[0,1,2,3,4,5,6,7,8,9,10,11,12,13,14,15,16,17,18,19,20,21,22,23,24,25,26,27,28,29,30,31],[0,1,2,3,4,5,6,7,8,9,10,11,12,13,14,15,16,17,18,19,20,21,22,23,24,25,26,27,28,29,30,31,32]]
        [[],[],[],[],[],[],[],[],[],[],[],[],[],[],[],[],[],[],[],[],[],[],[],[],[],[],[],[],[],[],[],[],[],[]] [[],[],[],[],[],[],[],[],[],[],[],[],[],[],[],[],[],[],[],[],[],[],[],[],[],[],[],[],[],[],[],[],[],[]] [(1,.pointer (some ⟨g,0,none⟩))]
        (by kernel_rfl) rfl (by decide) (by rfl) (by decide +kernel) rfl rfl (by simp) (KK.out) ?hstep ?hend
       case hstep =>
        refine⟨?p0,⟨?p1,⟨?p2,⟨?p3,⟨?p4,⟨?p5,⟨?p6,⟨?p7,⟨?p8,⟨?p9,⟨?p10,⟨?p11,⟨?p12,⟨?p13,⟨?p14,⟨?p15,⟨?p16,⟨?p17,⟨?p18,⟨?p19,⟨?p20,⟨?p21,⟨?p22,⟨?p23,⟨?p24,⟨?p25,⟨?p26,⟨?p27,⟨?p28,⟨?p29,⟨?p30,⟨?p31,⟨?p32,⟨?p33,trivial⟩⟩⟩⟩⟩⟩⟩⟩⟩⟩⟩⟩⟩⟩⟩⟩⟩⟩⟩⟩⟩⟩⟩⟩⟩⟩⟩⟩⟩⟩⟩⟩⟩⟩
        case p0 | p2 | p3 | p8 | p9 | p18 | p19 | p25 | p26 | p32 | p33 =>
         intro x wx A i d k f m H K l;replace l:=hid l;clear f m d;repeat (obtain⟨_,k⟩:=k)
         refine so ?_;go_step;exact l.out _ _ rfl H
        case p1 =>
         intro x wx A i d k f m H K a;have e3:=tq f 0;have l:=hid a;clear a k f d;have B:wx.cell? ⟨g,0,none⟩=some (.int .u8 h.flags.toNat):=m _ N.out _ _ H;refine so ?_;go_step;exact l.out _ _ rfl H
        case p4 =>
         intro x wx A i d k f m H K a;have p:A.tmps[1]?.getD undef=.pointer (some ⟨g,0,none⟩):=Za k (1,_) (by simp) (by rfl);have o:=(f 3 (by decide)).1;have l:=hid a;clear a k f m d;refine sgT o ?_;go_step;exact l.out _ _ rfl H
        case p5 =>
         intro x wx A i d k f m H K a;have e7:=tq f 4;have o:=(f 3 (by decide)).1;have l:=hid a;clear a k f d;have B:wx.cell? ⟨g,4,none⟩=some (.slice A0 n c):=m _ G.out _ _ H;refine sgT o ?_;go_step;exact l.out _ _ rfl H
        case p6 =>
         intro x wx A i d k f m H K a;have e8:=tq f 5;have o:=(f 3 (by decide)).1;have l:=hid a;clear a k f m d;refine sgT o ?_;go_step;exact l.out _ _ rfl H
        case p7 =>
         intro x wx A i d k f m H K a;have e9:=tq f 6;have o:=(f 3 (by decide)).1;have l:=hid a;clear a k f m d;refine sgT o ?_;go_step;exact l.out _ _ rfl H
        case p10 =>
         intro x wx A i d k f m H K a;have p:A.tmps[1]?.getD undef=.pointer (some ⟨g,0,none⟩):=Za k (1,_) (by simp) (by rfl);have o:=(f 9 (by decide)).1;have l:=hid a;clear a k f d;have y:=m _ O.out _ _ H;refine sgT o ?_;exact Zc 47 _ rfl _ [.int .u8 h.flags.toNat,.int .u8 h.level.toNat,.int .u8 h.system.toNat,.int .u32 h.time,.slice A0 n c,.string (strOf h.name),.string (strOf h.note)] (ev p) y Tryz.isAgg47 Tryz.sizeOf47 (l.out _ _ rfl H)
        case p11 =>
         intro x wx A i d k f m H K a;have P:=tq f 10;have o:=(f 9 (by decide)).1;have l:Hid (∀(v:Value) (w' : World),(v=.bool false)->Sp w0 (i) w'->K (A.put (some 14) v) w'):=hid a;clear a k f m d;refine sgT o ?_;go_wp2_with fail
         refine((Zo h (.slice A0 n c) 4 (by omega) H)).mono ?_;rintro _ w9 ⟨rfl,z⟩;exact l.out _ _ (congrArg Value.bool I.out) z
        case p12 =>
         intro x wx A i d k f m H K a;have Q:=tq f 11;have o:=(f 9 (by decide)).1;have l:=hid a;clear a k f m d;refine sgT o ?_;go_step;exact l.out _ _ rfl H
        case p13 =>
         intro x wx A i d k f m H K a;have p:A.tmps[1]?.getD undef=.pointer (some ⟨g,0,none⟩):=Za k (1,_) (by simp) (by rfl);have o:=(f 12 (by decide)).1;have l:=hid a;clear a k f m d;refine⟨some false,by rw [o]; rfl,?_⟩;rw [if_pos rfl];change Oper.wp _ _ A wx K _;go_step;exact l.out _ _ rfl H
        case p14 =>
         intro x wx A i d k f m H K a;have R:=tq f 13;have o:=(f 12 (by decide)).1;have l:=hid a;clear a k f d;have B:wx.cell? ⟨g,4,none⟩=some (.slice A0 n c):=m _ G.out _ _ H;refine⟨some false,by rw [o]; rfl,?_⟩;rw [if_pos rfl];change Oper.wp _ _ A wx K _;go_step;exact l.out _ _ rfl H
        case p15 =>
         intro x wx A i d k f m H K a;have S:=tq f 14;have o:=(f 12 (by decide)).1;have l:=hid a;clear a k f m d;refine⟨some false,by rw [o]; rfl,?_⟩;rw [if_pos rfl];change Oper.wp _ _ A wx K _;go_step;exact l.out _ _ rfl H
        case p16 =>
         intro x wx A i d k f m H K a;have T:=tq f 15;have o:=(f 12 (by decide)).1;have l:=hid a;clear a k f m d;refine⟨some false,by rw [o]; rfl,?_⟩;rw [if_pos rfl];change Oper.wp _ _ A wx K _;go_step;exact l.out _ _ rfl H
        case p17 =>
         intro x wx A i d k f m H K a;have U:=tq f 12;have V:=tq f 16;have o:=(f 9 (by decide)).1;have l:=hid a;clear a k f m d;refine sgT o ?_;go_step;exact l.out _ _ rfl H
        case p20 =>
         intro x wx A i d k f m H K a;have p:A.tmps[1]?.getD undef=.pointer (some ⟨g,0,none⟩):=Za k (1,_) (by simp) (by rfl);have o:=(f 19 (by decide)).1;have l:=hid a;clear a k f m d;refine sgT o ?_;go_step;exact l.out _ _ rfl H
        case p21 =>
         intro x wx A i d k f m H K a;have W:=tq f 20;have o:=(f 19 (by decide)).1;have l:=hid a;clear a k f d;have B:wx.cell? ⟨g,5,none⟩=some (.string (strOf h.name)):=m _ a9.out _ _ H;refine sgT o ?_;go_step;exact l.out _ _ rfl H
        case p22 =>
         intro x wx A i d k f m H K a;have p:A.tmps[1]?.getD undef=.pointer (some ⟨g,0,none⟩):=Za k (1,_) (by simp) (by rfl);have o:=(f 19 (by decide)).1;have l:=hid a;clear a k f d;have y:=m _ O.out _ _ H;refine sgT o ?_;exact Zc 47 _ rfl _ [.int .u8 h.flags.toNat,.int .u8 h.level.toNat,.int .u8 h.system.toNat,.int .u32 h.time,.slice A0 n c,.string (strOf h.name),.string (strOf h.note)] (ev p) y Tryz.isAgg47 Tryz.sizeOf47 (l.out _ _ rfl H)
        case p23 =>
         intro x wx A i d k f m H K a;have X:=tq f 22;have o:=(f 19 (by decide)).1;have l:Hid (∀(v:Value) (w' : World),(v=.bool M)->Sp w0 (i) w'->K (A.put (some 26) v) w'):=hid a;clear a k f m d;refine sgT o ?_;go_wp2_with fail
         refine((Zo h (.slice A0 n c) 8 (by omega) H)).mono ?_;rintro _ w9 ⟨rfl,z⟩;exact l.out _ _ (congrArg Value.bool a8.out) z
        case p24 =>
         intro x wx A i d k f m H K a;have Y:=tq f 21;have Z:=tq f 23;have o:=(f 19 (by decide)).1;have l:Hid (∀(v:Value) (w' : World),(v=.bool true)->Sp w0 (i) w'->K (A.put (some 27) v) w'):=hid a;clear a k f m d;refine sgT o ?_;go_wp2_with fail
         refine(Zy h.name M wx a7.out).mono ?_;rintro _ _ ⟨rfl,rfl⟩;exact l.out _ _ (congrArg Value.bool J.out) H
        case p27 =>
         intro x wx A i d k f m H K a;have p:A.tmps[1]?.getD undef=.pointer (some ⟨g,0,none⟩):=Za k (1,_) (by simp) (by rfl);have o:=(f 26 (by decide)).1;have l:=hid a;clear a k f m d;refine sgT o ?_;go_step;exact l.out _ _ rfl H
        case p28 =>
         intro x wx A i d k f m H K a;have a0:=tq f 27;have o:=(f 26 (by decide)).1;have l:=hid a;clear a k f d;have B:wx.cell? ⟨g,6,none⟩=some (.string (strOf h.note)):=m _ b1.out _ _ H;refine sgT o ?_;go_step;exact l.out _ _ rfl H
        case p29 =>
         intro x wx A i d k f m H K a;have p:A.tmps[1]?.getD undef=.pointer (some ⟨g,0,none⟩):=Za k (1,_) (by simp) (by rfl);have o:=(f 26 (by decide)).1;have l:=hid a;clear a k f d;have y:=m _ O.out _ _ H;refine sgT o ?_;exact Zc 47 _ rfl _ [.int .u8 h.flags.toNat,.int .u8 h.level.toNat,.int .u8 h.system.toNat,.int .u32 h.time,.slice A0 n c,.string (strOf h.name),.string (strOf h.note)] (ev p) y Tryz.isAgg47 Tryz.sizeOf47 (l.out _ _ rfl H)
        case p30 =>
         intro x wx A i d k f m H K a;have a1:=tq f 29;have o:=(f 26 (by decide)).1;have l:Hid (∀(v:Value) (w' : World),(v=.bool D)->Sp w0 (i) w'->K (A.put (some 33) v) w'):=hid a;clear a k f m d;refine sgT o ?_;go_wp2_with fail
         refine((Zo h (.slice A0 n c) 16 (by omega) H)).mono ?_;rintro _ w9 ⟨rfl,z⟩;exact l.out _ _ (congrArg Value.bool a6.out) z
        case p31 =>
         intro x wx A i d k f m H K a;have a2:=tq f 28;have a3:=tq f 30;have o:=(f 26 (by decide)).1;have l:Hid (∀(v:Value) (w' : World),(v=.bool true)->Sp w0 (i) w'->K (A.put (some 34) v) w'):=hid a;clear a k f m d;refine sgT o ?_;go_wp2_with fail
         refine(Zy h.note D wx a5.out).mono ?_;rintro _ _ ⟨rfl,rfl⟩;exact l.out _ _ (congrArg Value.bool E.out) H
       case hend =>
        intro x wx A F f H;replace H:Sp w0 (_::L) wx:=H;have u:x 33=.bool true:=f 33 (by decide);clear f;simp only [putAll,Act.put,List.setIfInBounds_toArray,List.set_cons_succ,List.set_cons_zero,Nat.reduceAdd] at F;subst F;rw [u];clear u;replace H:=H.tail;go_wp2_with fail
        go_ret;exact⟨congrArg (fun b=>Ending.returned (.bool b)) C.out.symm,H⟩
    ·have y3:((n:Int) == 0)=false:=by rw [beq_eq_false_iff_ne]; omega
     have s:decide (PG.Ok h)=false:=decide_eq_false fun t=>by
      rcases t.2.2.1 with e | e
      ·exact h3 (by rw [<- HN.out,e]; rfl)
      ·rw [I.out] at e; cases e
     rw [HR.out] at s;replace s:=hid s;clear h3;refine Zb (L:=Bk g 47 [.int .u8 h.flags.toNat,.int .u8 h.level.toNat,.int .u8 h.system.toNat,.int .u32 h.time,.slice A0 n c,.string (strOf h.name),.string (strOf h.note)]::L) [some (.pointer (some ⟨g,0,none⟩)),some (.int .u8 h.flags.toNat),some (.bool true),some (.bool true),some (.pointer (some ⟨g,4,none⟩)),some (.slice A0 n c),some (.int .i64 n),some (.bool true),some (.bool true),some (.bool true),some (.agg #[.int .u8 h.flags.toNat,.int .u8 h.level.toNat,.int .u8 h.system.toNat,.int .u32 h.time,.slice A0 n c,.string (strOf h.name),.string (strOf h.note)]),some (.bool false),some (.bool false),some (.pointer (some ⟨g,4,none⟩)),some (.slice A0 n c),some (.int .i64 n),some (.bool false),some (.bool false),some (.bool false),some (.bool false),some (undef),some (undef),some (undef),some (undef),some (undef),some (.bool false),some (.bool false),some (undef),some (undef),some (undef),some (undef),some (undef),some (.bool false),some (.bool false)] (fun _ _=>True) (fun _ _=>[]) (fun _=>[]) 34 36
      [some 3,some 4,some 5,some 6,some 7,some 8,some 9,some 10,some 11,some 12,some 13,some 14,some 15,some 16,some 17,some 18,some 19,some 20,some 21,some 22,some 23,some 24,some 25,some 26,some 27,some 28,some 29,some 30,some 31,some 32,some 33,some 34,some 35,some 2]
      [[],[0],[1],[2],[3],[4,3],[5,3],[6,3],[3,7],[8,3],[9],[10,9,9],[11,11,9],[12],[13,12],[14,12],[15,12],[12,16,9],[9,17],[18,12],[19],[20,19],[19],[22,19,19],[21,23,23,19],[19,24],[25,24],[26],[27,26],[26],[29,26,26],[28,30,30,26],[26,31],[32,31,0,1,2,3,4,5,6,7,8,9,10,11,12,13,14,15,16,17,18,19,20,21,22,23,24,25,26,27,28,29,30,31,32]]
      [[],[0],[0,1],[0,1,2],[0,1,2,3],[0,1,2,3,4],[0,1,2,3,4,5],[0,1,2,3,4,5,6],[0,1,2,3,4,5,6,7],[0,1,2,3,4,5,6,7,8],[0,1,2,3,4,5,6,7,8,9],[0,1,2,3,4,5,6,7,8,9,10],[0,1,2,3,4,5,6,7,8,9,10,11],[0,1,2,3,4,5,6,7,8,9,10,11,12],[0,1,2,3,4,5,6,7,8,9,10,11,12,13],[0,1,2,3,4,5,6,7,8,9,10,11,12,13,14],[0,1,2,3,4,5,6,7,8,9,10,11,12,13,14,15],[0,1,2,3,4,5,6,7,8,9,10,11,12,13,14,15,16],[0,1,2,3,4,5,6,7,8,9,10,11,12,13,14,15,16,17],[0,1,2,3,4,5,6,7,8,9,10,11,12,13,14,15,16,17,18],[0,1,2,3,4,5,6,7,8,9,10,11,12,13,14,15,16,17,18,19],[0,1,2,3,4,5,6,7,8,9,10,11,12,13,14,15,16,17,18,19,20],[0,1,2,3,4,5,6,7,8,9,10,11,12,13,14,15,16,17,18,19],[0,1,2,3,4,5,6,7,8,9,10,11,12,13,14,15,16,17,18,19,22],[0,1,2,3,4,5,6,7,8,9,10,11,12,13,14,15,16,17,18,19,20,21,22,23],[0,1,2,3,4,5,6,7,8,9,10,11,12,13,14,15,16,17,18,19,20,21,22,23,24],[0,1,2,3,4,5,6,7,8,9,10,11,12,13,14,15,16,17,18,19,20,21,22,23,24,25],[0,1,2,3,4,5,6,7,8,9,10,11,12,13,14,15,16,17,18,19,20,21,22,23,24,25,26],[0,1,2,3,4,5,6,7,8,9,10,11,12,13,14,15,16,17,18,19,20,21,22,23,24,25,26,27],[0,1,2,3,4,5,6,7,8,9,10,11,12,13,14,15,16,17,18,19,20,21,22,23,24,25,26],[0,1,2,3,4,5,6,7,8,9,10,11,12,13,14,15,16,17,18,19,20,21,22,23,24,25,26,29],[0,1,2,3,4,5,6,7,8,9,10,11,12,13,14,15,16,17,18,19,20,21,22,23,24,25,26,27,28,29,30],[0,1,2,3,4,5,6,7,8,9,10,11,12,13,14,15,16,17,18,19,20,21,22,23,24,25,26,27,28,29,30,31],[0,1,2,3,4,5,6,7,8,9,10,11,12,13,14,15,16,17,18,19,20,21,22,23,24,25,26,27,28,29,30,31,32]]
      [[],[],[],[],[],[],[],[],[],[],[],[],[],[],[],[],[],[],[],[],[],[],[],[],[],[],[],[],[],[],[],[],[],[]] [[],[],[],[],[],[],[],[],[],[],[],[],[],[],[],[],[],[],[],[],[],[],[],[],[],[],[],[],[],[],[],[],[],[]] [(1,.pointer (some ⟨g,0,none⟩))]
      (by kernel_rfl) rfl (by decide) (by rfl) (by decide +kernel) rfl rfl (by simp) (KK.out) ?hstep ?hend
     case hstep =>
      refine⟨?p0,⟨?p1,⟨?p2,⟨?p3,⟨?p4,⟨?p5,⟨?p6,⟨?p7,⟨?p8,⟨?p9,⟨?p10,⟨?p11,⟨?p12,⟨?p13,⟨?p14,⟨?p15,⟨?p16,⟨?p17,⟨?p18,⟨?p19,⟨?p20,⟨?p21,⟨?p22,⟨?p23,⟨?p24,⟨?p25,⟨?p26,⟨?p27,⟨?p28,⟨?p29,⟨?p30,⟨?p31,⟨?p32,⟨?p33,trivial⟩⟩⟩⟩⟩⟩⟩⟩⟩⟩⟩⟩⟩⟩⟩⟩⟩⟩⟩⟩⟩⟩⟩⟩⟩⟩⟩⟩⟩⟩⟩⟩⟩⟩
      case p0 | p2 | p3 | p8 | p9 | p18 | p19 | p25 | p26 | p32 | p33 =>
       intro x wx A i d k f m H K l;replace l:=hid l;clear f m d;repeat (obtain⟨_,k⟩:=k)
       refine so ?_;go_step;exact l.out _ _ rfl H
      case p1 =>
       intro x wx A i d k f m H K a;have e3:=tq f 0;have l:=hid a;clear a k f d;have B:wx.cell? ⟨g,0,none⟩=some (.int .u8 h.flags.toNat):=m _ N.out _ _ H;refine so ?_;go_step;exact l.out _ _ rfl H
      case p4 =>
       intro x wx A i d k f m H K a;have p:A.tmps[1]?.getD undef=.pointer (some ⟨g,0,none⟩):=Za k (1,_) (by simp) (by rfl);have o:=(f 3 (by decide)).1;have l:=hid a;clear a k f m d;refine sgT o ?_;go_step;exact l.out _ _ rfl H
      case p5 =>
       intro x wx A i d k f m H K a;have e7:=tq f 4;have o:=(f 3 (by decide)).1;have l:=hid a;clear a k f d;have B:wx.cell? ⟨g,4,none⟩=some (.slice A0 n c):=m _ G.out _ _ H;refine sgT o ?_;go_step;exact l.out _ _ rfl H
      case p6 =>
       intro x wx A i d k f m H K a;have e8:=tq f 5;have o:=(f 3 (by decide)).1;have l:=hid a;clear a k f m d;refine sgT o ?_;go_step;exact l.out _ _ rfl H
      case p7 =>
       intro x wx A i d k f m H K a;have e9:=tq f 6;have o:=(f 3 (by decide)).1;have l:=hid a;clear a k f m d;refine sgT o ?_;go_step;exact l.out _ _ rfl H
      case p10 =>
       intro x wx A i d k f m H K a;have p:A.tmps[1]?.getD undef=.pointer (some ⟨g,0,none⟩):=Za k (1,_) (by simp) (by rfl);have o:=(f 9 (by decide)).1;have l:=hid a;clear a k f d;have y:=m _ O.out _ _ H;refine sgT o ?_;exact Zc 47 _ rfl _ [.int .u8 h.flags.toNat,.int .u8 h.level.toNat,.int .u8 h.system.toNat,.int .u32 h.time,.slice A0 n c,.string (strOf h.name),.string (strOf h.note)] (ev p) y Tryz.isAgg47 Tryz.sizeOf47 (l.out _ _ rfl H)
      case p11 =>
       intro x wx A i d k f m H K a;have P:=tq f 10;have o:=(f 9 (by decide)).1;have l:Hid (∀(v:Value) (w' : World),(v=.bool false)->Sp w0 (i) w'->K (A.put (some 14) v) w'):=hid a;clear a k f m d;refine sgT o ?_;go_wp2_with fail
       refine((Zo h (.slice A0 n c) 4 (by omega) H)).mono ?_;rintro _ w9 ⟨rfl,z⟩;exact l.out _ _ (congrArg Value.bool I.out) z
      case p12 =>
       intro x wx A i d k f m H K a;have Q:=tq f 11;have o:=(f 9 (by decide)).1;have l:=hid a;clear a k f m d;refine sgT o ?_;go_step;exact l.out _ _ rfl H
      case p13 =>
       intro x wx A i d k f m H K a;have p:A.tmps[1]?.getD undef=.pointer (some ⟨g,0,none⟩):=Za k (1,_) (by simp) (by rfl);have o:=(f 12 (by decide)).1;have l:=hid a;clear a k f m d;refine⟨some false,by rw [o]; rfl,?_⟩;rw [if_pos rfl];change Oper.wp _ _ A wx K _;go_step;exact l.out _ _ rfl H
      case p14 =>
       intro x wx A i d k f m H K a;have R:=tq f 13;have o:=(f 12 (by decide)).1;have l:=hid a;clear a k f d;have B:wx.cell? ⟨g,4,none⟩=some (.slice A0 n c):=m _ G.out _ _ H;refine⟨some false,by rw [o]; rfl,?_⟩;rw [if_pos rfl];change Oper.wp _ _ A wx K _;go_step;exact l.out _ _ rfl H
      case p15 =>
       intro x wx A i d k f m H K a;have S:=tq f 14;have o:=(f 12 (by decide)).1;have l:=hid a;clear a k f m d;refine⟨some false,by rw [o]; rfl,?_⟩;rw [if_pos rfl];change Oper.wp _ _ A wx K _;go_step;exact l.out _ _ rfl H
      case p16 =>
       intro x wx A i d k f m H K a;have T:=tq f 15;have o:=(f 12 (by decide)).1;have l:=hid a;clear a k f m d;refine⟨some false,by rw [o]; rfl,?_⟩;rw [if_pos rfl];change Oper.wp _ _ A wx K _;go_step;exact l.out _ _ rfl H
      case p17 =>
       intro x wx A i d k f m H K a;have U:=tq f 12;have V:=tq f 16;have o:=(f 9 (by decide)).1;have l:=hid a;clear a k f m d;refine sgT o ?_;go_step;exact l.out _ _ rfl H
      case p20 =>
       intro x wx A i d k f m H K a;have p:A.tmps[1]?.getD undef=.pointer (some ⟨g,0,none⟩):=Za k (1,_) (by simp) (by rfl);have o:=(f 19 (by decide)).1;have l:=hid a;clear a k f m d;exact sgF o (l.out _ _ rfl H)
      case p21 =>
       intro x wx A i d k f m H K a;have W:=tq f 20;have o:=(f 19 (by decide)).1;have l:=hid a;clear a k f m d;exact sgF o (l.out _ _ rfl H)
      case p22 =>
       intro x wx A i d k f m H K a;have p:A.tmps[1]?.getD undef=.pointer (some ⟨g,0,none⟩):=Za k (1,_) (by simp) (by rfl);have o:=(f 19 (by decide)).1;have l:=hid a;clear a k f m d;exact sgF o (l.out _ _ rfl H)
      case p23 =>
       intro x wx A i d k f m H K a;have X:=tq f 22;have o:=(f 19 (by decide)).1;have l:=hid a;clear a k f m d;exact sgF o (l.out _ _ rfl H)
      case p24 =>
       intro x wx A i d k f m H K a;have Y:=tq f 21;have Z:=tq f 23;have o:=(f 19 (by decide)).1;have l:=hid a;clear a k f m d;exact sgF o (l.out _ _ rfl H)
      case p27 =>
       intro x wx A i d k f m H K a;have p:A.tmps[1]?.getD undef=.pointer (some ⟨g,0,none⟩):=Za k (1,_) (by simp) (by rfl);have o:=(f 26 (by decide)).1;have l:=hid a;clear a k f m d;exact sgF o (l.out _ _ rfl H)
      case p28 =>
       intro x wx A i d k f m H K a;have a0:=tq f 27;have o:=(f 26 (by decide)).1;have l:=hid a;clear a k f m d;exact sgF o (l.out _ _ rfl H)
      case p29 =>
       intro x wx A i d k f m H K a;have p:A.tmps[1]?.getD undef=.pointer (some ⟨g,0,none⟩):=Za k (1,_) (by simp) (by rfl);have o:=(f 26 (by decide)).1;have l:=hid a;clear a k f m d;exact sgF o (l.out _ _ rfl H)
      case p30 =>
       intro x wx A i d k f m H K a;have a1:=tq f 29;have o:=(f 26 (by decide)).1;have l:=hid a;clear a k f m d;exact sgF o (l.out _ _ rfl H)
      case p31 =>
       intro x wx A i d k f m H K a;have a2:=tq f 28;have a3:=tq f 30;have o:=(f 26 (by decide)).1;have l:=hid a;clear a k f m d;exact sgF o (l.out _ _ rfl H)
     case hend =>
      intro x wx A F f H;replace H:Sp w0 (_::L) wx:=H;have u:x 33=.bool false:=f 33 (by decide);clear f;simp only [putAll,Act.put,List.setIfInBounds_toArray,List.set_cons_succ,List.set_cons_zero,Nat.reduceAdd] at F;subst F;rw [u];clear u;replace H:=H.tail;go_wp2_with fail
      go_ret;exact⟨congrArg (fun b=>Ending.returned (.bool b)) s.out.symm,H⟩
   | true =>
    rw [hq4] at I;cases ht8:decide (PG.textOk h.flags 8 h.name) with
    | false =>
     have s:decide (PG.Ok h)=false:=decide_eq_false fun t=>of_decide_eq_false ht8 t.2.2.2.1;rw [HR.out] at s;replace s:=hid s;rw [ht8] at J;clear ht8;refine Zb (L:=Bk g 47 [.int .u8 h.flags.toNat,.int .u8 h.level.toNat,.int .u8 h.system.toNat,.int .u32 h.time,.slice A0 n c,.string (strOf h.name),.string (strOf h.note)]::L) [some (.pointer (some ⟨g,0,none⟩)),some (.int .u8 h.flags.toNat),some (.bool true),some (.bool true),some (.pointer (some ⟨g,4,none⟩)),some (.slice A0 n c),some (.int .i64 n),some (.bool true),some (.bool true),some (.bool true),some (.agg #[.int .u8 h.flags.toNat,.int .u8 h.level.toNat,.int .u8 h.system.toNat,.int .u32 h.time,.slice A0 n c,.string (strOf h.name),.string (strOf h.note)]),some (.bool true),some (.bool true),some (undef),some (undef),some (undef),some (undef),some (.bool true),some (.bool true),some (.bool true),some (.pointer (some ⟨g,5,none⟩)),some (.string (strOf h.name)),some (.agg #[.int .u8 h.flags.toNat,.int .u8 h.level.toNat,.int .u8 h.system.toNat,.int .u32 h.time,.slice A0 n c,.string (strOf h.name),.string (strOf h.note)]),some (.bool M),some (.bool false),some (.bool false),some (.bool false),some (undef),some (undef),some (undef),some (undef),some (undef),some (.bool false),some (.bool false)] (fun _ _=>True) (fun _ _=>[]) (fun _=>[]) 34 36
      [some 3,some 4,some 5,some 6,some 7,some 8,some 9,some 10,some 11,some 12,some 13,some 14,some 15,some 16,some 17,some 18,some 19,some 20,some 21,some 22,some 23,some 24,some 25,some 26,some 27,some 28,some 29,some 30,some 31,some 32,some 33,some 34,some 35,some 2]
      [[],[0],[1],[2],[3],[4,3],[5,3],[6,3],[3,7],[8,3],[9],[10,9,9],[11,11,9],[12],[13,12],[14,12],[15,12],[12,16,9],[9,17],[18,12],[19],[20,19],[19],[22,19,19],[21,23,23,19],[19,24],[25,24],[26],[27,26],[26],[29,26,26],[28,30,30,26],[26,31],[32,31,0,1,2,3,4,5,6,7,8,9,10,11,12,13,14,15,16,17,18,19,20,21,22,23,24,25,26,27,28,29,30,31,32]]
      [[],[0],[0,1],[0,1,2],[0,1,2,3],[0,1,2,3,4],[0,1,2,3,4,5],[0,1,2,3,4,5,6],[0,1,2,3,4,5,6,7],[0,1,2,3,4,5,6,7,8],[0,1,2,3,4,5,6,7,8,9],[0,1,2,3,4,5,6,7,8,9,10],[0,1,2,3,4,5,6,7,8,9,10,11],[0,1,2,3,4,5,6,7,8,9,10,11,12],[0,1,2,3,4,5,6,7,8,9,10,11,12,13],[0,1,2,3,4,5,6,7,8,9,10,11,12,13,14],[0,1,2,3,4,5,6,7,8,9,10,11,12,13,14,15],[0,1,2,3,4,5,6,7,8,9,10,11,12,13,14,15,16],[0,1,2,3,4,5,6,7,8,9,10,11,12,13,14,15,16,17],[0,1,2,3,4,5,6,7,8,9,10,11,12,13,14,15,16,17,18],[0,1,2,3,4,5,6,7,8,9,10,11,12,13,14,15,16,17,18,19],[0,1,2,3,4,5,6,7,8,9,10,11,12,13,14,15,16,17,18,19,20],[0,1,2,3,4,5,6,7,8,9,10,11,12,13,14,15,16,17,18,19],[0,1,2,3,4,5,6,7,8,9,10,11,12,13,14,15,16,17,18,19,22],[0,1,2,3,4,5,6,7,8,9,10,11,12,13,14,15,16,17,18,19,20,21,22,23],[0,1,2,3,4,5,6,7,8,9,10,11,12,13,14,15,16,17,18,19,20,21,22,23,24],[0,1,2,3,4,5,6,7,8,9,10,11,12,13,14,15,16,17,18,19,20,21,22,23,24,25],[0,1,2,3,4,5,6,7,8,9,10,11,12,13,14,15,16,17,18,19,20,21,22,23,24,25,26],[0,1,2,3,4,5,6,7,8,9,10,11,12,13,14,15,16,17,18,19,20,21,22,23,24,25,26,27],[0,1,2,3,4,5,6,7,8,9,10,11,12,13,14,15,16,17,18,19,20,21,22,23,24,25,26],[0,1,2,3,4,5,6,7,8,9,10,11,12,13,14,15,16,17,18,19,20,21,22,23,24,25,26,29],[0,1,2,3,4,5,6,7,8,9,10,11,12,13,14,15,16,17,18,19,20,21,22,23,24,25,26,27,28,29,30],[0,1,2,3,4,5,6,7,8,9,10,11,12,13,14,15,16,17,18,19,20,21,22,23,24,25,26,27,28,29,30,31],[0,1,2,3,4,5,6,7,8,9,10,11,12,13,14,15,16,17,18,19,20,21,22,23,24,25,26,27,28,29,30,31,32]]
      [[],[],[],[],[],[],[],[],[],[],[],[],[],[],[],[],[],[],[],[],[],[],[],[],[],[],[],[],[],[],[],[],[],[]] [[],[],[],[],[],[],[],[],[],[],[],[],[],[],[],[],[],[],[],[],[],[],[],[],[],[],[],[],[],[],[],[],[],[]] [(1,.pointer (some ⟨g,0,none⟩))]
      (by kernel_rfl) rfl (by decide) (by rfl) (by decide +kernel) rfl rfl (by simp) (KK.out) ?hstep ?hend
     case hstep =>
      refine⟨?p0,⟨?p1,⟨?p2,⟨?p3,⟨?p4,⟨?p5,⟨?p6,⟨?p7,⟨?p8,⟨?p9,⟨?p10,⟨?p11,⟨?p12,⟨?p13,⟨?p14,⟨?p15,⟨?p16,⟨?p17,⟨?p18,⟨?p19,⟨?p20,⟨?p21,⟨?p22,⟨?p23,⟨?p24,⟨?p25,⟨?p26,⟨?p27,⟨?p28,⟨?p29,⟨?p30,⟨?p31,⟨?p32,⟨?p33,trivial⟩⟩⟩⟩⟩⟩⟩⟩⟩⟩⟩⟩⟩⟩⟩⟩⟩⟩⟩⟩⟩⟩⟩⟩⟩⟩⟩⟩⟩⟩⟩⟩⟩⟩
      case p0 | p2 | p3 | p8 | p9 | p18 | p19 | p25 | p26 | p32 | p33 =>
       intro x wx A i d k f m H K l;replace l:=hid l;clear f m d;repeat (obtain⟨_,k⟩:=k)
       refine so ?_;go_step;exact l.out _ _ rfl H
      case p1 =>
       intro x wx A i d k f m H K a;have e3:=tq f 0;have l:=hid a;clear a k f d;have B:wx.cell? ⟨g,0,none⟩=some (.int .u8 h.flags.toNat):=m _ N.out _ _ H;refine so ?_;go_step;exact l.out _ _ rfl H
      case p4 =>
       intro x wx A i d k f m H K a;have p:A.tmps[1]?.getD undef=.pointer (some ⟨g,0,none⟩):=Za k (1,_) (by simp) (by rfl);have o:=(f 3 (by decide)).1;have l:=hid a;clear a k f m d;refine sgT o ?_;go_step;exact l.out _ _ rfl H
      case p5 =>
       intro x wx A i d k f m H K a;have e7:=tq f 4;have o:=(f 3 (by decide)).1;have l:=hid a;clear a k f d;have B:wx.cell? ⟨g,4,none⟩=some (.slice A0 n c):=m _ G.out _ _ H;refine sgT o ?_;go_step;exact l.out _ _ rfl H
      case p6 =>
       intro x wx A i d k f m H K a;have e8:=tq f 5;have o:=(f 3 (by decide)).1;have l:=hid a;clear a k f m d;refine sgT o ?_;go_step;exact l.out _ _ rfl H
      case p7 =>
       intro x wx A i d k f m H K a;have e9:=tq f 6;have o:=(f 3 (by decide)).1;have l:=hid a;clear a k f m d;refine sgT o ?_;go_step;exact l.out _ _ rfl H
      case p10 =>
       intro x wx A i d k f m H K a;have p:A.tmps[1]?.getD undef=.pointer (some ⟨g,0,none⟩):=Za k (1,_) (by simp) (by rfl);have o:=(f 9 (by decide)).1;have l:=hid a;clear a k f d;have y:=m _ O.out _ _ H;refine sgT o ?_;exact Zc 47 _ rfl _ [.int .u8 h.flags.toNat,.int .u8 h.level.toNat,.int .u8 h.system.toNat,.int .u32 h.time,.slice A0 n c,.string (strOf h.name),.string (strOf h.note)] (ev p) y Tryz.isAgg47 Tryz.sizeOf47 (l.out _ _ rfl H)
      case p11 =>
       intro x wx A i d k f m H K a;have P:=tq f 10;have o:=(f 9 (by decide)).1;have l:Hid (∀(v:Value) (w' : World),(v=.bool true)->Sp w0 (i) w'->K (A.put (some 14) v) w'):=hid a;clear a k f m d;refine sgT o ?_;go_wp2_with fail
       refine((Zo h (.slice A0 n c) 4 (by omega) H)).mono ?_;rintro _ w9 ⟨rfl,z⟩;exact l.out _ _ (congrArg Value.bool I.out) z
      case p12 =>
       intro x wx A i d k f m H K a;have Q:=tq f 11;have o:=(f 9 (by decide)).1;have l:=hid a;clear a k f m d;refine sgT o ?_;go_step;exact l.out _ _ rfl H
      case p13 =>
       intro x wx A i d k f m H K a;have p:A.tmps[1]?.getD undef=.pointer (some ⟨g,0,none⟩):=Za k (1,_) (by simp) (by rfl);have o:=(f 12 (by decide)).1;have l:=hid a;clear a k f m d;refine⟨some true,by rw [o]; rfl,?_⟩;rw [if_neg (by decide)];exact l.out _ _ rfl H
      case p14 =>
       intro x wx A i d k f m H K a;have R:=tq f 13;have o:=(f 12 (by decide)).1;have l:=hid a;clear a k f m d;refine⟨some true,by rw [o]; rfl,?_⟩;rw [if_neg (by decide)];exact l.out _ _ rfl H
      case p15 =>
       intro x wx A i d k f m H K a;have S:=tq f 14;have o:=(f 12 (by decide)).1;have l:=hid a;clear a k f m d;refine⟨some true,by rw [o]; rfl,?_⟩;rw [if_neg (by decide)];exact l.out _ _ rfl H
      case p16 =>
       intro x wx A i d k f m H K a;have T:=tq f 15;have o:=(f 12 (by decide)).1;have l:=hid a;clear a k f m d;refine⟨some true,by rw [o]; rfl,?_⟩;rw [if_neg (by decide)];exact l.out _ _ rfl H
      case p17 =>
       intro x wx A i d k f m H K a;have U:=tq f 12;have V:=tq f 16;have o:=(f 9 (by decide)).1;have l:=hid a;clear a k f m d;refine sgT o ?_;go_step;exact l.out _ _ rfl H
      case p20 =>
       intro x wx A i d k f m H K a;have p:A.tmps[1]?.getD undef=.pointer (some ⟨g,0,none⟩):=Za k (1,_) (by simp) (by rfl);have o:=(f 19 (by decide)).1;have l:=hid a;clear a k f m d;refine sgT o ?_;go_step;exact l.out _ _ rfl H
      case p21 =>
       intro x wx A i d k f m H K a;have W:=tq f 20;have o:=(f 19 (by decide)).1;have l:=hid a;clear a k f d;have B:wx.cell? ⟨g,5,none⟩=some (.string (strOf h.name)):=m _ a9.out _ _ H;refine sgT o ?_;go_step;exact l.out _ _ rfl H
      case p22 =>
       intro x wx A i d k f m H K a;have p:A.tmps[1]?.getD undef=.pointer (some ⟨g,0,none⟩):=Za k (1,_) (by simp) (by rfl);have o:=(f 19 (by decide)).1;have l:=hid a;clear a k f d;have y:=m _ O.out _ _ H;refine sgT o ?_;exact Zc 47 _ rfl _ [.int .u8 h.flags.toNat,.int .u8 h.level.toNat,.int .u8 h.system.toNat,.int .u32 h.time,.slice A0 n c,.string (strOf h.name),.string (strOf h.note)] (ev p) y Tryz.isAgg47 Tryz.sizeOf47 (l.out _ _ rfl H)
      case p23 =>
       intro x wx A i d k f m H K a;have X:=tq f 22;have o:=(f 19 (by decide)).1;have l:Hid (∀(v:Value) (w' : World),(v=.bool M)->Sp w0 (i) w'->K (A.put (some 26) v) w'):=hid a;clear a k f m d;refine sgT o ?_;go_wp2_with fail
       refine((Zo h (.slice A0 n c) 8 (by omega) H)).mono ?_;rintro _ w9 ⟨rfl,z⟩;exact l.out _ _ (congrArg Value.bool a8.out) z
      case p24 =>
       intro x wx A i d k f m H K a;have Y:=tq f 21;have Z:=tq f 23;have o:=(f 19 (by decide)).1;have l:Hid (∀(v:Value) (w' : World),(v=.bool false)->Sp w0 (i) w'->K (A.put (some 27) v) w'):=hid a;clear a k f m d;refine sgT o ?_;go_wp2_with fail
       refine(Zy h.name M wx a7.out).mono ?_;rintro _ _ ⟨rfl,rfl⟩;exact l.out _ _ (congrArg Value.bool J.out) H
      case p27 =>
       intro x wx A i d k f m H K a;have p:A.tmps[1]?.getD undef=.pointer (some ⟨g,0,none⟩):=Za k (1,_) (by simp) (by rfl);have o:=(f 26 (by decide)).1;have l:=hid a;clear a k f m d;exact sgF o (l.out _ _ rfl H)
      case p28 =>
       intro x wx A i d k f m H K a;have a0:=tq f 27;have o:=(f 26 (by decide)).1;have l:=hid a;clear a k f m d;exact sgF o (l.out _ _ rfl H)
      case p29 =>
       intro x wx A i d k f m H K a;have p:A.tmps[1]?.getD undef=.pointer (some ⟨g,0,none⟩):=Za k (1,_) (by simp) (by rfl);have o:=(f 26 (by decide)).1;have l:=hid a;clear a k f m d;exact sgF o (l.out _ _ rfl H)
      case p30 =>
       intro x wx A i d k f m H K a;have a1:=tq f 29;have o:=(f 26 (by decide)).1;have l:=hid a;clear a k f m d;exact sgF o (l.out _ _ rfl H)
      case p31 =>
       intro x wx A i d k f m H K a;have a2:=tq f 28;have a3:=tq f 30;have o:=(f 26 (by decide)).1;have l:=hid a;clear a k f m d;exact sgF o (l.out _ _ rfl H)
     case hend =>
      intro x wx A F f H;replace H:Sp w0 (_::L) wx:=H;have u:x 33=.bool false:=f 33 (by decide);clear f;simp only [putAll,Act.put,List.setIfInBounds_toArray,List.set_cons_succ,List.set_cons_zero,Nat.reduceAdd] at F;subst F;rw [u];clear u;replace H:=H.tail;go_wp2_with fail
      go_ret;exact⟨congrArg (fun b=>Ending.returned (.bool b)) s.out.symm,H⟩
    | true =>
     have a4:=of_decide_eq_true ht8;rw [ht8] at J;clear ht8;cases ht16:decide (PG.textOk h.flags 16 h.note) with
     | false =>
      have s:decide (PG.Ok h)=false:=decide_eq_false fun t=>of_decide_eq_false ht16 t.2.2.2.2;rw [HR.out] at s;replace s:=hid s;rw [ht16] at E;clear ht16 a4;refine Zb (L:=Bk g 47 [.int .u8 h.flags.toNat,.int .u8 h.level.toNat,.int .u8 h.system.toNat,.int .u32 h.time,.slice A0 n c,.string (strOf h.name),.string (strOf h.note)]::L) [some (.pointer (some ⟨g,0,none⟩)),some (.int .u8 h.flags.toNat),some (.bool true),some (.bool true),some (.pointer (some ⟨g,4,none⟩)),some (.slice A0 n c),some (.int .i64 n),some (.bool true),some (.bool true),some (.bool true),some (.agg #[.int .u8 h.flags.toNat,.int .u8 h.level.toNat,.int .u8 h.system.toNat,.int .u32 h.time,.slice A0 n c,.string (strOf h.name),.string (strOf h.note)]),some (.bool true),some (.bool true),some (undef),some (undef),some (undef),some (undef),some (.bool true),some (.bool true),some (.bool true),some (.pointer (some ⟨g,5,none⟩)),some (.string (strOf h.name)),some (.agg #[.int .u8 h.flags.toNat,.int .u8 h.level.toNat,.int .u8 h.system.toNat,.int .u32 h.time,.slice A0 n c,.string (strOf h.name),.string (strOf h.note)]),some (.bool M),some (.bool true),some (.bool true),some (.bool true),some (.pointer (some ⟨g,6,none⟩)),some (.string (strOf h.note)),some (.agg #[.int .u8 h.flags.toNat,.int .u8 h.level.toNat,.int .u8 h.system.toNat,.int .u32 h.time,.slice A0 n c,.string (strOf h.name),.string (strOf h.note)]),some (.bool D),some (.bool false),some (.bool false),some (.bool false)] (fun _ _=>True) (fun _ _=>[]) (fun _=>[]) 34 36
       [some 3,some 4,some 5,some 6,some 7,some 8,some 9,some 10,some 11,some 12,some 13,some 14,some 15,some 16,some 17,some 18,some 19,some 20,some 21,some 22,some 23,some 24,some 25,some 26,some 27,some 28,some 29,some 30,some 31,some 32,some 33,some 34,some 35,some 2]
       [[],[0],[1],[2],[3],[4,3],[5,3],[6,3],[3,7],[8,3],[9],[10,9,9],[11,11,9],[12],[13,12],[14,12],[15,12],[12,16,9],[9,17],[18,12],[19],[20,19],[19],[22,19,19],[21,23,23,19],[19,24],[25,24],[26],[27,26],[26],[29,26,26],[28,30,30,26],[26,31],[32,31,0,1,2,3,4,5,6,7,8,9,10,11,12,13,14,15,16,17,18,19,20,21,22,23,24,25,26,27,28,29,30,31,32]]
       [[],[0],[0,1],[0,1,2],[0,1,2,3],[0,1,2,3,4],[0,1,2,3,4,5],[0,1,2,3,4,5,6],[0,1,2,3,4,5,6,7],[0,1,2,3,4,5,6,7,8],[0,1,2,3,4,5,6,7,8,9],[0,1,2,3,4,5,6,7,8,9,10],[0,1,2,3,4,5,6,7,8,9,10,11],[0,1,2,3,4,5,6,7,8,9,10,11,12],[0,1,2,3,4,5,6,7,8,9,10,11,12,13],[0,1,2,3,4,5,6,7,8,9,10,11,12,13,14],[0,1,2,3,4,5,6,7,8,9,10,11,12,13,14,15],[0,1,2,3,4,5,6,7,8,9,10,11,12,13,14,15,16],[0,1,2,3,4,5,6,7,8,9,10,11,12,13,14,15,16,17],[0,1,2,3,4,5,6,7,8,9,10,11,12,13,14,15,16,17,18],[0,1,2,3,4,5,6,7,8,9,10,11,12,13,14,15,16,17,18,19],[0,1,2,3,4,5,6,7,8,9,10,11,12,13,14,15,16,17,18,19,20],[0,1,2,3,4,5,6,7,8,9,10,11,12,13,14,15,16,17,18,19],[0,1,2,3,4,5,6,7,8,9,10,11,12,13,14,15,16,17,18,19,22],[0,1,2,3,4,5,6,7,8,9,10,11,12,13,14,15,16,17,18,19,20,21,22,23],[0,1,2,3,4,5,6,7,8,9,10,11,12,13,14,15,16,17,18,19,20,21,22,23,24],[0,1,2,3,4,5,6,7,8,9,10,11,12,13,14,15,16,17,18,19,20,21,22,23,24,25],[0,1,2,3,4,5,6,7,8,9,10,11,12,13,14,15,16,17,18,19,20,21,22,23,24,25,26],[0,1,2,3,4,5,6,7,8,9,10,11,12,13,14,15,16,17,18,19,20,21,22,23,24,25,26,27],[0,1,2,3,4,5,6,7,8,9,10,11,12,13,14,15,16,17,18,19,20,21,22,23,24,25,26],[0,1,2,3,4,5,6,7,8,9,10,11,12,13,14,15,16,17,18,19,20,21,22,23,24,25,26,29],[0,1,2,3,4,5,6,7,8,9,10,11,12,13,14,15,16,17,18,19,20,21,22,23,24,25,26,27,28,29,30],[0,1,2,3,4,5,6,7,8,9,10,11,12,13,14,15,16,17,18,19,20,21,22,23,24,25,26,27,28,29,30,31],[0,1,2,3,4,5,6,7,8,9,10,11,12,13,14,15,16,17,18,19,20,21,22,23,24,25,26,27,28,29,30,31,32]]
       [[],[],[],[],[],[],[],[],[],[],[],[],[],[],[],[],[],[],[],[],[],[],[],[],[],[],[],[],[],[],[],[],[],[]] [[],[],[],[],[],[],[],[],[],[],[],[],[],[],[],[],[],[],[],[],[],[],[],[],[],[],[],[],[],[],[],[],[],[]] [(1,.pointer (some ⟨g,0,none⟩))]
       (by kernel_rfl) rfl (by decide) (by rfl) (by decide +kernel) rfl rfl (by simp) (KK.out) ?hstep ?hend
      case hstep =>
       refine⟨?p0,⟨?p1,⟨?p2,⟨?p3,⟨?p4,⟨?p5,⟨?p6,⟨?p7,⟨?p8,⟨?p9,⟨?p10,⟨?p11,⟨?p12,⟨?p13,⟨?p14,⟨?p15,⟨?p16,⟨?p17,⟨?p18,⟨?p19,⟨?p20,⟨?p21,⟨?p22,⟨?p23,⟨?p24,⟨?p25,⟨?p26,⟨?p27,⟨?p28,⟨?p29,⟨?p30,⟨?p31,⟨?p32,⟨?p33,trivial⟩⟩⟩⟩⟩⟩⟩⟩⟩⟩⟩⟩⟩⟩⟩⟩⟩⟩⟩⟩⟩⟩⟩⟩⟩⟩⟩⟩⟩⟩⟩⟩⟩⟩
       case p0 | p2 | p3 | p8 | p9 | p18 | p19 | p25 | p26 | p32 | p33 =>
        intro x wx A i d k f m H K l;replace l:=hid l;clear f m d;repeat (obtain⟨_,k⟩:=k)
        refine so ?_;go_step;exact l.out _ _ rfl H
       case p1 =>
        intro x wx A i d k f m H K a;have e3:=tq f 0;have l:=hid a;clear a k f d;have B:wx.cell? ⟨g,0,none⟩=some (.int .u8 h.flags.toNat):=m _ N.out _ _ H;refine so ?_;go_step;exact l.out _ _ rfl H
       case p4 =>
        intro x wx A i d k f m H K a;have p:A.tmps[1]?.getD undef=.pointer (some ⟨g,0,none⟩):=Za k (1,_) (by simp) (by rfl);have o:=(f 3 (by decide)).1;have l:=hid a;clear a k f m d;refine sgT o ?_;go_step;exact l.out _ _ rfl H
       case p5 =>
        intro x wx A i d k f m H K a;have e7:=tq f 4;have o:=(f 3 (by decide)).1;have l:=hid a;clear a k f d;have B:wx.cell? ⟨g,4,none⟩=some (.slice A0 n c):=m _ G.out _ _ H;refine sgT o ?_;go_step;exact l.out _ _ rfl H
       case p6 =>
        intro x wx A i d k f m H K a;have e8:=tq f 5;have o:=(f 3 (by decide)).1;have l:=hid a;clear a k f m d;refine sgT o ?_;go_step;exact l.out _ _ rfl H
       case p7 =>
        intro x wx A i d k f m H K a;have e9:=tq f 6;have o:=(f 3 (by decide)).1;have l:=hid a;clear a k f m d;refine sgT o ?_;go_step;exact l.out _ _ rfl H
       case p10 =>
        intro x wx A i d k f m H K a;have p:A.tmps[1]?.getD undef=.pointer (some ⟨g,0,none⟩):=Za k (1,_) (by simp) (by rfl);have o:=(f 9 (by decide)).1;have l:=hid a;clear a k f d;have y:=m _ O.out _ _ H;refine sgT o ?_;exact Zc 47 _ rfl _ [.int .u8 h.flags.toNat,.int .u8 h.level.toNat,.int .u8 h.system.toNat,.int .u32 h.time,.slice A0 n c,.string (strOf h.name),.string (strOf h.note)] (ev p) y Tryz.isAgg47 Tryz.sizeOf47 (l.out _ _ rfl H)
       case p11 =>
        intro x wx A i d k f m H K a;have P:=tq f 10;have o:=(f 9 (by decide)).1;have l:Hid (∀(v:Value) (w' : World),(v=.bool true)->Sp w0 (i) w'->K (A.put (some 14) v) w'):=hid a;clear a k f m d;refine sgT o ?_;go_wp2_with fail
        refine((Zo h (.slice A0 n c) 4 (by omega) H)).mono ?_;rintro _ w9 ⟨rfl,z⟩;exact l.out _ _ (congrArg Value.bool I.out) z
       case p12 =>
        intro x wx A i d k f m H K a;have Q:=tq f 11;have o:=(f 9 (by decide)).1;have l:=hid a;clear a k f m d;refine sgT o ?_;go_step;exact l.out _ _ rfl H
       case p13 =>
        intro x wx A i d k f m H K a;have p:A.tmps[1]?.getD undef=.pointer (some ⟨g,0,none⟩):=Za k (1,_) (by simp) (by rfl);have o:=(f 12 (by decide)).1;have l:=hid a;clear a k f m d;refine⟨some true,by rw [o]; rfl,?_⟩;rw [if_neg (by decide)];exact l.out _ _ rfl H
       case p14 =>
        intro x wx A i d k f m H K a;have R:=tq f 13;have o:=(f 12 (by decide)).1;have l:=hid a;clear a k f m d;refine⟨some true,by rw [o]; rfl,?_⟩;rw [if_neg (by decide)];exact l.out _ _ rfl H
       case p15 =>
        intro x wx A i d k f m H K a;have S:=tq f 14;have o:=(f 12 (by decide)).1;have l:=hid a;clear a k f m d;refine⟨some true,by rw [o]; rfl,?_⟩;rw [if_neg (by decide)];exact l.out _ _ rfl H
       case p16 =>
        intro x wx A i d k f m H K a;have T:=tq f 15;have o:=(f 12 (by decide)).1;have l:=hid a;clear a k f m d;refine⟨some true,by rw [o]; rfl,?_⟩;rw [if_neg (by decide)];exact l.out _ _ rfl H
       case p17 =>
        intro x wx A i d k f m H K a;have U:=tq f 12;have V:=tq f 16;have o:=(f 9 (by decide)).1;have l:=hid a;clear a k f m d;refine sgT o ?_;go_step;exact l.out _ _ rfl H
       case p20 =>
        intro x wx A i d k f m H K a;have p:A.tmps[1]?.getD undef=.pointer (some ⟨g,0,none⟩):=Za k (1,_) (by simp) (by rfl);have o:=(f 19 (by decide)).1;have l:=hid a;clear a k f m d;refine sgT o ?_;go_step;exact l.out _ _ rfl H
       case p21 =>
        intro x wx A i d k f m H K a;have W:=tq f 20;have o:=(f 19 (by decide)).1;have l:=hid a;clear a k f d;have B:wx.cell? ⟨g,5,none⟩=some (.string (strOf h.name)):=m _ a9.out _ _ H;refine sgT o ?_;go_step;exact l.out _ _ rfl H
       case p22 =>
        intro x wx A i d k f m H K a;have p:A.tmps[1]?.getD undef=.pointer (some ⟨g,0,none⟩):=Za k (1,_) (by simp) (by rfl);have o:=(f 19 (by decide)).1;have l:=hid a;clear a k f d;have y:=m _ O.out _ _ H;refine sgT o ?_;exact Zc 47 _ rfl _ [.int .u8 h.flags.toNat,.int .u8 h.level.toNat,.int .u8 h.system.toNat,.int .u32 h.time,.slice A0 n c,.string (strOf h.name),.string (strOf h.note)] (ev p) y Tryz.isAgg47 Tryz.sizeOf47 (l.out _ _ rfl H)
       case p23 =>
        intro x wx A i d k f m H K a;have X:=tq f 22;have o:=(f 19 (by decide)).1;have l:Hid (∀(v:Value) (w' : World),(v=.bool M)->Sp w0 (i) w'->K (A.put (some 26) v) w'):=hid a;clear a k f m d;refine sgT o ?_;go_wp2_with fail
        refine((Zo h (.slice A0 n c) 8 (by omega) H)).mono ?_;rintro _ w9 ⟨rfl,z⟩;exact l.out _ _ (congrArg Value.bool a8.out) z
       case p24 =>
        intro x wx A i d k f m H K a;have Y:=tq f 21;have Z:=tq f 23;have o:=(f 19 (by decide)).1;have l:Hid (∀(v:Value) (w' : World),(v=.bool true)->Sp w0 (i) w'->K (A.put (some 27) v) w'):=hid a;clear a k f m d;refine sgT o ?_;go_wp2_with fail
        refine(Zy h.name M wx a7.out).mono ?_;rintro _ _ ⟨rfl,rfl⟩;exact l.out _ _ (congrArg Value.bool J.out) H
       case p27 =>
        intro x wx A i d k f m H K a;have p:A.tmps[1]?.getD undef=.pointer (some ⟨g,0,none⟩):=Za k (1,_) (by simp) (by rfl);have o:=(f 26 (by decide)).1;have l:=hid a;clear a k f m d;refine sgT o ?_;go_step;exact l.out _ _ rfl H
       case p28 =>
        intro x wx A i d k f m H K a;have a0:=tq f 27;have o:=(f 26 (by decide)).1;have l:=hid a;clear a k f d;have B:wx.cell? ⟨g,6,none⟩=some (.string (strOf h.note)):=m _ b1.out _ _ H;refine sgT o ?_;go_step;exact l.out _ _ rfl H
       case p29 =>
        intro x wx A i d k f m H K a;have p:A.tmps[1]?.getD undef=.pointer (some ⟨g,0,none⟩):=Za k (1,_) (by simp) (by rfl);have o:=(f 26 (by decide)).1;have l:=hid a;clear a k f d;have y:=m _ O.out _ _ H;refine sgT o ?_;exact Zc 47 _ rfl _ [.int .u8 h.flags.toNat,.int .u8 h.level.toNat,.int .u8 h.system.toNat,.int .u32 h.time,.slice A0 n c,.string (strOf h.name),.string (strOf h.note)] (ev p) y Tryz.isAgg47 Tryz.sizeOf47 (l.out _ _ rfl H)
       case p30 =>
        intro x wx A i d k f m H K a;have a1:=tq f 29;have o:=(f 26 (by decide)).1;have l:Hid (∀(v:Value) (w' : World),(v=.bool D)->Sp w0 (i) w'->K (A.put (some 33) v) w'):=hid a;clear a k f m d;refine sgT o ?_;go_wp2_with fail
        refine((Zo h (.slice A0 n c) 16 (by omega) H)).mono ?_;rintro _ w9 ⟨rfl,z⟩;exact l.out _ _ (congrArg Value.bool a6.out) z
       case p31 =>
        intro x wx A i d k f m H K a;have a2:=tq f 28;have a3:=tq f 30;have o:=(f 26 (by decide)).1;have l:Hid (∀(v:Value) (w' : World),(v=.bool false)->Sp w0 (i) w'->K (A.put (some 34) v) w'):=hid a;clear a k f m d;refine sgT o ?_;go_wp2_with fail
        refine(Zy h.note D wx a5.out).mono ?_;rintro _ _ ⟨rfl,rfl⟩;exact l.out _ _ (congrArg Value.bool E.out) H
      case hend =>
       intro x wx A F f H;replace H:Sp w0 (_::L) wx:=H;have u:x 33=.bool false:=f 33 (by decide);clear f;simp only [putAll,Act.put,List.setIfInBounds_toArray,List.set_cons_succ,List.set_cons_zero,Nat.reduceAdd] at F;subst F;rw [u];clear u;replace H:=H.tail;go_wp2_with fail
       go_ret;exact⟨congrArg (fun b=>Ending.returned (.bool b)) s.out.symm,H⟩
     | true =>
      have C:decide (PG.Ok h)=true:=decide_eq_true ⟨h1,by rw [HN.out]; exact h2,.inr I.out,a4,of_decide_eq_true ht16⟩;rw [HR.out] at C;replace C:=hid C;rw [ht16] at E;clear ht16 a4;refine Zb (L:=Bk g 47 [.int .u8 h.flags.toNat,.int .u8 h.level.toNat,.int .u8 h.system.toNat,.int .u32 h.time,.slice A0 n c,.string (strOf h.name),.string (strOf h.note)]::L) [some (.pointer (some ⟨g,0,none⟩)),some (.int .u8 h.flags.toNat),some (.bool true),some (.bool true),some (.pointer (some ⟨g,4,none⟩)),some (.slice A0 n c),some (.int .i64 n),some (.bool true),some (.bool true),some (.bool true),some (.agg #[.int .u8 h.flags.toNat,.int .u8 h.level.toNat,.int .u8 h.system.toNat,.int .u32 h.time,.slice A0 n c,.string (strOf h.name),.string (strOf h.note)]),some (.bool true),some (.bool true),some (undef),some (undef),some (undef),some (undef),some (.bool true),some (.bool true),some (.bool true),some (.pointer (some ⟨g,5,none⟩)),some (.string (strOf h.name)),some (.agg #[.int .u8 h.flags.toNat,.int .u8 h.level.toNat,.int .u8 h.system.toNat,.int .u32 h.time,.slice A0 n c,.string (strOf h.name),.string (strOf h.note)]),some (.bool M),some (.bool true),some (.bool true),some (.bool true),some (.pointer (some ⟨g,6,none⟩)),some (.string (strOf h.note)),some (.agg #[.int .u8 h.flags.toNat,.int .u8 h.level.toNat,.int .u8 h.system.toNat,.int .u32 h.time,.slice A0 n c,.string (strOf h.name),.string (strOf h.note)]),some (.bool D),some (.bool true),some (.bool true),some (.bool true)] (fun _ _=>True) (fun _ _=>[]) (fun _=>[]) 34 36
       [some 3,some 4,some 5,some 6,some 7,some 8,some 9,some 10,some 11,some 12,some 13,some 14,some 15,some 16,some 17,some 18,some 19,some 20,some 21,some 22,some 23,some 24,some 25,some 26,some 27,some 28,some 29,some 30,some 31,some 32,some 33,some 34,some 35,some 2]
       [[],[0],[1],[2],[3],[4,3],[5,3],[6,3],[3,7],[8,3],[9],[10,9,9],[11,11,9],[12],[13,12],[14,12],[15,12],[12,16,9],[9,17],[18,12],[19],[20,19],[19],[22,19,19],[21,23,23,19],[19,24],[25,24],[26],[27,26],[26],[29,26,26],[28,30,30,26],[26,31],[32,31,0,1,2,3,4,5,6,7,8,9,10,11,12,13,14,15,16,17,18,19,20,21,22,23,24,25,26,27,28,29,30,31,32]]
       [[],[0],[0,1],[0,1,2],[0,1,2,3],[0,1,2,3,4],[0,1,2,3,4,5],[0,1,2,3,4,5,6],[0,1,2,3,4,5,6,7],[0,1,2,3,4,5,6,7,8],[0,1,2,3,4,5,6,7,8,9],[0,1,2,3,4,5,6,7,8,9,10],[0,1,2,3,4,5,6,7,8,9,10,11],[0,1,2,3,4,5,6,7,8,9,10,11,12],[0,1,2,3,4,5,6,7,8,9,10,11,12,13],[0,1,2,3,4,5,6,7,8,9,10,11,12,13,14],[0,1,2,3,4,5,6,7,8,9,10,11,12,13,14,15],[0,1,2,3,4,5,6,7,8,9,10,11,12,13,14,15,16],[0,1,2,3,4,5,6,7,8,9,10,11,12,13,14,15,16,17],[0,1,2,3,4,5,6,7,8,9,10,11,12,13,14,15,16,17,18],[0,1,2,3,4,5,6,7,8,9,10,11,12,13,14,15,16,17,18,19],[0,1,2,3,4,5,6,7,8,9,10,11,12,13,14,15,16,17,18,19,20],[0,1,2,3,4,5,6,7,8,9,10,11,12,13,14,15,16,17,18,19],[0,1,2,3,4,5,6,7,8,9,10,11,12,13,14,15,16,17,18,19,22],[0,1,2,3,4,5,6,7,8,9,10,11,12,13,14,15,16,17,18,19,20,21,22,23],[0,1,2,3,4,5,6,7,8,9,10,11,12,13,14,15,16,17,18,19,20,21,22,23,24],[0,1,2,3,4,5,6,7,8,9,10,11,12,13,14,15,16,17,18,19,20,21,22,23,24,25],[0,1,2,3,4,5,6,7,8,9,10,11,12,13,14,15,16,17,18,19,20,21,22,23,24,25,26],[0,1,2,3,4,5,6,7,8,9,10,11,12,13,14,15,16,17,18,19,20,21,22,23,24,25,26,27],[0,1,2,3,4,5,6,7,8,9,10,11,12,13,14,15,16,17,18,19,20,21,22,23,24,25,26],[0,1,2,3,4,5,6,7,8,9,10,11,12,13,14,15,16,17,18,19,20,21,22,23,24,25,26,29],[0,1,2,3,4,5,6,7,8,9,10,11,12,13,14,15,16,17,18,19,20,21,22,23,24,25,26,27,28,29,30],[0,1,2,3,4,5,6,7,8,9,10,11,12,13,14,15,16,17,18,19,20,21,22,23,24,25,26,27,28,29,30,31],[0,1,2,3,4,5,6,7,8,9,10,11,12,13,14,15,16,17,18,19,20,21,22,23,24,25,26,27,28,29,30,31,32]]
       [[],[],[],[],[],[],[],[],[],[],[],[],[],[],[],[],[],[],[],[],[],[],[],[],[],[],[],[],[],[],[],[],[],[]] [[],[],[],[],[],[],[],[],[],[],[],[],[],[],[],[],[],[],[],[],[],[],[],[],[],[],[],[],[],[],[],[],[],[]] [(1,.pointer (some ⟨g,0,none⟩))]
       (by kernel_rfl) rfl (by decide) (by rfl) (by decide +kernel) rfl rfl (by simp) (KK.out) ?hstep ?hend
      case hstep =>
       refine⟨?p0,⟨?p1,⟨?p2,⟨?p3,⟨?p4,⟨?p5,⟨?p6,⟨?p7,⟨?p8,⟨?p9,⟨?p10,⟨?p11,⟨?p12,⟨?p13,⟨?p14,⟨?p15,⟨?p16,⟨?p17,⟨?p18,⟨?p19,⟨?p20,⟨?p21,⟨?p22,⟨?p23,⟨?p24,⟨?p25,⟨?p26,⟨?p27,⟨?p28,⟨?p29,⟨?p30,⟨?p31,⟨?p32,⟨?p33,trivial⟩⟩⟩⟩⟩⟩⟩⟩⟩⟩⟩⟩⟩⟩⟩⟩⟩⟩⟩⟩⟩⟩⟩⟩⟩⟩⟩⟩⟩⟩⟩⟩⟩⟩
       case p0 | p2 | p3 | p8 | p9 | p18 | p19 | p25 | p26 | p32 | p33 =>
        intro x wx A i d k f m H K l;replace l:=hid l;clear f m d;repeat (obtain⟨_,k⟩:=k)
        refine so ?_;go_step;exact l.out _ _ rfl H
       case p1 =>
        intro x wx A i d k f m H K a;have e3:=tq f 0;have l:=hid a;clear a k f d;have B:wx.cell? ⟨g,0,none⟩=some (.int .u8 h.flags.toNat):=m _ N.out _ _ H;refine so ?_;go_step;exact l.out _ _ rfl H
       case p4 =>
        intro x wx A i d k f m H K a;have p:A.tmps[1]?.getD undef=.pointer (some ⟨g,0,none⟩):=Za k (1,_) (by simp) (by rfl);have o:=(f 3 (by decide)).1;have l:=hid a;clear a k f m d;refine sgT o ?_;go_step;exact l.out _ _ rfl H
       case p5 =>
        intro x wx A i d k f m H K a;have e7:=tq f 4;have o:=(f 3 (by decide)).1;have l:=hid a;clear a k f d;have B:wx.cell? ⟨g,4,none⟩=some (.slice A0 n c):=m _ G.out _ _ H;refine sgT o ?_;go_step;exact l.out _ _ rfl H
       case p6 =>
        intro x wx A i d k f m H K a;have e8:=tq f 5;have o:=(f 3 (by decide)).1;have l:=hid a;clear a k f m d;refine sgT o ?_;go_step;exact l.out _ _ rfl H
       case p7 =>
        intro x wx A i d k f m H K a;have e9:=tq f 6;have o:=(f 3 (by decide)).1;have l:=hid a;clear a k f m d;refine sgT o ?_;go_step;exact l.out _ _ rfl H
       case p10 =>
        intro x wx A i d k f m H K a;have p:A.tmps[1]?.getD undef=.pointer (some ⟨g,0,none⟩):=Za k (1,_) (by simp) (by rfl);have o:=(f 9 (by decide)).1;have l:=hid a;clear a k f d;have y:=m _ O.out _ _ H;refine sgT o ?_;exact Zc 47 _ rfl _ [.int .u8 h.flags.toNat,.int .u8 h.level.toNat,.int .u8 h.system.toNat,.int .u32 h.time,.slice A0 n c,.string (strOf h.name),.string (strOf h.note)] (ev p) y Tryz.isAgg47 Tryz.sizeOf47 (l.out _ _ rfl H)
       case p11 =>
        intro x wx A i d k f m H K a;have P:=tq f 10;have o:=(f 9 (by decide)).1;have l:Hid (∀(v:Value) (w' : World),(v=.bool true)->Sp w0 (i) w'->K (A.put (some 14) v) w'):=hid a;clear a k f m d;refine sgT o ?_;go_wp2_with fail
        refine((Zo h (.slice A0 n c) 4 (by omega) H)).mono ?_;rintro _ w9 ⟨rfl,z⟩;exact l.out _ _ (congrArg Value.bool I.out) z
       case p12 =>
        intro x wx A i d k f m H K a;have Q:=tq f 11;have o:=(f 9 (by decide)).1;have l:=hid a;clear a k f m d;refine sgT o ?_;go_step;exact l.out _ _ rfl H
       case p13 =>
        intro x wx A i d k f m H K a;have p:A.tmps[1]?.getD undef=.pointer (some ⟨g,0,none⟩):=Za k (1,_) (by simp) (by rfl);have o:=(f 12 (by decide)).1;have l:=hid a;clear a k f m d;refine⟨some true,by rw [o]; rfl,?_⟩;rw [if_neg (by decide)];exact l.out _ _ rfl H
       case p14 =>
        intro x wx A i d k f m H K a;have R:=tq f 13;have o:=(f 12 (by decide)).1;have l:=hid a;clear a k f m d;refine⟨some true,by rw [o]; rfl,?_⟩;rw [if_neg (by decide)];exact l.out _ _ rfl H
       case p15 =>
        intro x wx A i d k f m H K a;have S:=tq f 14;have o:=(f 12 (by decide)).1;have l:=hid a;clear a k f m d;refine⟨some true,by rw [o]; rfl,?_⟩;rw [if_neg (by decide)];exact l.out _ _ rfl H
       case p16 =>
        intro x wx A i d k f m H K a;have T:=tq f 15;have o:=(f 12 (by decide)).1;have l:=hid a;clear a k f m d;refine⟨some true,by rw [o]; rfl,?_⟩;rw [if_neg (by decide)];exact l.out _ _ rfl H
       case p17 =>
        intro x wx A i d k f m H K a;have U:=tq f 12;have V:=tq f 16;have o:=(f 9 (by decide)).1;have l:=hid a;clear a k f m d;refine sgT o ?_;go_step;exact l.out _ _ rfl H
       case p20 =>
        intro x wx A i d k f m H K a;have p:A.tmps[1]?.getD undef=.pointer (some ⟨g,0,none⟩):=Za k (1,_) (by simp) (by rfl);have o:=(f 19 (by decide)).1;have l:=hid a;clear a k f m d;refine sgT o ?_;go_step;exact l.out _ _ rfl H
       case p21 =>
        intro x wx A i d k f m H K a;have W:=tq f 20;have o:=(f 19 (by decide)).1;have l:=hid a;clear a k f d;have B:wx.cell? ⟨g,5,none⟩=some (.string (strOf h.name)):=m _ a9.out _ _ H;refine sgT o ?_;go_step;exact l.out _ _ rfl H
       case p22 =>
        intro x wx A i d k f m H K a;have p:A.tmps[1]?.getD undef=.pointer (some ⟨g,0,none⟩):=Za k (1,_) (by simp) (by rfl);have o:=(f 19 (by decide)).1;have l:=hid a;clear a k f d;have y:=m _ O.out _ _ H;refine sgT o ?_;exact Zc 47 _ rfl _ [.int .u8 h.flags.toNat,.int .u8 h.level.toNat,.int .u8 h.system.toNat,.int .u32 h.time,.slice A0 n c,.string (strOf h.name),.string (strOf h.note)] (ev p) y Tryz.isAgg47 Tryz.sizeOf47 (l.out _ _ rfl H)
       case p23 =>
        intro x wx A i d k f m H K a;have X:=tq f 22;have o:=(f 19 (by decide)).1;have l:Hid (∀(v:Value) (w' : World),(v=.bool M)->Sp w0 (i) w'->K (A.put (some 26) v) w'):=hid a;clear a k f m d;refine sgT o ?_;go_wp2_with fail
        refine((Zo h (.slice A0 n c) 8 (by omega) H)).mono ?_;rintro _ w9 ⟨rfl,z⟩;exact l.out _ _ (congrArg Value.bool a8.out) z
       case p24 =>
        intro x wx A i d k f m H K a;have Y:=tq f 21;have Z:=tq f 23;have o:=(f 19 (by decide)).1;have l:Hid (∀(v:Value) (w' : World),(v=.bool true)->Sp w0 (i) w'->K (A.put (some 27) v) w'):=hid a;clear a k f m d;refine sgT o ?_;go_wp2_with fail
        refine(Zy h.name M wx a7.out).mono ?_;rintro _ _ ⟨rfl,rfl⟩;exact l.out _ _ (congrArg Value.bool J.out) H
       case p27 =>
        intro x wx A i d k f m H K a;have p:A.tmps[1]?.getD undef=.pointer (some ⟨g,0,none⟩):=Za k (1,_) (by simp) (by rfl);have o:=(f 26 (by decide)).1;have l:=hid a;clear a k f m d;refine sgT o ?_;go_step;exact l.out _ _ rfl H
       case p28 =>
        intro x wx A i d k f m H K a;have a0:=tq f 27;have o:=(f 26 (by decide)).1;have l:=hid a;clear a k f d;have B:wx.cell? ⟨g,6,none⟩=some (.string (strOf h.note)):=m _ b1.out _ _ H;refine sgT o ?_;go_step;exact l.out _ _ rfl H
       case p29 =>
        intro x wx A i d k f m H K a;have p:A.tmps[1]?.getD undef=.pointer (some ⟨g,0,none⟩):=Za k (1,_) (by simp) (by rfl);have o:=(f 26 (by decide)).1;have l:=hid a;clear a k f d;have y:=m _ O.out _ _ H;refine sgT o ?_;exact Zc 47 _ rfl _ [.int .u8 h.flags.toNat,.int .u8 h.level.toNat,.int .u8 h.system.toNat,.int .u32 h.time,.slice A0 n c,.string (strOf h.name),.string (strOf h.note)] (ev p) y Tryz.isAgg47 Tryz.sizeOf47 (l.out _ _ rfl H)
       case p30 =>
        intro x wx A i d k f m H K a;have a1:=tq f 29;have o:=(f 26 (by decide)).1;have l:Hid (∀(v:Value) (w' : World),(v=.bool D)->Sp w0 (i) w'->K (A.put (some 33) v) w'):=hid a;clear a k f m d;refine sgT o ?_;go_wp2_with fail
        refine((Zo h (.slice A0 n c) 16 (by omega) H)).mono ?_;rintro _ w9 ⟨rfl,z⟩;exact l.out _ _ (congrArg Value.bool a6.out) z
       case p31 =>
        intro x wx A i d k f m H K a;have a2:=tq f 28;have a3:=tq f 30;have o:=(f 26 (by decide)).1;have l:Hid (∀(v:Value) (w' : World),(v=.bool true)->Sp w0 (i) w'->K (A.put (some 34) v) w'):=hid a;clear a k f m d;refine sgT o ?_;go_wp2_with fail
        refine(Zy h.note D wx a5.out).mono ?_;rintro _ _ ⟨rfl,rfl⟩;exact l.out _ _ (congrArg Value.bool E.out) H
      case hend =>
       intro x wx A F f H;replace H:Sp w0 (_::L) wx:=H;have u:x 33=.bool true:=f 33 (by decide);clear f;simp only [putAll,Act.put,List.setIfInBounds_toArray,List.set_cons_succ,List.set_cons_zero,Nat.reduceAdd] at F;subst F;rw [u];clear u;replace H:=H.tail;go_wp2_with fail
       go_ret;exact⟨congrArg (fun b=>Ending.returned (.bool b)) C.out.symm,H⟩
  ·have y2:¬ (n:Int)<=65535:=by omega
   have s:decide (PG.Ok h)=false:=decide_eq_false fun t=>h2 (by rw [<- HN.out]; exact t.2.1);rw [HR.out] at s;replace s:=hid s;refine Zb (L:=Bk g 47 [.int .u8 h.flags.toNat,.int .u8 h.level.toNat,.int .u8 h.system.toNat,.int .u32 h.time,.slice A0 n c,.string (strOf h.name),.string (strOf h.note)]::L) [some (.pointer (some ⟨g,0,none⟩)),some (.int .u8 h.flags.toNat),some (.bool true),some (.bool true),some (.pointer (some ⟨g,4,none⟩)),some (.slice A0 n c),some (.int .i64 n),some (.bool false),some (.bool false),some (.bool false),some (undef),some (undef),some (undef),some (undef),some (undef),some (undef),some (undef),some (undef),some (.bool false),some (.bool false),some (undef),some (undef),some (undef),some (undef),some (undef),some (.bool false),some (.bool false),some (undef),some (undef),some (undef),some (undef),some (undef),some (.bool false),some (.bool false)] (fun _ _=>True) (fun _ _=>[]) (fun _=>[]) 34 36
    [some 3,some 4,some 5,some 6,some 7,some 8,some 9,some 10,some 11,some 12,some 13,some 14,some 15,some 16,some 17,some 18,some 19,some 20,some 21,some 22,some 23,some 24,some 25,some 26,some 27,some 28,some 29,some 30,some 31,some 32,some 33,some 34,some 35,some 2]
    [[],[0],[1],[2],[3],[4,3],[5,3],[6,3],[3,7],[8,3],[9],[10,9,9],[11,11,9],[12],[13,12],[14,12],[15,12],[12,16,9],[9,17],[18,12],[19],[20,19],[19],[22,19,19],[21,23,23,19],[19,24],[25,24],[26],[27,26],[26],[29,26,26],[28,30,30,26],[26,31],[32,31,0,1,2,3,4,5,6,7,8,9,10,11,12,13,14,15,16,17,18,19,20,21,22,23,24,25,26,27,28,29,30,31,32]]
    [[],[0],[0,1],[0,1,2],[0,1,2,3],[0,1,2,3,4],[0,1,2,3,4,5],[0,1,2,3,4,5,6],[0,1,2,3,4,5,6,7],[0,1,2,3,4,5,6,7,8],[0,1,2,3,4,5,6,7,8,9],[0,1,2,3,4,5,6,7,8,9,10],[0,1,2,3,4,5,6,7,8,9,10,11],[0,1,2,3,4,5,6,7,8,9,10,11,12],[0,1,2,3,4,5,6,7,8,9,10,11,12,13],[0,1,2,3,4,5,6,7,8,9,10,11,12,13,14],[0,1,2,3,4,5,6,7,8,9,10,11,12,13,14,15],[0,1,2,3,4,5,6,7,8,9,10,11,12,13,14,15,16],[0,1,2,3,4,5,6,7,8,9,10,11,12,13,14,15,16,17],[0,1,2,3,4,5,6,7,8,9,10,11,12,13,14,15,16,17,18],[0,1,2,3,4,5,6,7,8,9,10,11,12,13,14,15,16,17,18,19],[0,1,2,3,4,5,6,7,8,9,10,11,12,13,14,15,16,17,18,19,20],[0,1,2,3,4,5,6,7,8,9,10,11,12,13,14,15,16,17,18,19],[0,1,2,3,4,5,6,7,8,9,10,11,12,13,14,15,16,17,18,19,22],[0,1,2,3,4,5,6,7,8,9,10,11,12,13,14,15,16,17,18,19,20,21,22,23],[0,1,2,3,4,5,6,7,8,9,10,11,12,13,14,15,16,17,18,19,20,21,22,23,24],[0,1,2,3,4,5,6,7,8,9,10,11,12,13,14,15,16,17,18,19,20,21,22,23,24,25],[0,1,2,3,4,5,6,7,8,9,10,11,12,13,14,15,16,17,18,19,20,21,22,23,24,25,26],[0,1,2,3,4,5,6,7,8,9,10,11,12,13,14,15,16,17,18,19,20,21,22,23,24,25,26,27],[0,1,2,3,4,5,6,7,8,9,10,11,12,13,14,15,16,17,18,19,20,21,22,23,24,25,26],[0,1,2,3,4,5,6,7,8,9,10,11,12,13,14,15,16,17,18,19,20,21,22,23,24,25,26,29],[0,1,2,3,4,5,6,7,8,9,10,11,12,13,14,15,16,17,18,19,20,21,22,23,24,25,26,27,28,29,30],[0,1,2,3,4,5,6,7,8,9,10,11,12,13,14,15,16,17,18,19,20,21,22,23,24,25,26,27,28,29,30,31],[0,1,2,3,4,5,6,7,8,9,10,11,12,13,14,15,16,17,18,19,20,21,22,23,24,25,26,27,28,29,30,31,32]]
    [[],[],[],[],[],[],[],[],[],[],[],[],[],[],[],[],[],[],[],[],[],[],[],[],[],[],[],[],[],[],[],[],[],[]] [[],[],[],[],[],[],[],[],[],[],[],[],[],[],[],[],[],[],[],[],[],[],[],[],[],[],[],[],[],[],[],[],[],[]] [(1,.pointer (some ⟨g,0,none⟩))]
    (by kernel_rfl) rfl (by decide) (by rfl) (by decide +kernel) rfl rfl (by simp) (KK.out) ?hstep ?hend
   case hstep =>
    refine⟨?p0,⟨?p1,⟨?p2,⟨?p3,⟨?p4,⟨?p5,⟨?p6,⟨?p7,⟨?p8,⟨?p9,⟨?p10,⟨?p11,⟨?p12,⟨?p13,⟨?p14,⟨?p15,⟨?p16,⟨?p17,⟨?p18,⟨?p19,⟨?p20,⟨?p21,⟨?p22,⟨?p23,⟨?p24,⟨?p25,⟨?p26,⟨?p27,⟨?p28,⟨?p29,⟨?p30,⟨?p31,⟨?p32,⟨?p33,trivial⟩⟩⟩⟩⟩⟩⟩⟩⟩⟩⟩⟩⟩⟩⟩⟩⟩⟩⟩⟩⟩⟩⟩⟩⟩⟩⟩⟩⟩⟩⟩⟩⟩⟩
    case p0 | p2 | p3 | p8 | p9 | p18 | p19 | p25 | p26 | p32 | p33 =>
     intro x wx A i d k f m H K l;replace l:=hid l;clear f m d;repeat (obtain⟨_,k⟩:=k)
     refine so ?_;go_step;exact l.out _ _ rfl H
    case p1 =>
     intro x wx A i d k f m H K a;have e3:=tq f 0;have l:=hid a;clear a k f d;have B:wx.cell? ⟨g,0,none⟩=some (.int .u8 h.flags.toNat):=m _ N.out _ _ H;refine so ?_;go_step;exact l.out _ _ rfl H
    case p4 =>
     intro x wx A i d k f m H K a;have p:A.tmps[1]?.getD undef=.pointer (some ⟨g,0,none⟩):=Za k (1,_) (by simp) (by rfl);have o:=(f 3 (by decide)).1;have l:=hid a;clear a k f m d;refine sgT o ?_;go_step;exact l.out _ _ rfl H
    case p5 =>
     intro x wx A i d k f m H K a;have e7:=tq f 4;have o:=(f 3 (by decide)).1;have l:=hid a;clear a k f d;have B:wx.cell? ⟨g,4,none⟩=some (.slice A0 n c):=m _ G.out _ _ H;refine sgT o ?_;go_step;exact l.out _ _ rfl H
    case p6 =>
     intro x wx A i d k f m H K a;have e8:=tq f 5;have o:=(f 3 (by decide)).1;have l:=hid a;clear a k f m d;refine sgT o ?_;go_step;exact l.out _ _ rfl H
    case p7 =>
     intro x wx A i d k f m H K a;have e9:=tq f 6;have o:=(f 3 (by decide)).1;have l:=hid a;clear a k f m d;refine sgT o ?_;go_step;exact l.out _ _ rfl H
    case p10 =>
     intro x wx A i d k f m H K a;have p:A.tmps[1]?.getD undef=.pointer (some ⟨g,0,none⟩):=Za k (1,_) (by simp) (by rfl);have o:=(f 9 (by decide)).1;have l:=hid a;clear a k f m d;exact sgF o (l.out _ _ rfl H)
    case p11 =>
     intro x wx A i d k f m H K a;have P:=tq f 10;have o:=(f 9 (by decide)).1;have l:=hid a;clear a k f m d;exact sgF o (l.out _ _ rfl H)
    case p12 =>
     intro x wx A i d k f m H K a;have Q:=tq f 11;have o:=(f 9 (by decide)).1;have l:=hid a;clear a k f m d;exact sgF o (l.out _ _ rfl H)
    case p13 =>
     intro x wx A i d k f m H K a;have p:A.tmps[1]?.getD undef=.pointer (some ⟨g,0,none⟩):=Za k (1,_) (by simp) (by rfl);have o:=(f 12 (by decide)).1;have l:=hid a;clear a k f m d;refine⟨none,by rw [o]; rfl,?_⟩;rw [if_neg (by decide)];exact l.out _ _ rfl H
    case p14 =>
     intro x wx A i d k f m H K a;have R:=tq f 13;have o:=(f 12 (by decide)).1;have l:=hid a;clear a k f m d;refine⟨none,by rw [o]; rfl,?_⟩;rw [if_neg (by decide)];exact l.out _ _ rfl H
    case p15 =>
     intro x wx A i d k f m H K a;have S:=tq f 14;have o:=(f 12 (by decide)).1;have l:=hid a;clear a k f m d;refine⟨none,by rw [o]; rfl,?_⟩;rw [if_neg (by decide)];exact l.out _ _ rfl H
    case p16 =>
     intro x wx A i d k f m H K a;have T:=tq f 15;have o:=(f 12 (by decide)).1;have l:=hid a;clear a k f m d;refine⟨none,by rw [o]; rfl,?_⟩;rw [if_neg (by decide)];exact l.out _ _ rfl H
    case p17 =>
     intro x wx A i d k f m H K a;have U:=tq f 12;have V:=tq f 16;have o:=(f 9 (by decide)).1;have l:=hid a;clear a k f m d;exact sgF o (l.out _ _ rfl H)
    case p20 =>
     intro x wx A i d k f m H K a;have p:A.tmps[1]?.getD undef=.pointer (some ⟨g,0,none⟩):=Za k (1,_) (by simp) (by rfl);have o:=(f 19 (by decide)).1;have l:=hid a;clear a k f m d;exact sgF o (l.out _ _ rfl H)
    case p21 =>
     intro x wx A i d k f m H K a;have W:=tq f 20;have o:=(f 19 (by decide)).1;have l:=hid a;clear a k f m d;exact sgF o (l.out _ _ rfl H)
    case p22 =>
     intro x wx A i d k f m H K a;have p:A.tmps[1]?.getD undef=.pointer (some ⟨g,0,none⟩):=Za k (1,_) (by simp) (by rfl);have o:=(f 19 (by decide)).1;have l:=hid a;clear a k f m d;exact sgF o (l.out _ _ rfl H)
    case p23 =>
     intro x wx A i d k f m H K a;have X:=tq f 22;have o:=(f 19 (by decide)).1;have l:=hid a;clear a k f m d;exact sgF o (l.out _ _ rfl H)
    case p24 =>
     intro x wx A i d k f m H K a;have Y:=tq f 21;have Z:=tq f 23;have o:=(f 19 (by decide)).1;have l:=hid a;clear a k f m d;exact sgF o (l.out _ _ rfl H)
    case p27 =>
     intro x wx A i d k f m H K a;have p:A.tmps[1]?.getD undef=.pointer (some ⟨g,0,none⟩):=Za k (1,_) (by simp) (by rfl);have o:=(f 26 (by decide)).1;have l:=hid a;clear a k f m d;exact sgF o (l.out _ _ rfl H)
    case p28 =>
     intro x wx A i d k f m H K a;have a0:=tq f 27;have o:=(f 26 (by decide)).1;have l:=hid a;clear a k f m d;exact sgF o (l.out _ _ rfl H)
    case p29 =>
     intro x wx A i d k f m H K a;have p:A.tmps[1]?.getD undef=.pointer (some ⟨g,0,none⟩):=Za k (1,_) (by simp) (by rfl);have o:=(f 26 (by decide)).1;have l:=hid a;clear a k f m d;exact sgF o (l.out _ _ rfl H)
    case p30 =>
     intro x wx A i d k f m H K a;have a1:=tq f 29;have o:=(f 26 (by decide)).1;have l:=hid a;clear a k f m d;exact sgF o (l.out _ _ rfl H)
    case p31 =>
     intro x wx A i d k f m H K a;have a2:=tq f 28;have a3:=tq f 30;have o:=(f 26 (by decide)).1;have l:=hid a;clear a k f m d;exact sgF o (l.out _ _ rfl H)
   case hend =>
    intro x wx A F f H;replace H:Sp w0 (_::L) wx:=H;have u:x 33=.bool false:=f 33 (by decide);clear f;simp only [putAll,Act.put,List.setIfInBounds_toArray,List.set_cons_succ,List.set_cons_zero,Nat.reduceAdd] at F;subst F;rw [u];clear u;replace H:=H.tail;go_wp2_with fail
    go_ret;exact⟨congrArg (fun b=>Ending.returned (.bool b)) s.out.symm,H⟩
 ·have y1:¬ (h.flags.toNat:Int)<32:=by omega
  have s:decide (PG.Ok h)=false:=decide_eq_false fun t=>h1 t.1;rw [HR.out] at s;replace s:=hid s;refine Zb (L:=Bk g 47 [.int .u8 h.flags.toNat,.int .u8 h.level.toNat,.int .u8 h.system.toNat,.int .u32 h.time,.slice A0 n c,.string (strOf h.name),.string (strOf h.note)]::L) [some (.pointer (some ⟨g,0,none⟩)),some (.int .u8 h.flags.toNat),some (.bool false),some (.bool false),some (undef),some (undef),some (undef),some (undef),some (.bool false),some (.bool false),some (undef),some (undef),some (undef),some (undef),some (undef),some (undef),some (undef),some (undef),some (.bool false),some (.bool false),some (undef),some (undef),some (undef),some (undef),some (undef),some (.bool false),some (.bool false),some (undef),some (undef),some (undef),some (undef),some (undef),some (.bool false),some (.bool false)] (fun _ _=>True) (fun _ _=>[]) (fun _=>[]) 34 36
   [some 3,some 4,some 5,some 6,some 7,some 8,some 9,some 10,some 11,some 12,some 13,some 14,some 15,some 16,some 17,some 18,some 19,some 20,some 21,some 22,some 23,some 24,some 25,some 26,some 27,some 28,some 29,some 30,some 31,some 32,some 33,some 34,some 35,some 2]
   [[],[0],[1],[2],[3],[4,3],[5,3],[6,3],[3,7],[8,3],[9],[10,9,9],[11,11,9],[12],[13,12],[14,12],[15,12],[12,16,9],[9,17],[18,12],[19],[20,19],[19],[22,19,19],[21,23,23,19],[19,24],[25,24],[26],[27,26],[26],[29,26,26],[28,30,30,26],[26,31],[32,31,0,1,2,3,4,5,6,7,8,9,10,11,12,13,14,15,16,17,18,19,20,21,22,23,24,25,26,27,28,29,30,31,32]]
   [[],[0],[0,1],[0,1,2],[0,1,2,3],[0,1,2,3,4],[0,1,2,3,4,5],[0,1,2,3,4,5,6],[0,1,2,3,4,5,6,7],[0,1,2,3,4,5,6,7,8],[0,1,2,3,4,5,6,7,8,9],[0,1,2,3,4,5,6,7,8,9,10],[0,1,2,3,4,5,6,7,8,9,10,11],[0,1,2,3,4,5,6,7,8,9,10,11,12],[0,1,2,3,4,5,6,7,8,9,10,11,12,13],[0,1,2,3,4,5,6,7,8,9,10,11,12,13,14],[0,1,2,3,4,5,6,7,8,9,10,11,12,13,14,15],[0,1,2,3,4,5,6,7,8,9,10,11,12,13,14,15,16],[0,1,2,3,4,5,6,7,8,9,10,11,12,13,14,15,16,17],[0,1,2,3,4,5,6,7,8,9,10,11,12,13,14,15,16,17,18],[0,1,2,3,4,5,6,7,8,9,10,11,12,13,14,15,16,17,18,19],[0,1,2,3,4,5,6,7,8,9,10,11,12,13,14,15,16,17,18,19,20],[0,1,2,3,4,5,6,7,8,9,10,11,12,13,14,15,16,17,18,19],[0,1,2,3,4,5,6,7,8,9,10,11,12,13,14,15,16,17,18,19,22],[0,1,2,3,4,5,6,7,8,9,10,11,12,13,14,15,16,17,18,19,20,21,22,23],[0,1,2,3,4,5,6,7,8,9,10,11,12,13,14,15,16,17,18,19,20,21,22,23,24],[0,1,2,3,4,5,6,7,8,9,10,11,12,13,14,15,16,17,18,19,20,21,22,23,24,25],[0,1,2,3,4,5,6,7,8,9,10,11,12,13,14,15,16,17,18,19,20,21,22,23,24,25,26],[0,1,2,3,4,5,6,7,8,9,10,11,12,13,14,15,16,17,18,19,20,21,22,23,24,25,26,27],[0,1,2,3,4,5,6,7,8,9,10,11,12,13,14,15,16,17,18,19,20,21,22,23,24,25,26],[0,1,2,3,4,5,6,7,8,9,10,11,12,13,14,15,16,17,18,19,20,21,22,23,24,25,26,29],[0,1,2,3,4,5,6,7,8,9,10,11,12,13,14,15,16,17,18,19,20,21,22,23,24,25,26,27,28,29,30],[0,1,2,3,4,5,6,7,8,9,10,11,12,13,14,15,16,17,18,19,20,21,22,23,24,25,26,27,28,29,30,31],[0,1,2,3,4,5,6,7,8,9,10,11,12,13,14,15,16,17,18,19,20,21,22,23,24,25,26,27,28,29,30,31,32]]
   [[],[],[],[],[],[],[],[],[],[],[],[],[],[],[],[],[],[],[],[],[],[],[],[],[],[],[],[],[],[],[],[],[],[]] [[],[],[],[],[],[],[],[],[],[],[],[],[],[],[],[],[],[],[],[],[],[],[],[],[],[],[],[],[],[],[],[],[],[]] [(1,.pointer (some ⟨g,0,none⟩))]
   (by kernel_rfl) rfl (by decide) (by rfl) (by decide +kernel) rfl rfl (by simp) (KK.out) ?hstep ?hend
  case hstep =>
   refine⟨?p0,⟨?p1,⟨?p2,⟨?p3,⟨?p4,⟨?p5,⟨?p6,⟨?p7,⟨?p8,⟨?p9,⟨?p10,⟨?p11,⟨?p12,⟨?p13,⟨?p14,⟨?p15,⟨?p16,⟨?p17,⟨?p18,⟨?p19,⟨?p20,⟨?p21,⟨?p22,⟨?p23,⟨?p24,⟨?p25,⟨?p26,⟨?p27,⟨?p28,⟨?p29,⟨?p30,⟨?p31,⟨?p32,⟨?p33,trivial⟩⟩⟩⟩⟩⟩⟩⟩⟩⟩⟩⟩⟩⟩⟩⟩⟩⟩⟩⟩⟩⟩⟩⟩⟩⟩⟩⟩⟩⟩⟩⟩⟩⟩
   case p0 | p2 | p3 | p8 | p9 | p18 | p19 | p25 | p26 | p32 | p33 =>
    intro x wx A i d k f m H K l;replace l:=hid l;clear f m d;repeat (obtain⟨_,k⟩:=k)
    refine so ?_;go_step;exact l.out _ _ rfl H
   case p1 =>
    intro x wx A i d k f m H K a;have e3:=tq f 0;have l:=hid a;clear a k f d;have B:wx.cell? ⟨g,0,none⟩=some (.int .u8 h.flags.toNat):=m _ N.out _ _ H;refine so ?_;go_step;exact l.out _ _ rfl H
   case p4 =>
    intro x wx A i d k f m H K a;have p:A.tmps[1]?.getD undef=.pointer (some ⟨g,0,none⟩):=Za k (1,_) (by simp) (by rfl);have o:=(f 3 (by decide)).1;have l:=hid a;clear a k f m d;exact sgF o (l.out _ _ rfl H)
   case p5 =>
    intro x wx A i d k f m H K a;have e7:=tq f 4;have o:=(f 3 (by decide)).1;have l:=hid a;clear a k f m d;exact sgF o (l.out _ _ rfl H)
   case p6 =>
    intro x wx A i d k f m H K a;have e8:=tq f 5;have o:=(f 3 (by decide)).1;have l:=hid a;clear a k f m d;exact sgF o (l.out _ _ rfl H)
   case p7 =>
    intro x wx A i d k f m H K a;have e9:=tq f 6;have o:=(f 3 (by decide)).1;have l:=hid a;clear a k f m d;exact sgF o (l.out _ _ rfl H)
   case p10 =>
    intro x wx A i d k f m H K a;have p:A.tmps[1]?.getD undef=.pointer (some ⟨g,0,none⟩):=Za k (1,_) (by simp) (by rfl);have o:=(f 9 (by decide)).1;have l:=hid a;clear a k f m d;exact sgF o (l.out _ _ rfl H)
   case p11 =>
    intro x wx A i d k f m H K a;have P:=tq f 10;have o:=(f 9 (by decide)).1;have l:=hid a;clear a k f m d;exact sgF o (l.out _ _ rfl H)
   case p12 =>
    intro x wx A i d k f m H K a;have Q:=tq f 11;have o:=(f 9 (by decide)).1;have l:=hid a;clear a k f m d;exact sgF o (l.out _ _ rfl H)
   case p13 =>
    intro x wx A i d k f m H K a;have p:A.tmps[1]?.getD undef=.pointer (some ⟨g,0,none⟩):=Za k (1,_) (by simp) (by rfl);have o:=(f 12 (by decide)).1;have l:=hid a;clear a k f m d;refine⟨none,by rw [o]; rfl,?_⟩;rw [if_neg (by decide)];exact l.out _ _ rfl H
   case p14 =>
    intro x wx A i d k f m H K a;have R:=tq f 13;have o:=(f 12 (by decide)).1;have l:=hid a;clear a k f m d;refine⟨none,by rw [o]; rfl,?_⟩;rw [if_neg (by decide)];exact l.out _ _ rfl H
   case p15 =>
    intro x wx A i d k f m H K a;have S:=tq f 14;have o:=(f 12 (by decide)).1;have l:=hid a;clear a k f m d;refine⟨none,by rw [o]; rfl,?_⟩;rw [if_neg (by decide)];exact l.out _ _ rfl H
   case p16 =>
    intro x wx A i d k f m H K a;have T:=tq f 15;have o:=(f 12 (by decide)).1;have l:=hid a;clear a k f m d;refine⟨none,by rw [o]; rfl,?_⟩;rw [if_neg (by decide)];exact l.out _ _ rfl H
   case p17 =>
    intro x wx A i d k f m H K a;have U:=tq f 12;have V:=tq f 16;have o:=(f 9 (by decide)).1;have l:=hid a;clear a k f m d;exact sgF o (l.out _ _ rfl H)
   case p20 =>
    intro x wx A i d k f m H K a;have p:A.tmps[1]?.getD undef=.pointer (some ⟨g,0,none⟩):=Za k (1,_) (by simp) (by rfl);have o:=(f 19 (by decide)).1;have l:=hid a;clear a k f m d;exact sgF o (l.out _ _ rfl H)
   case p21 =>
    intro x wx A i d k f m H K a;have W:=tq f 20;have o:=(f 19 (by decide)).1;have l:=hid a;clear a k f m d;exact sgF o (l.out _ _ rfl H)
   case p22 =>
    intro x wx A i d k f m H K a;have p:A.tmps[1]?.getD undef=.pointer (some ⟨g,0,none⟩):=Za k (1,_) (by simp) (by rfl);have o:=(f 19 (by decide)).1;have l:=hid a;clear a k f m d;exact sgF o (l.out _ _ rfl H)
   case p23 =>
    intro x wx A i d k f m H K a;have X:=tq f 22;have o:=(f 19 (by decide)).1;have l:=hid a;clear a k f m d;exact sgF o (l.out _ _ rfl H)
   case p24 =>
    intro x wx A i d k f m H K a;have Y:=tq f 21;have Z:=tq f 23;have o:=(f 19 (by decide)).1;have l:=hid a;clear a k f m d;exact sgF o (l.out _ _ rfl H)
   case p27 =>
    intro x wx A i d k f m H K a;have p:A.tmps[1]?.getD undef=.pointer (some ⟨g,0,none⟩):=Za k (1,_) (by simp) (by rfl);have o:=(f 26 (by decide)).1;have l:=hid a;clear a k f m d;exact sgF o (l.out _ _ rfl H)
   case p28 =>
    intro x wx A i d k f m H K a;have a0:=tq f 27;have o:=(f 26 (by decide)).1;have l:=hid a;clear a k f m d;exact sgF o (l.out _ _ rfl H)
   case p29 =>
    intro x wx A i d k f m H K a;have p:A.tmps[1]?.getD undef=.pointer (some ⟨g,0,none⟩):=Za k (1,_) (by simp) (by rfl);have o:=(f 26 (by decide)).1;have l:=hid a;clear a k f m d;exact sgF o (l.out _ _ rfl H)
   case p30 =>
    intro x wx A i d k f m H K a;have a1:=tq f 29;have o:=(f 26 (by decide)).1;have l:=hid a;clear a k f m d;exact sgF o (l.out _ _ rfl H)
   case p31 =>
    intro x wx A i d k f m H K a;have a2:=tq f 28;have a3:=tq f 30;have o:=(f 26 (by decide)).1;have l:=hid a;clear a k f m d;exact sgF o (l.out _ _ rfl H)
  case hend =>
   intro x wx A F f H;replace H:Sp w0 (_::L) wx:=H;have u:x 33=.bool false:=f 33 (by decide);clear f;simp only [putAll,Act.put,List.setIfInBounds_toArray,List.set_cons_succ,List.set_cons_zero,Nat.reduceAdd] at F;subst F;rw [u];clear u;replace H:=H.tail;go_wp2_with fail
   go_ret;exact⟨congrArg (fun b=>Ending.returned (.bool b)) s.out.symm,H⟩
end Go.Proofs.YteajimobgkempaaGreatDoor

