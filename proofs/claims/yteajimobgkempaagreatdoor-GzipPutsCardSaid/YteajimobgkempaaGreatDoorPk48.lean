/- A pack. -/
import Derived.Test.YteajimobgkempaaGreatDoorPk06
set_option linter.all false
set_option maxRecDepth 100000
set_option maxHeartbeats 8000000
namespace Go.Proofs.YteajimobgkempaaGreatDoor
variable {w0 w:World} {L:List Pr}
open Go.RowKit
theorem Wy (l:List UInt8) (k:Nat):(strOf l).extract 0 k=strOf (l.take k):=by
 rw [Lib.extract_eq];unfold strOf;simp
theorem TG (h:PG.Hd) (B0:Option Addr) (n c:Nat) (H:Sp w0 L w) (hn:h.extra.length=n) (hb:Ent L fun w=>Byt w (.slice B0 n c) h.extra) (hnc:n<=c) (hcm:c<=maxLen) (hm1:h.name.length<=maxLen) (hm2:h.note.length<=maxLen) :
  Calls Tryz.prog 17 #[.agg (hdV h (.slice B0 n c)).toArray] w fun e w'=>∃A0 ce,e=.returned (.agg #[.int .u8 h.flags.toNat,.int .u8 h.level.toNat,.int .u8 h.system.toNat,.int .u32 h.time,.slice A0 (min n 300) ce,.string (strOf (h.name.take 300)),.string (strOf (h.note.take 300))])/\Sp w0 (Row 5 1 (.slice A0 (min n 300) ce) (min n 300) (cells8 (h.extra.take 300))::L) w':=by
 obtain⟨i0,hi,J,M,N⟩:=info_parts info8;obtain⟨m,O⟩:=exq (min n 300);rw [O];have ym:min (n:Int) 300=(m:Int):=by omega
 have P:m<=n:=by omega
 have a0:m<=300:=by omega
 have a1:(m:Int)<=(c:Int):=by omega
 have Q:Hid ((h.extra.take 300).length=m):=hid (by rw [List.length_take,hn]; omega);have R:Hid (h.extra.take m=h.extra.take 300):=by
  rw [<- O];by_cases hq:n<=300
  ·rw [Nat.min_eq_left hq,<- hn,List.take_length,List.take_of_length_le (by omega)]; exact hid rfl
  ·rw [Nat.min_eq_right (by omega)]; exact hid rfl
 obtain⟨k2,r⟩:=exq h.name.length;obtain⟨k3,s⟩:=exq h.note.length;have a2:(strOf h.name).size=k2:=by rw [Zi]; exact r
 have a3:(strOf h.note).size=k3:=by rw [Zi]; exact s
 obtain⟨p,B⟩:=exq (min k2 300);obtain⟨u,C⟩:=exq (min k3 300);have a4:min (k2:Int) 300=(p:Int):=by omega
 have a5:min (k3:Int) 300=(u:Int):=by omega
 have a6:(p:Int)<=(k2:Int):=by omega
 have a7:(u:Int)<=(k3:Int):=by omega
 have S:∀(l:List UInt8) (q k:Nat),l.length=k->min k 300=q->l.take q=l.take 300:=fun l q k h1 h2=>by
  by_cases h9:k<=300
  ·rw [<- h2,Nat.min_eq_left h9,<- h1,List.take_length,List.take_of_length_le (by omega)]
  ·rw [<- h2,Nat.min_eq_right (by omega)]
 have T:Hid ((strOf h.name).extract 0 p=strOf (h.name.take 300)):=hid (by rw [Wy,S _ p k2 r B]);have U:Hid ((strOf h.note).extract 0 u=strOf (h.note.take 300)):=hid (by rw [Wy,S _ u k3 s C]);unfold maxLen at hm1 hm2 hcm;rw [r] at hm1;rw [s] at hm2;have HN:=hid hn;have V:=(H.newBk [.int .u8 h.flags.toNat,.int .u8 h.level.toNat,.int .u8 h.system.toNat,.int .u32 h.time,.slice B0 n c,.string (strOf h.name),.string (strOf h.note)] 45).newBk [.int .u8 0,.int .u8 0,.int .u8 0,.int .u32 0,.slice none 0 0,.string ⟨#[]⟩,.string ⟨#[]⟩] 45;have X:(w.alloc (.cells #[.int .u8 h.flags.toNat,.int .u8 h.level.toNat,.int .u8 h.system.toNat,.int .u32 h.time,.slice B0 n c,.string (strOf h.name),.string (strOf h.note)] 45)).heap.size=w.heap.size+1:=Array.size_push _;rw [X] at V;have D:Hid (Ent (Bk (w.heap.size+1) 45 [.int .u8 0,.int .u8 0,.int .u8 0,.int .u32 0,.slice none 0 0,.string ⟨#[]⟩,.string ⟨#[]⟩]::L) fun w=>Byt w (.slice B0 n c) h.extra):=hid fun _ _ q=>hb _ _ q.tail;have I:=hid V;clear O hn r s B C S hb V H X;unfold hdV;go_enter Tryz.func17,Tryz.ntmps17
 go_wp2_with fail
 obtain⟨o,E⟩:=exq (w.heap.size+1);rw [E] at I D ⊢;clear E;generalize World.alloc _ _=wq at I ⊢;generalize w.heap.size=g1 at I ⊢;refine Zu (L:=Bk o 45 [.int .u8 0,.int .u8 0,.int .u8 0,.int .u32 0,.slice none 0 0,.string ⟨#[]⟩,.string ⟨#[]⟩]::L) [some (.pointer (some ⟨g1,4,none⟩)),some (.slice B0 n c),some (.pointer (some ⟨g1,4,none⟩)),some (.slice B0 n c),some (.int .i64 n),some (.int .i64 m),some (.slice B0 m c),none,some (.pointer (some ⟨g1,5,none⟩)),some (.string (strOf h.name)),some (.pointer (some ⟨g1,5,none⟩)),some (.string (strOf h.name)),some (.int .i64 k2),some (.int .i64 p),some (.string ((strOf h.name).extract 0 p)),some (.pointer (some ⟨g1,6,none⟩)),some (.string (strOf h.note)),some (.pointer (some ⟨g1,6,none⟩)),some (.string (strOf h.note)),some (.int .i64 k3),some (.int .i64 u),some (.string ((strOf h.note).extract 0 u)),some (.pointer (some ⟨g1,4,none⟩)),some (undef),some (.pointer (some ⟨g1,5,none⟩)),some (undef),some (.pointer (some ⟨g1,6,none⟩)),some (undef)] (fun _ _ _=>True) (fun ix ux vx=>match ix with | 7=>(fun vv=>[Row 5 1 vv m (cells8 (h.extra.take 300))]) vx | 23=>(fun _=>[Bk g1 45 [.int .u8 h.flags.toNat,.int .u8 h.level.toNat,.int .u8 h.system.toNat,.int .u32 h.time,ux,.string (strOf h.name),.string (strOf h.note)],Row 5 1 ux m (cells8 (h.extra.take 300))]) vx | 25=>(fun _=>[Bk g1 45 [.int .u8 h.flags.toNat,.int .u8 h.level.toNat,.int .u8 h.system.toNat,.int .u32 h.time,ux,.string ((strOf h.name).extract 0 p),.string (strOf h.note)],Row 5 1 ux m (cells8 (h.extra.take 300))]) vx | 27=>(fun _=>[Bk g1 45 [.int .u8 h.flags.toNat,.int .u8 h.level.toNat,.int .u8 h.system.toNat,.int .u32 h.time,ux,.string ((strOf h.name).extract 0 p),.string ((strOf h.note).extract 0 u)],Row 5 1 ux m (cells8 (h.extra.take 300))]) vx | _=>[]) (fun ix=>match ix with | 23=>[Bk g1 45 [.int .u8 h.flags.toNat,.int .u8 h.level.toNat,.int .u8 h.system.toNat,.int .u32 h.time,.slice B0 n c,.string (strOf h.name),.string (strOf h.note)]] | _=>[]) 28 29
  [some 3,some 4,some 5,some 6,some 7,some 8,some 9,some 10,some 11,some 12,some 13,some 14,some 15,some 16,some 17,some 18,some 19,some 20,some 21,some 22,some 23,some 24,some 25,none,some 26,none,some 27,none]
  [[],[0],[],[2],[3],[4],[1,5],[6],[],[8],[],[10],[11],[12],[9,13],[],[15],[],[17],[18],[19],[16,20],[0,1,2,3,4,5,6,7,8,9,10,11,15,16,17,18],[22,7,7,0,1,2,3,4,5,6,7,8,9,10,11,15,16,17,18],[0,1,2,3,4,5,6,7,8,9,10,11,12,13,14,15,16,17,18,22,23],[24,14,23,0,1,2,3,4,5,6,7,8,9,10,11,12,13,14,15,16,17,18,22,23],[0,1,2,3,4,5,6,7,8,9,10,11,12,13,14,15,16,17,18,19,20,21,22,23,24,25],[26,21,25,0,1,2,3,4,5,6,7,8,9,10,11,12,13,14,15,16,17,18,19,20,21,22,23,24,25]]
  [[],[0],[],[2],[2,3],[2,3,4],[0,1,2,3,4,5],[0,1,2,3,4,5,6],[],[8],[],[10],[10,11],[10,11,12],[8,9,10,11,12,13],[],[15],[],[17],[17,18],[17,18,19],[15,16,17,18,19,20],[0,1,2,3,4,5,6,7,8,9,10,11,15,16,17,18],[0,1,2,3,4,5,6,7,8,9,10,11,15,16,17,18,22],[0,1,2,3,4,5,6,7,8,9,10,11,12,13,14,15,16,17,18,22,23],[0,1,2,3,4,5,6,7,8,9,10,11,12,13,14,15,16,17,18,22,23,24],[0,1,2,3,4,5,6,7,8,9,10,11,12,13,14,15,16,17,18,19,20,21,22,23,24,25],[0,1,2,3,4,5,6,7,8,9,10,11,12,13,14,15,16,17,18,19,20,21,22,23,24,25,26]]
  [[],[],[],[],[],[],[],[],[],[],[],[],[],[],[],[],[],[],[],[],[],[],[],[7],[],[23],[],[25]] [[],[23],[],[23],[],[],[],[],[],[23],[],[23],[],[],[],[],[23],[],[23],[],[],[],[],[],[],[],[],[]] [none,none,none,none,none,none,none,none,none,none,none,none,none,none,none,none,none,none,none,none,none,none,none,some 7,none,some 7,none,some 7] [(1,.pointer (some ⟨g1,0,none⟩))]
  (by kernel_rfl) rfl (by decide) (by rfl) (by decide +kernel) rfl (by simp) (by rfl) ((I.out.pick 2 [1,0])) ?hstep ?hend
 case hstep =>
  refine⟨?p0,⟨?p1,⟨?p2,⟨?p3,⟨?p4,⟨?p5,⟨?p6,⟨?p7,⟨?p8,⟨?p9,⟨?p10,⟨?p11,⟨?p12,⟨?p13,⟨?p14,⟨?p15,⟨?p16,⟨?p17,⟨?p18,⟨?p19,⟨?p20,⟨?p21,⟨?p22,⟨?p23,⟨?p24,⟨?p25,⟨?p26,⟨?p27,trivial⟩⟩⟩⟩⟩⟩⟩⟩⟩⟩⟩⟩⟩⟩⟩⟩⟩⟩⟩⟩⟩⟩⟩⟩⟩⟩⟩⟩
  case p0 | p2 | p4 | p5 | p6 | p8 | p10 | p12 | p13 | p14 | p15 | p17 | p19 | p20 | p21 | p22 | p24 | p26 =>
   intro x wx A a i d j H K f;replace f:=hid f;clear d j;repeat (obtain⟨_,i⟩:=i)
   refine so ?_;go_step;exact f.out _ _ rfl H
  case p1 =>
   intro x wx A a i d j H K b;have e3:=tq d 0;replace H:Sp w0 (_::a) wx:=H;have f:=hid b;clear b i d j;have F:=H.cell 0 rfl 4;refine so ?_;go_step;exact f.out _ _ rfl H
  case p3 =>
   intro x wx A a i d j H K b;have e5:=tq d 2;replace H:Sp w0 (_::a) wx:=H;have f:=hid b;clear b i d j;have F:=H.cell 0 rfl 4;refine so ?_;go_step;exact f.out _ _ rfl H
  case p7 =>
   intro x wx A a i d j H K b;have e9:=tq d 6;have f:Hid (∀(v:Value) (w' : World),(True)->Sp w0 ((Row 5 1 v m (cells8 (h.extra.take 300)))::a) w'->K (A.put (some 10) v) w'):=hid b;clear b i d;have G:=(j _ D.out _ _ H).take m (by rw [HN.out]; exact P);rw [R.out] at G;refine so ?_;refine Zg _ _ 24 rfl 5 i0 (.int .u8 0) 1 1 Tryz.underlying24 hi J M N rfl (by decide) (.slice none 0 0) 0 [] rfl (H.rowNil _ _) B0 m c (cells8 (h.extra.take 300)) (ev e9) (by rw [Zh,Q.out]) (Z4 G) (Zf _) (by unfold maxLen; omega) (by omega) fun v9 w9 H9 _=>f.out _ _ trivial ?_;rw [Nat.zero_add] at H9;exact H9
  case p9 =>
   intro x wx A a i d j H K b;have a8:=tq d 8;replace H:Sp w0 (_::a) wx:=H;have f:=hid b;clear b i d j;have F:=H.cell 0 rfl 5;refine so ?_;go_step;exact f.out _ _ rfl H
  case p11 =>
   intro x wx A a i d j H K b;have a9:=tq d 10;replace H:Sp w0 (_::a) wx:=H;have f:=hid b;clear b i d j;have F:=H.cell 0 rfl 5;refine so ?_;go_step;exact f.out _ _ rfl H
  case p16 =>
   intro x wx A a i d j H K b;have b0:=tq d 15;replace H:Sp w0 (_::a) wx:=H;have f:=hid b;clear b i d j;have F:=H.cell 0 rfl 6;refine so ?_;go_step;exact f.out _ _ rfl H
  case p18 =>
   intro x wx A a i d j H K b;have b1:=tq d 17;replace H:Sp w0 (_::a) wx:=H;have f:=hid b;clear b i d j;have F:=H.cell 0 rfl 6;refine so ?_;go_step;exact f.out _ _ rfl H
  case p23 =>
   intro x wx A a i d j H K b;have b2:=tq d 22;have b3:True:=(d 7 (by decide)).1;have W:=(d 7 (by decide)).2 10 rfl;replace H:Sp w0 (_::(Row 5 1 (x 7) m (cells8 (h.extra.take 300)))::a) wx:=H;have f:Hid (∀(v:Value) (w' : World),(v=undef)->Sp w0 ((Bk g1 45 [.int .u8 h.flags.toNat,.int .u8 h.level.toNat,.int .u8 h.system.toNat,.int .u32 h.time,(x 7),.string (strOf h.name),.string (strOf h.note)])::(Row 5 1 (x 7) m (cells8 (h.extra.take 300)))::a) w'->K (A.put none v) w'):=hid b;clear b i d j;obtain⟨A0,ce,y,_,_⟩:=Row.form H 1 rfl;rw [y] at f H W;have z:=H.frozen 0 rfl 4;have t:=H.cell 0 rfl 4;refine so ?_;go_step;exact f.out _ _ rfl (H.set 4 (.slice A0 m ce))
  case p25 =>
   intro x wx A a i d j H K b;have b4:=tq d 24;have b5:=tq d 14;replace H:Sp w0 ((Bk g1 45 [.int .u8 h.flags.toNat,.int .u8 h.level.toNat,.int .u8 h.system.toNat,.int .u32 h.time,(x 7),.string (strOf h.name),.string (strOf h.note)])::(Row 5 1 (x 7) m (cells8 (h.extra.take 300)))::a) wx:=H;have f:=hid b;clear b i d j;have z:=H.frozen 0 rfl 5;have t:=H.cell 0 rfl 5;refine so ?_;go_step;exact f.out _ _ rfl (H.set 5 (.string ((strOf h.name).extract 0 p)))
  case p27 =>
   intro x wx A a i d j H K b;have b6:=tq d 26;have b7:=tq d 21;replace H:Sp w0 ((Bk g1 45 [.int .u8 h.flags.toNat,.int .u8 h.level.toNat,.int .u8 h.system.toNat,.int .u32 h.time,(x 7),.string ((strOf h.name).extract 0 p),.string (strOf h.note)])::(Row 5 1 (x 7) m (cells8 (h.extra.take 300)))::a) wx:=H;have f:=hid b;clear b i d j;have z:=H.frozen 0 rfl 6;have t:=H.cell 0 rfl 6;refine so ?_;go_step;exact f.out _ _ rfl (H.set 6 (.string ((strOf h.note).extract 0 u)))
 case hend =>
  intro x wx A Y d H;replace H:Sp w0 ((Bk g1 45 [.int .u8 h.flags.toNat,.int .u8 h.level.toNat,.int .u8 h.system.toNat,.int .u32 h.time,(x 7),.string ((strOf h.name).extract 0 p),.string ((strOf h.note).extract 0 u)])::(Row 5 1 (x 7) m (cells8 (h.extra.take 300)))::_::L) wx:=H;clear d;simp only [putAll,Act.put,List.setIfInBounds_toArray,List.set_cons_succ,List.set_cons_zero,Nat.reduceAdd] at Y;subst Y;obtain⟨A0,ce,y,_,_⟩:=Row.form H 1 rfl;rw [y] at H;have g:=H;clear H y;rw [T.out,U.out] at g;have c0:wx.cell? ⟨g1,0,none⟩=some (.int .u8 h.flags.toNat):=g.cell 0 rfl 0;have c1:wx.cell? ⟨g1,1,none⟩=some (.int .u8 h.level.toNat):=g.cell 0 rfl 1;have c2:wx.cell? ⟨g1,2,none⟩=some (.int .u8 h.system.toNat):=g.cell 0 rfl 2;have c3:wx.cell? ⟨g1,3,none⟩=some (.int .u32 h.time):=g.cell 0 rfl 3;have c4:wx.cell? ⟨g1,4,none⟩=some (.slice A0 m ce):=g.cell 0 rfl 4;have c5:wx.cell? ⟨g1,5,none⟩=some (.string (strOf (h.name.take 300))):=g.cell 0 rfl 5;have c6:wx.cell? ⟨g1,6,none⟩=some (.string (strOf (h.note.take 300))):=g.cell 0 rfl 6;have r0:wx.cell? ⟨o,0,none⟩=some (.int .u8 0):=g.cell 2 rfl 0;have q0:wx.frozen? ⟨o,0,none⟩=false:=g.frozen 2 rfl 0;have r1:wx.cell? ⟨o,1,none⟩=some (.int .u8 0):=g.cell 2 rfl 1;have q1:wx.frozen? ⟨o,1,none⟩=false:=g.frozen 2 rfl 1;have r2:wx.cell? ⟨o,2,none⟩=some (.int .u8 0):=g.cell 2 rfl 2;have q2:wx.frozen? ⟨o,2,none⟩=false:=g.frozen 2 rfl 2;have r3:wx.cell? ⟨o,3,none⟩=some (.int .u32 0):=g.cell 2 rfl 3;have q3:wx.frozen? ⟨o,3,none⟩=false:=g.frozen 2 rfl 3;have r4:wx.cell? ⟨o,4,none⟩=some (.slice none 0 0):=g.cell 2 rfl 4;have q4:wx.frozen? ⟨o,4,none⟩=false:=g.frozen 2 rfl 4;have r5:wx.cell? ⟨o,5,none⟩=some (.string ⟨#[]⟩):=g.cell 2 rfl 5;have q5:wx.frozen? ⟨o,5,none⟩=false:=g.frozen 2 rfl 5;have r6:wx.cell? ⟨o,6,none⟩=some (.string ⟨#[]⟩):=g.cell 2 rfl 6;have q6:wx.frozen? ⟨o,6,none⟩=false:=g.frozen 2 rfl 6;go_wp2_with fail
  have Z:=((((((((g.pick 3 [2,0,1]).set 0 (.int .u8 h.flags.toNat)).set 1 (.int .u8 h.level.toNat)).set 2 (.int .u8 h.system.toNat)).set 3 (.int .u32 h.time)).set 4 (.slice A0 m ce)).set 5 (.string (strOf (h.name.take 300)))).set 6 (.string (strOf (h.note.take 300))));refine bodyPost_ret (WF rfl _ rfl (ZQ Z 0 rfl) Tryz.isAgg45 Tryz.sizeOf45) rfl ?_;exact⟨A0,ce,rfl,Z.pick 3 [2]⟩
end Go.Proofs.YteajimobgkempaaGreatDoor

