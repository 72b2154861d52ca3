/- A pack. -/
import Derived.Deep.CutBlock
import Derived.Test.YtnjpnmpemhldcaaGreatDoorPk05
set_option linter.all false
set_option maxRecDepth 100000
set_option maxHeartbeats 8000000
namespace Go.Proofs.YtnjpnmpemhldcaaGreatDoor
variable {w0 w:World} {L:List Pr}
open Go.RowKit
def LayMid (w0:World) (L:List Pr) (g:Nat) (hd:List Value) (l:List UInt8) (v:Value) (w:World):Prop:=Sp w0 (Row 5 1 v l.length (cells8 l)::Bk g 28 hd::L) w
theorem Td (h:PG.Hd) (B0:Option Addr) (n c:Nat) (H:Sp w0 L w) (hn:h.extra.length=n) (hb:Ent L fun w=>Byt w (.slice B0 n c) h.extra) (ht:h.time<4294967296) (hct:Ent L CrcTab) (hn6:n<=65535) (hm1:h.name.length<=65535) (hm2:h.note.length<=65535) :
  Calls Tryz.prog 35 #[.agg (hdV h (.slice B0 n c)).toArray] w fun e w'=>∃v,e=.returned v/\Sp w0 (Row 5 1 v (PG.lay h).length (cells8 (PG.lay h))::L) w':=by
 obtain⟨N,O,t,y,B⟩:=info_parts info8;have HN:=hid hn;have HB:=hid hb;have HT:=hid hct;clear hn hb hct;have H1:=H.newBk [.int .u8 h.flags.toNat,.int .u8 h.level.toNat,.int .u8 h.system.toNat,.int .u32 h.time,.slice B0 n c,.string (strOf h.name),.string (strOf h.note)] 28;have es:(w.alloc (.cells #[.int .u8 h.flags.toNat,.int .u8 h.level.toNat,.int .u8 h.system.toNat,.int .u32 h.time,.slice B0 n c,.string (strOf h.name),.string (strOf h.note)] 28)).heap.size=w.heap.size+1:=Array.size_push _;obtain⟨u1,hc,G⟩:=TU H1 [31,139,8];rw [es] at hc G;have hv:Sem.run Tryz.prog (convert 23 23 (.slice (some ⟨w.heap.size+1,0,none⟩) 3 3)) ((w.alloc (.cells #[.int .u8 h.flags.toNat,.int .u8 h.level.toNat,.int .u8 h.system.toNat,.int .u32 h.time,.slice B0 n c,.string (strOf h.name),.string (strOf h.note)] 28)).alloc (.cells #[.int .u8 31,.int .u8 139,.int .u8 8] 5))=.ok (.slice (some ⟨w.heap.size+1,0,none⟩) 3 3) u1:=hc 3 rfl;have Q:u1.cell? ⟨w.heap.size,0,none⟩=some (.int .u8 h.flags.toNat):=G.cell 1 rfl 0;have G2:=hid (G.newBk [.int .u8 h.flags.toNat] 5);have HG:=hid G;clear hc H1 G;unfold hdV;go_enter Tryz.func35,Tryz.ntmps35
 go_wp2_with (at_builtin; refine Yc rfl _ _ 23 rfl 5 N (.int .u8 0) 1 1 Tryz.underlying23 O t y B rfl ⟨w.heap.size+1,0,none⟩ 3 (cells8 [31,139,8]) rfl rfl ?olds ⟨u1.heap.size,0,none⟩ 1 1 [.int .u8 h.flags.toNat] rfl rfl ?news (by decide) (by decide) (by decide) G2.out ?rest)
 case olds =>
  intro j u hj;obtain⟨ad,e,hc⟩:=(YA (HG.out.lit 0 rfl (by decide))) (by decide);injection e with e
  subst e;rw [ZL _ (hc j u hj)];exact hc j u hj
 case news =>
  intro j u hj;obtain⟨ad,e,hc⟩:=(Rd.of_blk (G2.out.blk 0 rfl)) (by simp);injection e with e
  subst e;exact hc j u hj
 case rest =>
  intro v1 w1 K;have K1:Sp w0 (Row 5 1 v1 4 (cells8 [31,139,8,h.flags])::Bk w.heap.size 28 (hdV h (.slice B0 n c))::L) w1:=K.pick 4 [0,3];clear K HG G2 Q hv es H;generalize w.heap.size=g at K1 ⊢;have R:w1.cell? ⟨g,3,none⟩=some (.int .u32 h.time):=K1.cell 1 rfl 3;have C:=hid (Yy h.time 4 ht (by decide) K1);go_wp2_with fail
  refine C.out.mono ?_;rintro _ w2 ⟨v2,rfl,K2⟩;clear C R;obtain⟨A2,d2,rfl,hr,_,_⟩:=K2.row_rd 0 rfl;go_wp2_with (at_builtin; refine Za rfl _ _ 23 rfl 5 N (.int .u8 0) 1 1 Tryz.underlying23 O t y B rfl (by decide) v1 4 (cells8 [31,139,8,h.flags]) rfl K2.swap A2 4 d2 (cells8 (PG.low h.time 4)) rfl (by rw [Zo,PG.low_len]) hr (Zh _) (by unfold maxLen; omega) (by omega) ?_)
  intro v3 w3 K _;have K3:Sp w0 (Row 5 1 v3 8 (cells8 ([31,139,8,h.flags]++PG.low h.time 4))::Bk g 28 (hdV h (.slice B0 n c))::L) w3:=by
   have h9:=K.pick 3 [0,2];rw [Zg];exact h9
  clear K K2 K1 hr;have S:w3.cell? ⟨g,1,none⟩=some (.int .u8 h.level.toNat):=K3.cell 1 rfl 1;have T:w3.cell? ⟨g,2,none⟩=some (.int .u8 h.system.toNat):=K3.cell 1 rfl 2;have D:=hid (K3.newBk [.int .u8 h.level.toNat,.int .u8 h.system.toNat] 5);go_wp2_with (at_builtin; refine Za rfl _ _ 23 rfl 5 N (.int .u8 0) 1 1 Tryz.underlying23 O t y B rfl (by decide) v3 8 (cells8 ([31,139,8,h.flags]++PG.low h.time 4)) rfl D.out.swap (some ⟨w3.heap.size,0,none⟩) 2 2 ([.int .u8 h.level.toNat,.int .u8 h.system.toNat]) rfl rfl (Rd.of_blk (D.out.blk 0 rfl)) (Uf _ _) (by unfold maxLen; omega) (by omega) ?_)
  intro v4 w4 K _;have U:Sp w0 (Row 5 1 v4 10 (cells8 ([31,139,8,h.flags]++(PG.low h.time 4++[h.level,h.system])))::Bk g 28 (hdV h (.slice B0 n c))::L) w4:=by
   have h9:=K.pick 3 [0,2];rw [<- List.append_assoc,Zg _ [h.level,h.system]];exact h9
  clear K D K3 S T;have Q:w4.cell? ⟨g,0,none⟩=some (.int .u8 h.flags.toNat):=U.cell 1 rfl 0;have S:w4.cell? ⟨g,1,none⟩=some (.int .u8 h.level.toNat):=U.cell 1 rfl 1;have T:w4.cell? ⟨g,2,none⟩=some (.int .u8 h.system.toNat):=U.cell 1 rfl 2;have R:w4.cell? ⟨g,3,none⟩=some (.int .u32 h.time):=U.cell 1 rfl 3;have V:w4.cell? ⟨g,4,none⟩=some (.slice B0 n c):=U.cell 1 rfl 4;have W:w4.cell? ⟨g,5,none⟩=some (.string (strOf h.name)):=U.cell 1 rfl 5;have X:w4.cell? ⟨g,6,none⟩=some (.string (strOf h.note)):=U.cell 1 rfl 6;have C:=hid (ZM h (.slice B0 n c) 4 (by omega) U);go_wp2_with fail
  refine C.out.mono ?_;rintro _ w5 ⟨rfl,o⟩;clear C U Q S T R V W X;obtain⟨p,Y⟩:∃l,[31,139,8,h.flags]++(PG.low h.time 4++[h.level,h.system])=l:=⟨_,rfl⟩;have a5:p.length=10:=by rw [<- Y]; rfl
  rw [Y] at o;have a9:=hid Y;have a2:=hid a5;clear Y a5;obtain⟨b1,f⟩:∃b,PG.has h.flags 4=b:=⟨_,rfl⟩;rw [f];have r:=hid f;clear f;go_upto_if 23 with (fail)
  go_cut [3] from 22 (fun s3 wx=>LayMid w0 L g (hdV h (.slice B0 n c)) (p++PG.exW h) s3 wx)
  case first =>
   cases b1 with
   | false =>
    have s:PG.exW h=[]:=by unfold PG.exW; rw [r.out]; rfl
    have i:LayMid w0 L g (hdV h (.slice B0 n c)) (p++PG.exW h) v4 w5:=by
     unfold LayMid;rw [s,List.append_nil,a2.out];exact o
    replace i:=hid i;clear o s;go_wp2_with fail
    go_meet
    exact i.out
   | true =>
    have a3:Hid (Ent (Bk g 28 (hdV h (.slice B0 n c))::L) fun w=>w.cell? ⟨g,4,none⟩=some (.slice B0 n c)):=hid fun _ _ q=>q.cell 0 rfl 4;have a6:Hid (Ent (Bk g 28 (hdV h (.slice B0 n c))::L) fun w=>Byt w (.slice B0 n c) h.extra):=hid fun _ _ q=>HB.out _ _ q.tail;have a4:Hid ((p++PG.exW h).length=12+n/\cells8 (p++PG.exW h)=cells8 (p++PG.low n 2)++cells8 h.extra):=by
     have e:PG.exW h=PG.low n 2++h.extra:=by unfold PG.exW; rw [r.out,HN.out]; rfl
     rw [e,<- List.append_assoc,Zg,List.length_append,List.length_append,PG.low_len,a2.out,HN.out];exact hid ⟨rfl,rfl⟩
    go_wp2_with fail
    refine Zb (L:=Bk g 28 (hdV h (.slice B0 n c))::L) [some (v4),some (.pointer (some ⟨g,4,none⟩)),some (.slice B0 n c),some (.int .i64 n),some (.int .u32 n),none,none,some (.pointer (some ⟨g,4,none⟩)),some (.slice B0 n c),none,none] (fun _ _=>True) (fun ix vx=>match ix with | 5=>(fun vv=>[Row 5 1 vv 2 (cells8 (PG.low n 2))]) vx | 6=>(fun vv=>[Row 5 1 vv 12 (cells8 (p++PG.low n 2))]) vx | 9=>(fun vv=>[Row 5 1 vv (12+n) (cells8 (p++PG.low n 2)++cells8 h.extra)]) vx | 10=>(fun vv=>[Row 5 1 vv (12+n) (cells8 (p++PG.low n 2)++cells8 h.extra)]) vx | _=>[]) (fun ix=>match ix with | 6=>[Row 5 1 v4 10 (cells8 p)] | _=>[]) 11 59
     [some 24,some 25,some 26,some 27,some 28,some 29,some 30,some 31,some 32,some 33,some 3]
     [[],[],[1],[2],[3],[4],[0,5,5],[],[7],[6,8,6],[9,9,0,1,2,3,4,5,6,7,8,9]]
     [[],[],[1],[1,2],[1,2,3],[1,2,3,4],[0,1,2,3,4,5],[],[7],[0,1,2,3,4,5,6,7,8],[0,1,2,3,4,5,6,7,8,9]]
     [[],[],[],[],[],[],[5],[],[],[6],[9]] [[],[],[],[],[],[],[],[],[],[],[]] [(1,.pointer (some ⟨g,0,none⟩)),(3,v4)]
     (by kernel_rfl) rfl (by decide) (by rfl) (by decide +kernel) rfl rfl (by simp) (o) ?hstep ?hend
    case hstep =>
     refine⟨?p0,⟨?p1,⟨?p2,⟨?p3,⟨?p4,⟨?p5,⟨?p6,⟨?p7,⟨?p8,⟨?p9,⟨?p10,trivial⟩⟩⟩⟩⟩⟩⟩⟩⟩⟩⟩
     case p0 | p1 | p3 | p4 | p7 =>
      intro x wx A rest k F m I H K E;replace E:=hid E;clear m I k;repeat (obtain⟨_,F⟩:=F)
      refine so ?_;go_step;exact E.out _ _ rfl H
     case p2 =>
      intro x wx A rest k F m I H K d;have d0:A.tmps[25]?.getD undef=.pointer (some ⟨g,4,none⟩):=tq m 1;have E:=hid d;clear d F m k;have V:wx.cell? ⟨g,4,none⟩=some (.slice B0 n c):=I _ a3.out _ _ H;refine so ?_;go_step;exact E.out _ _ rfl H
     case p5 =>
      intro x wx A rest k F m I H K d;have d1:A.tmps[28]?.getD undef=.int .u32 n:=tq m 4;have E:Hid (∀(v:Value) (w' : World),(True)->Sp w0 ((Row 5 1 v 2 (cells8 (PG.low n 2)))::rest) w'->K (A.put (some 29) v) w'):=hid d;clear d F m I k;refine so ?_;go_wp2_with fail
      refine(Yy n 2 (by omega) (by decide) H).mono ?_;rintro _ w9 ⟨v9,rfl,H9⟩;exact E.out _ _ trivial H9
     case p6 =>
      intro x wx A rest k F m I H K d;have b0:A.tmps[24]?.getD undef=v4:=tq m 0;have d3:True:=(m 5 (by decide)).1;have b2:A.tmps[29]?.getD undef=x 5:=(m 5 (by decide)).2 29 rfl;replace H:Sp w0 ((Row 5 1 v4 10 (cells8 p))::(Row 5 1 (x 5) 2 (cells8 (PG.low n 2)))::rest) wx:=H;have E:Hid (∀(v:Value) (w' : World),(True)->Sp w0 ((Row 5 1 v 12 (cells8 (p++PG.low n 2)))::rest) w'->K (A.put (some 30) v) w'):=hid d;clear d F m I k;obtain⟨A5,d5,s,hr,_,_⟩:=H.row_rd 1 rfl;refine so ?_;refine Zi _ _ 23 rfl 5 N (.int .u8 0) 1 1 Tryz.underlying23 O t y B rfl (by decide) v4 10 (cells8 p) (ev b0) H A5 2 d5 (cells8 (PG.low n 2)) (ev (b2.trans s)) (by rw [Zo,PG.low_len]) hr (Zh _) (by unfold maxLen; omega) (by omega) fun v9 w9 H9 _=>E.out _ _ trivial ?_;have h9:=H9.pick 2 [0];rw [<- Zg] at h9;exact h9
     case p8 =>
      intro x wx A rest k F m I H K d;have d4:A.tmps[31]?.getD undef=.pointer (some ⟨g,4,none⟩):=tq m 7;have E:=hid d;clear d F m k;have V:wx.cell? ⟨g,4,none⟩=some (.slice B0 n c):=I _ a3.out _ _ H;refine so ?_;go_step;exact E.out _ _ rfl H
     case p9 =>
      intro x wx A rest k F m I H K d;have d8:True:=(m 6 (by decide)).1;have b3:A.tmps[30]?.getD undef=x 6:=(m 6 (by decide)).2 30 rfl;have b4:A.tmps[32]?.getD undef=.slice B0 n c:=tq m 8;replace H:Sp w0 ((Row 5 1 (x 6) 12 (cells8 (p++PG.low n 2)))::rest) wx:=H;have E:Hid (∀(v:Value) (w' : World),(True)->Sp w0 ((Row 5 1 v (12+n) (cells8 (p++PG.low n 2)++cells8 h.extra))::rest) w'->K (A.put (some 33) v) w'):=hid d;clear d F m k;have b5:=I (fun w=>Byt w (.slice B0 n c) h.extra) a6.out _ _ H.tail;refine so ?_;refine Zi _ _ 23 rfl 5 N (.int .u8 0) 1 1 Tryz.underlying23 O t y B rfl (by decide) (x 6) 12 (cells8 (p++PG.low n 2)) (ev b3) H B0 n c (cells8 h.extra) (ev b4) (by rw [Zo,HN.out]) (YA b5) (Zh _) (by unfold maxLen; omega) (by omega) fun v9 w9 H9 _=>E.out _ _ trivial H9
     case p10 =>
      intro x wx A rest k F m I H K d;have d9:True:=(m 9 (by decide)).1;have e0:A.tmps[33]?.getD undef=x 9:=(m 9 (by decide)).2 33 rfl;replace H:Sp w0 ((Row 5 1 (x 9) (12+n) (cells8 (p++PG.low n 2)++cells8 h.extra))::rest) wx:=H;have E:Hid (∀(v:Value) (w' : World),(True)->Sp w0 ((Row 5 1 v (12+n) (cells8 (p++PG.low n 2)++cells8 h.extra))::rest) w'->K (A.put (some 3) v) w'):=hid d;clear d F m I k;refine so ?_;go_step;exact E.out _ _ trivial (H)
    case hend =>
     intro x wx A hA m H;replace H:Sp w0 ((Row 5 1 (x 10) (12+n) (cells8 (p++PG.low n 2)++cells8 h.extra))::Bk g 28 (hdV h (.slice B0 n c))::L) wx:=H;clear m;simp only [putAll,Act.put,List.setIfInBounds_toArray,List.set_cons_succ,List.set_cons_zero,Nat.reduceAdd] at hA;subst hA;obtain⟨v6,b6⟩:∃v,x 10=v:=⟨_,rfl⟩;rw [b6] at H ⊢;have i:LayMid w0 L g (hdV h (.slice B0 n c)) (p++PG.exW h) v6 wx:=by
      unfold LayMid;rw [a4.out.1,a4.out.2];exact H
     replace i:=hid i;clear H o a4 a6 a3;go_wp2_with fail
     go_meet
     exact i.out
  case rest =>
   have a:Sp w0 (Row 5 1 u3 (p++PG.exW h).length (cells8 (p++PG.exW h))::Bk g 28 (hdV h (.slice B0 n c))::L) wc:=hcut;obtain⟨J,Z⟩:∃l,p++PG.exW h=l:=⟨_,rfl⟩;have c7:J.length<=65547:=by rw [<- Z]; rw [List.length_append,a2.out]; unfold PG.exW; split; rw [List.length_append,PG.low_len,HN.out]; omega; simp
   rw [Z] at a;have b7:=hid Z;clear Z hcut;have Q:wc.cell? ⟨g,0,none⟩=some (.int .u8 h.flags.toNat):=a.cell 1 rfl 0;have S:wc.cell? ⟨g,1,none⟩=some (.int .u8 h.level.toNat):=a.cell 1 rfl 1;have T:wc.cell? ⟨g,2,none⟩=some (.int .u8 h.system.toNat):=a.cell 1 rfl 2;have R:wc.cell? ⟨g,3,none⟩=some (.int .u32 h.time):=a.cell 1 rfl 3;have V:wc.cell? ⟨g,4,none⟩=some (.slice B0 n c):=a.cell 1 rfl 4;have W:wc.cell? ⟨g,5,none⟩=some (.string (strOf h.name)):=a.cell 1 rfl 5;have X:wc.cell? ⟨g,6,none⟩=some (.string (strOf h.note)):=a.cell 1 rfl 6;have C:=hid (ZM h (.slice B0 n c) 8 (by omega) a);go_wp2_with fail
   refine C.out.mono ?_;rintro _ w5 ⟨rfl,o⟩;clear C a Q S T R V W X;obtain⟨b1,f⟩:∃b,PG.has h.flags 8=b:=⟨_,rfl⟩;rw [f];have r:=hid f;clear f;go_upto_if 35 with (fail)
   go_cut [3] from 34 (fun s3 wx=>LayMid w0 L g (hdV h (.slice B0 n c)) (J++PG.txW h.flags 8 h.name) s3 wx)
   case first =>
    cases b1 with
    | false =>
     have s:PG.txW h.flags 8 h.name=[]:=by unfold PG.txW; rw [r.out]; rfl
     have i:LayMid w0 L g (hdV h (.slice B0 n c)) (J++PG.txW h.flags 8 h.name) u3 w5:=by
      unfold LayMid;rw [s,List.append_nil];exact o
     replace i:=hid i;clear o s;go_wp2_with fail
     go_meet
     exact i.out
    | true =>
     have s:PG.txW h.flags 8 h.name=h.name++[0]:=by unfold PG.txW; rw [r.out]; rfl
     have W:w5.cell? ⟨g,5,none⟩=some (.string (strOf h.name)):=o.cell 1 rfl 5;have EX:=hid s;clear s;go_wp2_with (at_builtin; refine ZO rfl _ _ 23 9 rfl 5 N Tryz.underlying23 Tryz.underlying9 O t y B u3 J.length (cells8 J) rfl o h.name rfl (by omega) ?_)
     intro v6 w6 i;rw [<- Zg] at i;have D:=hid (i.newBk [.int .u8 0] 5);clear i o W;go_wp2_with (at_builtin; refine Za rfl _ _ 23 rfl 5 N (.int .u8 0) 1 1 Tryz.underlying23 O t y B rfl (by decide) v6 (J.length+h.name.length) (cells8 (J++h.name)) rfl D.out.swap (some ⟨w6.heap.size,0,none⟩) 1 1 [.int .u8 0] rfl rfl (Rd.of_blk (D.out.blk 0 rfl)) (Wc 0) (by unfold maxLen; omega) (by omega) ?_)
     intro v7 w7 K7 _;have P:LayMid w0 L g (hdV h (.slice B0 n c)) (J++PG.txW h.flags 8 h.name) v7 w7:=by
      unfold LayMid;rw [EX.out,<- List.append_assoc,Zg _ [0],List.length_append,List.length_append];exact K7.pick 3 [0,2]
     replace P:=hid P;clear K7 D EX;go_wp2_with fail
     go_meet
     exact P.out
   case rest =>
    have a:Sp w0 (Row 5 1 u3 (J++PG.txW h.flags 8 h.name).length (cells8 (J++PG.txW h.flags 8 h.name))::Bk g 28 (hdV h (.slice B0 n c))::L) wc:=hcut;obtain⟨M,a0⟩:∃l,J++PG.txW h.flags 8 h.name=l:=⟨_,rfl⟩;have c8:M.length<=131083:=by rw [<- a0]; rw [List.length_append]; unfold PG.txW; split; rw [List.length_append,List.length_singleton]; omega; simp; omega
    rw [a0] at a;have b8:=hid a0;clear a0 hcut;have Q:wc.cell? ⟨g,0,none⟩=some (.int .u8 h.flags.toNat):=a.cell 1 rfl 0;have S:wc.cell? ⟨g,1,none⟩=some (.int .u8 h.level.toNat):=a.cell 1 rfl 1;have T:wc.cell? ⟨g,2,none⟩=some (.int .u8 h.system.toNat):=a.cell 1 rfl 2;have R:wc.cell? ⟨g,3,none⟩=some (.int .u32 h.time):=a.cell 1 rfl 3;have V:wc.cell? ⟨g,4,none⟩=some (.slice B0 n c):=a.cell 1 rfl 4;have W:wc.cell? ⟨g,5,none⟩=some (.string (strOf h.name)):=a.cell 1 rfl 5;have X:wc.cell? ⟨g,6,none⟩=some (.string (strOf h.note)):=a.cell 1 rfl 6;have C:=hid (ZM h (.slice B0 n c) 16 (by omega) a);go_wp2_with fail
    refine C.out.mono ?_;rintro _ w5 ⟨rfl,o⟩;clear C a Q S T R V W X;obtain⟨b1,f⟩:∃b,PG.has h.flags 16=b:=⟨_,rfl⟩;rw [f];have r:=hid f;clear f;go_upto_if 43 with (fail)
    go_cut [3] from 42 (fun s3 wx=>LayMid w0 L g (hdV h (.slice B0 n c)) (M++PG.txW h.flags 16 h.note) s3 wx)
    case first =>
     cases b1 with
     | false =>
      have s:PG.txW h.flags 16 h.note=[]:=by unfold PG.txW; rw [r.out]; rfl
      have i:LayMid w0 L g (hdV h (.slice B0 n c)) (M++PG.txW h.flags 16 h.note) u3 w5:=by
       unfold LayMid;rw [s,List.append_nil];exact o
      replace i:=hid i;clear o s;go_wp2_with fail
      go_meet
      exact i.out
     | true =>
      have s:PG.txW h.flags 16 h.note=h.note++[0]:=by unfold PG.txW; rw [r.out]; rfl
      have X:w5.cell? ⟨g,6,none⟩=some (.string (strOf h.note)):=o.cell 1 rfl 6;have EX:=hid s;clear s;go_wp2_with (at_builtin; refine ZO rfl _ _ 23 9 rfl 5 N Tryz.underlying23 Tryz.underlying9 O t y B u3 M.length (cells8 M) rfl o h.note rfl (by omega) ?_)
      intro v6 w6 i;rw [<- Zg] at i;have D:=hid (i.newBk [.int .u8 0] 5);clear i o X;go_wp2_with (at_builtin; refine Za rfl _ _ 23 rfl 5 N (.int .u8 0) 1 1 Tryz.underlying23 O t y B rfl (by decide) v6 (M.length+h.note.length) (cells8 (M++h.note)) rfl D.out.swap (some ⟨w6.heap.size,0,none⟩) 1 1 [.int .u8 0] rfl rfl (Rd.of_blk (D.out.blk 0 rfl)) (Wc 0) (by unfold maxLen; omega) (by omega) ?_)
      intro v7 w7 K7 _;have P:LayMid w0 L g (hdV h (.slice B0 n c)) (M++PG.txW h.flags 16 h.note) v7 w7:=by
       unfold LayMid;rw [EX.out,<- List.append_assoc,Zg _ [0],List.length_append,List.length_append];exact K7.pick 3 [0,2]
      replace P:=hid P;clear K7 D EX;go_wp2_with fail
      go_meet
      exact P.out
    case rest =>
     have a:Sp w0 (Row 5 1 u3 (M++PG.txW h.flags 16 h.note).length (cells8 (M++PG.txW h.flags 16 h.note))::Bk g 28 (hdV h (.slice B0 n c))::L) wc:=hcut;obtain⟨l8,a1⟩:∃l,M++PG.txW h.flags 16 h.note=l:=⟨_,rfl⟩;have c9:l8.length<=196619:=by rw [<- a1]; rw [List.length_append]; unfold PG.txW; split; rw [List.length_append,List.length_singleton]; omega; simp; omega
     rw [a1] at a;have b9:=hid a1;clear a1 hcut;have Q:wc.cell? ⟨g,0,none⟩=some (.int .u8 h.flags.toNat):=a.cell 1 rfl 0;have S:wc.cell? ⟨g,1,none⟩=some (.int .u8 h.level.toNat):=a.cell 1 rfl 1;have T:wc.cell? ⟨g,2,none⟩=some (.int .u8 h.system.toNat):=a.cell 1 rfl 2;have R:wc.cell? ⟨g,3,none⟩=some (.int .u32 h.time):=a.cell 1 rfl 3;have V:wc.cell? ⟨g,4,none⟩=some (.slice B0 n c):=a.cell 1 rfl 4;have W:wc.cell? ⟨g,5,none⟩=some (.string (strOf h.name)):=a.cell 1 rfl 5;have X:wc.cell? ⟨g,6,none⟩=some (.string (strOf h.note)):=a.cell 1 rfl 6;have C:=hid (ZM h (.slice B0 n c) 2 (by omega) a);go_wp2_with fail
     refine C.out.mono ?_;rintro _ w5 ⟨rfl,o⟩;clear C a Q S T R V W X;obtain⟨b1,f⟩:∃b,PG.has h.flags 2=b:=⟨_,rfl⟩;rw [f];have r:=hid f;clear f;go_upto_if 51 with (fail)
     go_cut [3] from 50 (fun s3 wx=>LayMid w0 L g (hdV h (.slice B0 n c)) (l8++PG.suW h.flags l8) s3 wx)
     case first =>
      cases b1 with
      | false =>
       have s:PG.suW h.flags l8=[]:=by unfold PG.suW; rw [r.out]; rfl
       have i:LayMid w0 L g (hdV h (.slice B0 n c)) (l8++PG.suW h.flags l8) u3 w5:=by
        unfold LayMid;rw [s,List.append_nil];exact o
       replace i:=hid i;clear o s;go_wp2_with fail
       go_meet
       exact i.out
      | true =>
       have s:PG.suW h.flags l8=PG.low (PCrc.of l8) 2:=by unfold PG.suW; rw [r.out]; rfl
       have EX:=hid s;clear s;obtain⟨V6,d6,rfl,_,_⟩:=Row.form o 0 rfl;have D:=o.newBk [.slice V6 l8.length d6] 23;have a7:=hid (Xf D 0 rfl (D.row_byt 1 rfl) (HT.out _ _ (D.pick 3 [])) (by omega));clear D o;go_wp2_with fail
       refine a7.out.mono ?_;rintro _ w6 ⟨rfl,i⟩;clear a7;have a8:=PCrc.of_lt l8;obtain⟨z,hz⟩:∃z,PCrc.of l8=z:=⟨_,rfl⟩;rw [hz] at a8 EX;rw [hz];clear hz;have C:=hid (Yy z 2 a8 (by decide) (i.pick 2 [1]));clear i;go_wp2_with fail
       refine C.out.mono ?_;rintro _ w7 ⟨v7,rfl,K7⟩;clear C;obtain⟨A7,d7,rfl,hr,_,_⟩:=K7.row_rd 0 rfl;go_wp2_with (at_builtin; refine Za rfl _ _ 23 rfl 5 N (.int .u8 0) 1 1 Tryz.underlying23 O t y B rfl (by decide) (.slice V6 l8.length d6) l8.length (cells8 l8) rfl K7.swap A7 2 d7 (cells8 (PG.low z 2)) rfl (by rw [Zo,PG.low_len]) hr (Zh _) (by unfold maxLen; omega) (by omega) ?_)
       intro v8 w8 P _;have K9:LayMid w0 L g (hdV h (.slice B0 n c)) (l8++PG.suW h.flags l8) v8 w8:=by
        unfold LayMid;rw [EX.out,Zg,List.length_append,PG.low_len];exact P.pick 3 [0,2]
       replace K9:=hid K9;clear K7 P hr EX;go_wp2_with fail
       go_meet
       exact K9.out
     case rest =>
      have a:Sp w0 (Row 5 1 u3 (l8++PG.suW h.flags l8).length (cells8 (l8++PG.suW h.flags l8))::Bk g 28 (hdV h (.slice B0 n c))::L) wc:=hcut;have e8:l8=PG.lay0 h:=by
       unfold PG.lay0;rw [<- b9.out,<- b8.out,<- b7.out,<- a9.out];simp only [List.append_assoc]
      have e9:PG.lay h=l8++PG.suW h.flags l8:=by unfold PG.lay; rw [<- e8]
      rw [<- e9] at a;have KZ:=hid (a.pick 2 [0]);clear a hcut e8 e9;go_wp2_with fail
      go_ret;exact⟨_,rfl,KZ.out⟩
theorem infoY:(Tryz.prog.info? 5).map (fun i=>(i.zero,i.size,i.bytes))=some (some (.int .u8 0),1,1):=by kernel_rfl
theorem Ug (n:Nat) (H:Sp w0 L w) (hn:n<=1000000000) :
  Calls Tryz.prog 58 #[.slice none 0 0,.int .i64 n] w fun e w'=>∃v,e=.returned v/\Sp w0 (Row 5 1 v 0 []::L) w':=by
 obtain⟨h,i,a,b,d⟩:=info_parts infoY;by_cases j:0<n
 ·have k:(0:Int)<(n:Int):=by omega
  go_enter Tryz.func58,Tryz.ntmps58
  go_wp2_with (at_builtin; refine ZF rfl _ _ 23 3 rfl 5 h (.int .u8 0) 1 1 Tryz.underlying23 Tryz.underlying3 i a b d rfl (by decide) n rfl rfl j hn (by decide) H ?_)
  intro g c m o p l;have f:=l.rowCut 0 (Nat.zero_le _);rw [Nat.zero_mul,List.take_zero] at f;have q:(0:Int)<=(c:Int):=by omega
  go_wp2_with fail
  go_ret;exact⟨_,rfl,f⟩
 ·have k:¬ (0:Int)<(n:Int):=by omega
  obtain rfl:n=0:=by omega
  go_enter Tryz.func58,Tryz.ntmps58
  go_wp2_with fail
  go_ret;exact⟨_,rfl,H.rowNil _ _⟩
theorem WD (ad:Addr) (k c:Nat) (qs:List Part) (H:Sp w0 L w) (hk:qs.length=k) (hb:Ent L (fun w=>Rd w (some ad) (qs.map Part.val))) (hq:∀q ∈ qs,q.Ok L 1) (hs:Part.sum qs<=1000000) (hkm:k<=1000000) :
  Calls Tryz.prog 34 #[.slice (some ad) k c] w fun e w'=>∃v,e=.returned v/\Sp w0 (Row 5 1 v (Part.sum qs) (Part.cat qs)::L) w':=by
 obtain⟨i0,E,F,G,I⟩:=info_parts infoY;obtain⟨N,B⟩:∃N,Part.sum qs=N:=⟨_,rfl⟩;have p:∀i,Part.sum (qs.take i)<=N:=fun i=>by rw [<- B]; exact Part.sum_take qs i
 have T:=hid hk;have HB:=hid hb;have HQ:=hid hq;have U:=hid B;have f:=hid p;have a0:N<=1000000:=by omega
 rw [B];have g:∀i,i<k->∃q,qs[i]?=some q/\q.Ok L 1/\qs.take (i+1)=qs.take i++[q]/\∀w',Sp w0 L w'->w'.cell? (ad.add i)=some (.slice q.A q.n q.c):=fun i E=>by
  have b:i<qs.length:=by rw [hk]; exact E
  refine⟨qs[i],List.getElem?_eq_getElem b,hq _ (List.getElem_mem b),List.take_succ_eq_append_getElem b,fun w' H'=>?_⟩;obtain⟨a1,e,t⟩:=hb _ _ H' (by intro h; have:=congrArg List.length h; simp at this; subst this; simp at b);injection e with e
  subst e;refine t i _ ?_;rw [List.getElem?_map,List.getElem?_eq_getElem b]; rfl
 have V:=hid g;clear hk hb hq B p hs g;go_enter Tryz.func34,Tryz.ntmps34
 go_wp2_with fail
 go_loopw [3,11] (fun sv iv wr=>∃(i s:Nat),iv=.int .i64 i/\sv=.int .i64 s/\i<=k/\Hid (Part.sum (qs.take i)=s)/\Sp w0 L wr) (fun _ iv _=>k - (intOf iv).toNat)
 case atStart=>exact⟨0,0,rfl,rfl,Nat.zero_le _,hid rfl,H⟩
 case round =>
  clear H;obtain⟨i,s,rfl,rfl,a2,J,H⟩:=hrel;have a3:s<=N:=by rw [<- J.out]; exact f.out i
  by_cases K:i<k
  ·have M:(i:Int)<(k:Int):=by omega
   obtain⟨q,O,C,n,u⟩:=V.out i K;have t:=u _ H;have a:Part.sum (qs.take (i+1))=s+q.n:=by rw [n,Part.sum_snoc,J.out]
   have l:s+q.n<=N:=by rw [<- a]; exact f.out _
   have d:=hid a;obtain⟨W,D,Y,Z⟩:=q;simp only at t d l;have k2:¬ (s:Int)+(D:Int)<0:=by omega
   clear O C n u a;go_wp2_with fail
   go_roundw
   case rel=>exact⟨i+1,s+D,by go_num,by go_num,by omega,d,H⟩
   case measure=>first | (simp [intOf]; omega) | simp [intOf]
  ·have M:¬ (i:Int)<(k:Int):=by omega
   obtain rfl:i=k:=by omega
   have x:s=N:=by rw [<- J.out,<- U.out,List.take_of_length_le (by rw [T.out]; exact Nat.le_refl _)]
   subst x;have hg:=Ug s H (by omega);have y:=hid hg;clear hg;go_wp2_with fail
   refine y.out.mono ?_;rintro _ w2 ⟨v,rfl,H2⟩;clear y H;go_wp2_with fail
   go_loopw [6,27] (fun vv jv wr=>∃(j:Nat),jv=.int .i64 j/\j<=i/\Sp w0 (Row 5 1 vv (Part.sum (qs.take j)) (Part.cat (qs.take j))::L) wr) (fun _ jv _=>i - (intOf jv).toNat)
   case atStart=>exact⟨0,rfl,Nat.zero_le _,H2⟩
   case round =>
    rename_i v0 _
    clear H2
    rename_i u6 u27
    obtain⟨j,rfl,a4,H⟩:=hrel;obtain⟨r,m⟩:∃r,Part.sum (qs.take j)=r:=⟨_,rfl⟩;obtain⟨X,o⟩:∃X,Part.cat (qs.take j)=X:=⟨_,rfl⟩;have a5:r<=s:=by rw [<- m]; exact f.out j
    rw [m,o] at H;obtain⟨VA,Vc,P,_,_⟩:=Row.form H 0 rfl;subst P;by_cases Q:j<i
    ·have M:(j:Int)<(i:Int):=by omega
     obtain⟨q,O,C,n,u⟩:=V.out j Q;have t:=u _ H.tail;have a:Part.sum (qs.take (j+1))=r+q.n:=by rw [n,Part.sum_snoc,m]
     have l:r+q.n<=s:=by rw [<- a]; exact f.out _
     have z:Part.cat (qs.take (j+1))=X++q.xs:=by rw [n,Part.cat_snoc,o]
     have d:=hid a;have A:=hid z;have R:=hid C;obtain⟨W,D,Y,Z⟩:=q;simp only at t d A l;clear O C n u a z m o;go_wp2_with (at_builtin; refine Za rfl _ _ 23 rfl 5 i0 (.int .u8 0) 1 1 Tryz.underlying23 E F G I rfl (by decide) _ r X rfl H W D Y Z rfl R.out.1 (R.out.2.1 _ _ H.tail) R.out.2.2 (by unfold maxLen; omega) (by omega) ?_)
     intro v9 w9 H9 _;go_wp2_with fail
     go_roundw
     case rel=>exact⟨j+1,by go_num,by omega,by rw [d.out,A.out]; exact H9⟩
     case measure=>first | (simp [intOf]; omega) | simp [intOf]
    ·have M:¬ (j:Int)<(i:Int):=by omega
     obtain rfl:j=i:=by omega
     have S:qs.take j=qs:=List.take_of_length_le (by rw [T.out]; exact Nat.le_refl _);rw [S,U.out] at m;rw [S] at o;have HR:=hid m;have HX:=hid o;clear m o S;go_wp2_with fail
     go_ret;exact⟨_,rfl,by rw [HX.out,HR.out]; exact H⟩
namespace PG
theorem next_short {B:List UInt8} {s:S} {k:Nat} (h:s.short=true):(next B s k).2.short=true:=by
 unfold next; rw [if_pos (.inl h)]
theorem Lies.take {B:List UInt8} {a:Nat} {w:List UInt8} (h:Lies B a w) (n:Nat) (hn:a+w.length<=n):Lies (B.take n) a w:=by
 have b:=h.len;obtain⟨r,h,c⟩:=h;refine⟨r.take (n - a - w.length),?_,by rw [List.length_take]; omega⟩;rw [List.drop_take,h,List.take_append];rw [List.take_of_length_le (l:=w) (by omega)]
end PG
end Go.Proofs.YtnjpnmpemhldcaaGreatDoor

