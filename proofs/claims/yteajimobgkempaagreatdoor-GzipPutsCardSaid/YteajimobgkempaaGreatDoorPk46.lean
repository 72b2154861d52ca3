/- A pack. -/
import Derived.Deep.CutBlock
import Derived.Test.YteajimobgkempaaGreatDoorPk06
set_option linter.all false
set_option maxRecDepth 100000
set_option maxHeartbeats 8000000
namespace Go.Proofs.YteajimobgkempaaGreatDoor
variable {w0 w:World} {L:List Pr}
open Go.RowKit
def LayMid (w0:World) (L:List Pr) (g:Nat) (hd:List Value) (l:List UInt8) (v:Value) (w:World):Prop:=Sp w0 (Row 5 1 v l.length (cells8 l)::Bk g 45 hd::L) w
theorem TE (h:PG.Hd) (B0:Option Addr) (n c:Nat) (H:Sp w0 L w) (hn:h.extra.length=n) (hb:Ent L fun w=>Byt w (.slice B0 n c) h.extra) (ht:h.time<4294967296) (hct:Ent L CrcTab) (hn6:n<=65535) (hm1:h.name.length<=65535) (hm2:h.note.length<=65535) :
  Calls Tryz.prog 33 #[.agg (hdV h (.slice B0 n c)).toArray] w fun e w'=>∃v,e=.returned v/\Sp w0 (Row 5 1 v (PG.lay h).length (cells8 (PG.lay h))::L) w':=by
 obtain⟨J,M,r,s,t⟩:=info_parts info8;have HN:=hid hn;have HB:=hid hb;have HT:=hid hct;clear hn hb hct;have H1:=H.newBk [.int .u8 h.flags.toNat,.int .u8 h.level.toNat,.int .u8 h.system.toNat,.int .u32 h.time,.slice B0 n c,.string (strOf h.name),.string (strOf h.note)] 45;have es:(w.alloc (.cells #[.int .u8 h.flags.toNat,.int .u8 h.level.toNat,.int .u8 h.system.toNat,.int .u32 h.time,.slice B0 n c,.string (strOf h.name),.string (strOf h.note)] 45)).heap.size=w.heap.size+1:=Array.size_push _;obtain⟨u1,hc,G⟩:=TI H1 [31,139,8];rw [es] at hc G;have hv:Sem.run Tryz.prog (convert 24 24 (.slice (some ⟨w.heap.size+1,0,none⟩) 3 3)) ((w.alloc (.cells #[.int .u8 h.flags.toNat,.int .u8 h.level.toNat,.int .u8 h.system.toNat,.int .u32 h.time,.slice B0 n c,.string (strOf h.name),.string (strOf h.note)] 45)).alloc (.cells #[.int .u8 31,.int .u8 139,.int .u8 8] 5))=.ok (.slice (some ⟨w.heap.size+1,0,none⟩) 3 3) u1:=hc 3 rfl;have O:u1.cell? ⟨w.heap.size,0,none⟩=some (.int .u8 h.flags.toNat):=G.cell 1 rfl 0;have G2:=hid (G.newBk [.int .u8 h.flags.toNat] 5);have HG:=hid G;clear hc H1 G;unfold hdV;go_enter Tryz.func33,Tryz.ntmps33
 go_wp2_with (at_builtin; refine Yg rfl _ _ 24 rfl 5 J (.int .u8 0) 1 1 Tryz.underlying24 M r s t rfl ⟨w.heap.size+1,0,none⟩ 3 (cells8 [31,139,8]) rfl rfl ?olds ⟨u1.heap.size,0,none⟩ 1 1 [.int .u8 h.flags.toNat] rfl rfl ?news (by decide) (by decide) (by decide) G2.out ?rest)
 case olds =>
  intro j u hj;obtain⟨ad,e,hc⟩:=(Z4 (HG.out.lit 0 rfl (by decide))) (by decide);injection e with e
  subst e;rw [ZS _ (hc j u hj)];exact hc j u hj
 case news =>
  intro j u hj;obtain⟨ad,e,hc⟩:=(Rd.of_blk (G2.out.blk 0 rfl)) (by simp);injection e with e
  subst e;exact hc j u hj
 case rest =>
  intro v1 w1 K;have K1:Sp w0 (Row 5 1 v1 4 (cells8 [31,139,8,h.flags])::Bk w.heap.size 45 (hdV h (.slice B0 n c))::L) w1:=K.pick 4 [0,3];clear K HG G2 O hv es H;generalize w.heap.size=g at K1 ⊢;have P:w1.cell? ⟨g,3,none⟩=some (.int .u32 h.time):=K1.cell 1 rfl 3;have y:=hid (YH h.time 4 ht (by decide) K1);go_wp2_with fail
  refine y.out.mono ?_;rintro _ w2 ⟨v2,rfl,K2⟩;clear y P;obtain⟨A2,d2,rfl,hr,_,_⟩:=K2.row_rd 0 rfl;go_wp2_with (at_builtin; refine wpList_append_sp rfl _ _ 24 rfl 5 J (.int .u8 0) 1 1 Tryz.underlying24 M r s t rfl (by decide) v1 4 (cells8 [31,139,8,h.flags]) rfl K2.swap A2 4 d2 (cells8 (PG.low h.time 4)) rfl (by rw [Zh,PG.low_len]) hr (Zf _) (by unfold maxLen; omega) (by omega) ?_)
  intro v3 w3 K _;have K3:Sp w0 (Row 5 1 v3 8 (cells8 ([31,139,8,h.flags]++PG.low h.time 4))::Bk g 45 (hdV h (.slice B0 n c))::L) w3:=by
   have h9:=K.pick 3 [0,2];rw [Zd];exact h9
  clear K K2 K1 hr;have Q:w3.cell? ⟨g,1,none⟩=some (.int .u8 h.level.toNat):=K3.cell 1 rfl 1;have R:w3.cell? ⟨g,2,none⟩=some (.int .u8 h.system.toNat):=K3.cell 1 rfl 2;have B:=hid (K3.newBk [.int .u8 h.level.toNat,.int .u8 h.system.toNat] 5);go_wp2_with (at_builtin; refine wpList_append_sp rfl _ _ 24 rfl 5 J (.int .u8 0) 1 1 Tryz.underlying24 M r s t rfl (by decide) v3 8 (cells8 ([31,139,8,h.flags]++PG.low h.time 4)) rfl B.out.swap (some ⟨w3.heap.size,0,none⟩) 2 2 ([.int .u8 h.level.toNat,.int .u8 h.system.toNat]) rfl rfl (Rd.of_blk (B.out.blk 0 rfl)) (Wc _ _) (by unfold maxLen; omega) (by omega) ?_)
  intro v4 w4 K _;have S:Sp w0 (Row 5 1 v4 10 (cells8 ([31,139,8,h.flags]++(PG.low h.time 4++[h.level,h.system])))::Bk g 45 (hdV h (.slice B0 n c))::L) w4:=by
   have h9:=K.pick 3 [0,2];rw [<- List.append_assoc,Zd _ [h.level,h.system]];exact h9
  clear K B K3 Q R;have O:w4.cell? ⟨g,0,none⟩=some (.int .u8 h.flags.toNat):=S.cell 1 rfl 0;have Q:w4.cell? ⟨g,1,none⟩=some (.int .u8 h.level.toNat):=S.cell 1 rfl 1;have R:w4.cell? ⟨g,2,none⟩=some (.int .u8 h.system.toNat):=S.cell 1 rfl 2;have P:w4.cell? ⟨g,3,none⟩=some (.int .u32 h.time):=S.cell 1 rfl 3;have T:w4.cell? ⟨g,4,none⟩=some (.slice B0 n c):=S.cell 1 rfl 4;have U:w4.cell? ⟨g,5,none⟩=some (.string (strOf h.name)):=S.cell 1 rfl 5;have V:w4.cell? ⟨g,6,none⟩=some (.string (strOf h.note)):=S.cell 1 rfl 6;have y:=hid (Yr h (.slice B0 n c) 4 (by omega) S);go_wp2_with fail
  refine y.out.mono ?_;rintro _ w5 ⟨rfl,l⟩;clear y S O Q R P T U V;obtain⟨o,W⟩:=exq ([31,139,8,h.flags]++(PG.low h.time 4++[h.level,h.system]));have a5:o.length=10:=by rw [<- W]; rfl
  rw [W] at l;have a9:=hid W;have a2:=hid a5;clear W a5;obtain⟨b1,d⟩:=exq (PG.has h.flags 4);rw [d];have m:=hid d;clear d;go_upto_if 23 with (fail)
  go_cut [3] from 22 (fun s3 wx=>LayMid w0 L g (hdV h (.slice B0 n c)) (o++PG.exW h) s3 wx)
  case first =>
   cases b1 with
   | false =>
    have p:PG.exW h=[]:=by unfold PG.exW; rw [m.out]; rfl
    have f:LayMid w0 L g (hdV h (.slice B0 n c)) (o++PG.exW h) v4 w5:=by
     unfold LayMid;rw [p,List.append_nil,a2.out];exact l
    replace f:=hid f;clear l p;go_wp2_with fail
    go_meet
    exact f.out
   | true =>
    have a3:Hid (Ent (Bk g 45 (hdV h (.slice B0 n c))::L) fun w=>w.cell? ⟨g,4,none⟩=some (.slice B0 n c)):=hid fun _ _ q=>q.cell 0 rfl 4;have a6:Hid (Ent (Bk g 45 (hdV h (.slice B0 n c))::L) fun w=>Byt w (.slice B0 n c) h.extra):=hid fun _ _ q=>HB.out _ _ q.tail;have a4:Hid ((o++PG.exW h).length=12+n/\cells8 (o++PG.exW h)=cells8 (o++PG.low n 2)++cells8 h.extra):=by
     have e:PG.exW h=PG.low n 2++h.extra:=by unfold PG.exW; rw [m.out,HN.out]; rfl
     rw [e,<- List.append_assoc,Zd,List.length_append,List.length_append,PG.low_len,a2.out,HN.out];exact hid ⟨rfl,rfl⟩
    go_wp2_with fail
    refine Zb (L:=Bk g 45 (hdV h (.slice B0 n c))::L) [some (v4),some (.pointer (some ⟨g,4,none⟩)),some (.slice B0 n c),some (.int .i64 n),some (.int .u32 n),none,none,some (.pointer (some ⟨g,4,none⟩)),some (.slice B0 n c),none,none] (fun _ _=>True) (fun ix vx=>match ix with | 5=>(fun vv=>[Row 5 1 vv 2 (cells8 (PG.low n 2))]) vx | 6=>(fun vv=>[Row 5 1 vv 12 (cells8 (o++PG.low n 2))]) vx | 9=>(fun vv=>[Row 5 1 vv (12+n) (cells8 (o++PG.low n 2)++cells8 h.extra)]) vx | 10=>(fun vv=>[Row 5 1 vv (12+n) (cells8 (o++PG.low n 2)++cells8 h.extra)]) vx | _=>[]) (fun ix=>match ix with | 6=>[Row 5 1 v4 10 (cells8 o)] | _=>[]) 11 59
     [some 24,some 25,some 26,some 27,some 28,some 29,some 30,some 31,some 32,some 33,some 3]
     [[],[],[1],[2],[3],[4],[0,5,5],[],[7],[6,8,6],[9,9,0,1,2,3,4,5,6,7,8,9]]
     [[],[],[1],[1,2],[1,2,3],[1,2,3,4],[0,1,2,3,4,5],[],[7],[0,1,2,3,4,5,6,7,8],[0,1,2,3,4,5,6,7,8,9]]
     [[],[],[],[],[],[],[5],[],[],[6],[9]] [[],[],[],[],[],[],[],[],[],[],[]] [(1,.pointer (some ⟨g,0,none⟩)),(3,v4)]
     (by kernel_rfl) rfl (by decide) (by rfl) (by decide +kernel) rfl rfl (by simp) (l) ?hstep ?hend
    case hstep =>
     refine⟨?p0,⟨?p1,⟨?p2,⟨?p3,⟨?p4,⟨?p5,⟨?p6,⟨?p7,⟨?p8,⟨?p9,⟨?p10,trivial⟩⟩⟩⟩⟩⟩⟩⟩⟩⟩⟩
     case p0 | p1 | p3 | p4 | p7 =>
      intro x wx A rest i D k E H K C;replace C:=hid C;clear k E i;repeat (obtain⟨_,D⟩:=D)
      refine so ?_;go_step;exact C.out _ _ rfl H
     case p2 =>
      intro x wx A rest i D k E H K b;have d0:=tq k 1;have C:=hid b;clear b D k i;have T:wx.cell? ⟨g,4,none⟩=some (.slice B0 n c):=E _ a3.out _ _ H;refine so ?_;go_step;exact C.out _ _ rfl H
     case p5 =>
      intro x wx A rest i D k E H K b;have d1:=tq k 4;have C:Hid (∀(v:Value) (w' : World),(True)->Sp w0 ((Row 5 1 v 2 (cells8 (PG.low n 2)))::rest) w'->K (A.put (some 29) v) w'):=hid b;clear b D k E i;refine so ?_;go_wp2_with fail
      refine(YH n 2 (by omega) (by decide) H).mono ?_;rintro _ w9 ⟨v9,rfl,H9⟩;exact C.out _ _ trivial H9
     case p6 =>
      intro x wx A rest i D k E H K b;have b0:=tq k 0;have d3:True:=(k 5 (by decide)).1;have b2:=(k 5 (by decide)).2 29 rfl;replace H:Sp w0 (_::(Row 5 1 (x 5) 2 (cells8 (PG.low n 2)))::rest) wx:=H;have C:Hid (∀(v:Value) (w' : World),(True)->Sp w0 ((Row 5 1 v 12 (cells8 (o++PG.low n 2)))::rest) w'->K (A.put (some 30) v) w'):=hid b;clear b D k E i;obtain⟨A5,d5,p,hr,_,_⟩:=H.row_rd 1 rfl;refine so ?_;refine Zg _ _ 24 rfl 5 J (.int .u8 0) 1 1 Tryz.underlying24 M r s t rfl (by decide) v4 10 (cells8 o) (ev b0) H A5 2 d5 (cells8 (PG.low n 2)) (ev (b2.trans p)) (by rw [Zh,PG.low_len]) hr (Zf _) (by unfold maxLen; omega) (by omega) fun v9 w9 H9 _=>C.out _ _ trivial ?_;have h9:=H9.pick 2 [0];rw [<- Zd] at h9;exact h9
     case p8 =>
      intro x wx A rest i D k E H K b;have d4:=tq k 7;have C:=hid b;clear b D k i;have T:wx.cell? ⟨g,4,none⟩=some (.slice B0 n c):=E _ a3.out _ _ H;refine so ?_;go_step;exact C.out _ _ rfl H
     case p9 =>
      intro x wx A rest i D k E H K b;have d8:True:=(k 6 (by decide)).1;have b3:=(k 6 (by decide)).2 30 rfl;have b4:=tq k 8;replace H:Sp w0 ((Row 5 1 (x 6) 12 (cells8 (o++PG.low n 2)))::rest) wx:=H;have C:Hid (∀(v:Value) (w' : World),(True)->Sp w0 ((Row 5 1 v (12+n) (cells8 (o++PG.low n 2)++cells8 h.extra))::rest) w'->K (A.put (some 33) v) w'):=hid b;clear b D k i;have b5:=E (fun w=>Byt w (.slice B0 n c) h.extra) a6.out _ _ H.tail;refine so ?_;refine Zg _ _ 24 rfl 5 J (.int .u8 0) 1 1 Tryz.underlying24 M r s t rfl (by decide) (x 6) 12 (cells8 (o++PG.low n 2)) (ev b3) H B0 n c (cells8 h.extra) (ev b4) (by rw [Zh,HN.out]) (Z4 b5) (Zf _) (by unfold maxLen; omega) (by omega) fun v9 w9 H9 _=>C.out _ _ trivial H9
     case p10 =>
      intro x wx A rest i D k E H K b;have d9:True:=(k 9 (by decide)).1;have e0:=(k 9 (by decide)).2 33 rfl;replace H:Sp w0 ((Row 5 1 (x 9) (12+n) (cells8 (o++PG.low n 2)++cells8 h.extra))::rest) wx:=H;have C:Hid (∀(v:Value) (w' : World),(True)->Sp w0 ((Row 5 1 v (12+n) (cells8 (o++PG.low n 2)++cells8 h.extra))::rest) w'->K (A.put (some 3) v) w'):=hid b;clear b D k E i;refine so ?_;go_step;exact C.out _ _ trivial (H)
    case hend =>
     intro x wx A hA k H;replace H:Sp w0 ((Row 5 1 (x 10) (12+n) (cells8 (o++PG.low n 2)++cells8 h.extra))::_::L) wx:=H;clear k;simp only [putAll,Act.put,List.setIfInBounds_toArray,List.set_cons_succ,List.set_cons_zero,Nat.reduceAdd] at hA;subst hA;obtain⟨v6,b6⟩:=exq (x 10);rw [b6] at H ⊢;have f:LayMid w0 L g (hdV h (.slice B0 n c)) (o++PG.exW h) v6 wx:=by
      unfold LayMid;rw [a4.out.1,a4.out.2];exact H
     replace f:=hid f;clear H l a4 a6 a3;go_wp2_with fail
     go_meet
     exact f.out
  case rest =>
   have a:Sp w0 (Row 5 1 u3 (o++PG.exW h).length (cells8 (o++PG.exW h))::Bk g 45 (hdV h (.slice B0 n c))::L) wc:=hcut;obtain⟨F,X⟩:=exq (o++PG.exW h);have c7:F.length<=65547:=by rw [<- X]; rw [List.length_append,a2.out]; unfold PG.exW; split; rw [List.length_append,PG.low_len,HN.out]; omega; simp
   rw [X] at a;have b7:=hid X;clear X hcut;have O:wc.cell? ⟨g,0,none⟩=some (.int .u8 h.flags.toNat):=a.cell 1 rfl 0;have Q:wc.cell? ⟨g,1,none⟩=some (.int .u8 h.level.toNat):=a.cell 1 rfl 1;have R:wc.cell? ⟨g,2,none⟩=some (.int .u8 h.system.toNat):=a.cell 1 rfl 2;have P:wc.cell? ⟨g,3,none⟩=some (.int .u32 h.time):=a.cell 1 rfl 3;have T:wc.cell? ⟨g,4,none⟩=some (.slice B0 n c):=a.cell 1 rfl 4;have U:wc.cell? ⟨g,5,none⟩=some (.string (strOf h.name)):=a.cell 1 rfl 5;have V:wc.cell? ⟨g,6,none⟩=some (.string (strOf h.note)):=a.cell 1 rfl 6;have y:=hid (Yr h (.slice B0 n c) 8 (by omega) a);go_wp2_with fail
   refine y.out.mono ?_;rintro _ w5 ⟨rfl,l⟩;clear y a O Q R P T U V;obtain⟨b1,d⟩:=exq (PG.has h.flags 8);rw [d];have m:=hid d;clear d;go_upto_if 35 with (fail)
   go_cut [3] from 34 (fun s3 wx=>LayMid w0 L g (hdV h (.slice B0 n c)) (F++PG.txW h.flags 8 h.name) s3 wx)
   case first =>
    cases b1 with
    | false =>
     have p:PG.txW h.flags 8 h.name=[]:=by unfold PG.txW; rw [m.out]; rfl
     have f:LayMid w0 L g (hdV h (.slice B0 n c)) (F++PG.txW h.flags 8 h.name) u3 w5:=by
      unfold LayMid;rw [p,List.append_nil];exact l
     replace f:=hid f;clear l p;go_wp2_with fail
     go_meet
     exact f.out
    | true =>
     have p:PG.txW h.flags 8 h.name=h.name++[0]:=by unfold PG.txW; rw [m.out]; rfl
     have U:w5.cell? ⟨g,5,none⟩=some (.string (strOf h.name)):=l.cell 1 rfl 5;have Y:=hid p;clear p;go_wp2_with (at_builtin; refine Zw rfl _ _ 24 9 rfl 5 J Tryz.underlying24 Tryz.underlying9 M r s t u3 F.length (cells8 F) rfl l h.name rfl (by omega) ?_)
     intro v6 w6 f;rw [<- Zd] at f;have B:=hid (f.newBk [.int .u8 0] 5);clear f l U;go_wp2_with (at_builtin; refine wpList_append_sp rfl _ _ 24 rfl 5 J (.int .u8 0) 1 1 Tryz.underlying24 M r s t rfl (by decide) v6 (F.length+h.name.length) (cells8 (F++h.name)) rfl B.out.swap (some ⟨w6.heap.size,0,none⟩) 1 1 [.int .u8 0] rfl rfl (Rd.of_blk (B.out.blk 0 rfl)) (YE 0) (by unfold maxLen; omega) (by omega) ?_)
     intro v7 w7 Z _;have N:LayMid w0 L g (hdV h (.slice B0 n c)) (F++PG.txW h.flags 8 h.name) v7 w7:=by
      unfold LayMid;rw [Y.out,<- List.append_assoc,Zd _ [0],List.length_append,List.length_append];exact Z.pick 3 [0,2]
     replace N:=hid N;clear Z B Y;go_wp2_with fail
     go_meet
     exact N.out
   case rest =>
    have a:Sp w0 (Row 5 1 u3 (F++PG.txW h.flags 8 h.name).length (cells8 (F++PG.txW h.flags 8 h.name))::Bk g 45 (hdV h (.slice B0 n c))::L) wc:=hcut;obtain⟨I,a0⟩:=exq (F++PG.txW h.flags 8 h.name);have c8:I.length<=131083:=by rw [<- a0]; rw [List.length_append]; unfold PG.txW; split; rw [List.length_append,List.length_singleton]; omega; simp; omega
    rw [a0] at a;have b8:=hid a0;clear a0 hcut;have O:wc.cell? ⟨g,0,none⟩=some (.int .u8 h.flags.toNat):=a.cell 1 rfl 0;have Q:wc.cell? ⟨g,1,none⟩=some (.int .u8 h.level.toNat):=a.cell 1 rfl 1;have R:wc.cell? ⟨g,2,none⟩=some (.int .u8 h.system.toNat):=a.cell 1 rfl 2;have P:wc.cell? ⟨g,3,none⟩=some (.int .u32 h.time):=a.cell 1 rfl 3;have T:wc.cell? ⟨g,4,none⟩=some (.slice B0 n c):=a.cell 1 rfl 4;have U:wc.cell? ⟨g,5,none⟩=some (.string (strOf h.name)):=a.cell 1 rfl 5;have V:wc.cell? ⟨g,6,none⟩=some (.string (strOf h.note)):=a.cell 1 rfl 6;have y:=hid (Yr h (.slice B0 n c) 16 (by omega) a);go_wp2_with fail
    refine y.out.mono ?_;rintro _ w5 ⟨rfl,l⟩;clear y a O Q R P T U V;obtain⟨b1,d⟩:=exq (PG.has h.flags 16);rw [d];have m:=hid d;clear d;go_upto_if 43 with (fail)
    go_cut [3] from 42 (fun s3 wx=>LayMid w0 L g (hdV h (.slice B0 n c)) (I++PG.txW h.flags 16 h.note) s3 wx)
    case first =>
     cases b1 with
     | false =>
      have p:PG.txW h.flags 16 h.note=[]:=by unfold PG.txW; rw [m.out]; rfl
      have f:LayMid w0 L g (hdV h (.slice B0 n c)) (I++PG.txW h.flags 16 h.note) u3 w5:=by
       unfold LayMid;rw [p,List.append_nil];exact l
      replace f:=hid f;clear l p;go_wp2_with fail
      go_meet
      exact f.out
     | true =>
      have p:PG.txW h.flags 16 h.note=h.note++[0]:=by unfold PG.txW; rw [m.out]; rfl
      have V:w5.cell? ⟨g,6,none⟩=some (.string (strOf h.note)):=l.cell 1 rfl 6;have Y:=hid p;clear p;go_wp2_with (at_builtin; refine Zw rfl _ _ 24 9 rfl 5 J Tryz.underlying24 Tryz.underlying9 M r s t u3 I.length (cells8 I) rfl l h.note rfl (by omega) ?_)
      intro v6 w6 f;rw [<- Zd] at f;have B:=hid (f.newBk [.int .u8 0] 5);clear f l V;go_wp2_with (at_builtin; refine wpList_append_sp rfl _ _ 24 rfl 5 J (.int .u8 0) 1 1 Tryz.underlying24 M r s t rfl (by decide) v6 (I.length+h.note.length) (cells8 (I++h.note)) rfl B.out.swap (some ⟨w6.heap.size,0,none⟩) 1 1 [.int .u8 0] rfl rfl (Rd.of_blk (B.out.blk 0 rfl)) (YE 0) (by unfold maxLen; omega) (by omega) ?_)
      intro v7 w7 Z _;have N:LayMid w0 L g (hdV h (.slice B0 n c)) (I++PG.txW h.flags 16 h.note) v7 w7:=by
       unfold LayMid;rw [Y.out,<- List.append_assoc,Zd _ [0],List.length_append,List.length_append];exact Z.pick 3 [0,2]
      replace N:=hid N;clear Z B Y;go_wp2_with fail
      go_meet
      exact N.out
    case rest =>
     have a:Sp w0 (Row 5 1 u3 (I++PG.txW h.flags 16 h.note).length (cells8 (I++PG.txW h.flags 16 h.note))::Bk g 45 (hdV h (.slice B0 n c))::L) wc:=hcut;obtain⟨l8,a1⟩:=exq (I++PG.txW h.flags 16 h.note);have c9:l8.length<=196619:=by rw [<- a1]; rw [List.length_append]; unfold PG.txW; split; rw [List.length_append,List.length_singleton]; omega; simp; omega
     rw [a1] at a;have b9:=hid a1;clear a1 hcut;have O:wc.cell? ⟨g,0,none⟩=some (.int .u8 h.flags.toNat):=a.cell 1 rfl 0;have Q:wc.cell? ⟨g,1,none⟩=some (.int .u8 h.level.toNat):=a.cell 1 rfl 1;have R:wc.cell? ⟨g,2,none⟩=some (.int .u8 h.system.toNat):=a.cell 1 rfl 2;have P:wc.cell? ⟨g,3,none⟩=some (.int .u32 h.time):=a.cell 1 rfl 3;have T:wc.cell? ⟨g,4,none⟩=some (.slice B0 n c):=a.cell 1 rfl 4;have U:wc.cell? ⟨g,5,none⟩=some (.string (strOf h.name)):=a.cell 1 rfl 5;have V:wc.cell? ⟨g,6,none⟩=some (.string (strOf h.note)):=a.cell 1 rfl 6;have y:=hid (Yr h (.slice B0 n c) 2 (by omega) a);go_wp2_with fail
     refine y.out.mono ?_;rintro _ w5 ⟨rfl,l⟩;clear y a O Q R P T U V;obtain⟨b1,d⟩:=exq (PG.has h.flags 2);rw [d];have m:=hid d;clear d;go_upto_if 51 with (fail)
     go_cut [3] from 50 (fun s3 wx=>LayMid w0 L g (hdV h (.slice B0 n c)) (l8++PG.suW h.flags l8) s3 wx)
     case first =>
      cases b1 with
      | false =>
       have p:PG.suW h.flags l8=[]:=by unfold PG.suW; rw [m.out]; rfl
       have f:LayMid w0 L g (hdV h (.slice B0 n c)) (l8++PG.suW h.flags l8) u3 w5:=by
        unfold LayMid;rw [p,List.append_nil];exact l
       replace f:=hid f;clear l p;go_wp2_with fail
       go_meet
       exact f.out
      | true =>
       have p:PG.suW h.flags l8=PG.low (PCrc.of l8) 2:=by unfold PG.suW; rw [m.out]; rfl
       have Y:=hid p;clear p;obtain⟨V6,d6,rfl,_,_⟩:=Row.form l 0 rfl;have B:=l.newBk [.slice V6 l8.length d6] 24;have a7:=hid (Vi B 0 rfl (B.row_byt 1 rfl) (HT.out _ _ (B.pick 3 [])) (by omega));clear B l;go_wp2_with fail
       refine a7.out.mono ?_;rintro _ w6 ⟨rfl,f⟩;clear a7;have a8:=PCrc.of_lt l8;obtain⟨z,hz⟩:=exq (PCrc.of l8);rw [hz] at a8 Y;rw [hz];clear hz;have y:=hid (YH z 2 a8 (by decide) (f.pick 2 [1]));clear f;go_wp2_with fail
       refine y.out.mono ?_;rintro _ w7 ⟨v7,rfl,Z⟩;clear y;obtain⟨A7,d7,rfl,hr,_,_⟩:=Z.row_rd 0 rfl;go_wp2_with (at_builtin; refine wpList_append_sp rfl _ _ 24 rfl 5 J (.int .u8 0) 1 1 Tryz.underlying24 M r s t rfl (by decide) (.slice V6 l8.length d6) l8.length (cells8 l8) rfl Z.swap A7 2 d7 (cells8 (PG.low z 2)) rfl (by rw [Zh,PG.low_len]) hr (Zf _) (by unfold maxLen; omega) (by omega) ?_)
       intro v8 w8 N _;have K9:LayMid w0 L g (hdV h (.slice B0 n c)) (l8++PG.suW h.flags l8) v8 w8:=by
        unfold LayMid;rw [Y.out,Zd,List.length_append,PG.low_len];exact N.pick 3 [0,2]
       replace K9:=hid K9;clear Z N hr Y;go_wp2_with fail
       go_meet
       exact K9.out
     case rest =>
      have a:Sp w0 (Row 5 1 u3 (l8++PG.suW h.flags l8).length (cells8 (l8++PG.suW h.flags l8))::Bk g 45 (hdV h (.slice B0 n c))::L) wc:=hcut;have e8:l8=PG.lay0 h:=by
       unfold PG.lay0;rw [<- b9.out,<- b8.out,<- b7.out,<- a9.out];simp only [List.append_assoc]
      have e9:PG.lay h=l8++PG.suW h.flags l8:=by unfold PG.lay; rw [<- e8]
      rw [<- e9] at a;have KZ:=hid (a.pick 2 [0]);clear a hcut e8 e9;go_wp2_with fail
      go_ret;exact⟨_,rfl,KZ.out⟩
theorem infoY:(Tryz.prog.info? 5).map (fun i=>(i.zero,i.size,i.bytes))=some (some (.int .u8 0),1,1):=by kernel_rfl
theorem UP (n:Nat) (H:Sp w0 L w) (hn:n<=1000000000) :
  Calls Tryz.prog 67 #[.slice none 0 0,.int .i64 n] w fun e w'=>∃v,e=.returned v/\Sp w0 (Row 5 1 v 0 []::L) w':=by
 obtain⟨h,i,a,b,d⟩:=info_parts infoY;by_cases j:0<n
 ·have k:(0:Int)<(n:Int):=by omega
  go_enter Tryz.func67,Tryz.ntmps67
  go_wp2_with (at_builtin; refine Z3 rfl _ _ 24 3 rfl 5 h (.int .u8 0) 1 1 Tryz.underlying24 Tryz.underlying3 i a b d rfl (by decide) n rfl rfl j hn (by decide) H ?_)
  intro g c m o p l;have f:=l.rowCut 0 (Nat.zero_le _);rw [Nat.zero_mul,List.take_zero] at f;have q:(0:Int)<=(c:Int):=by omega
  go_wp2_with fail
  go_ret;exact⟨_,rfl,f⟩
 ·have k:¬ (0:Int)<(n:Int):=by omega
  obtain rfl:n=0:=by omega
  go_enter Tryz.func67,Tryz.ntmps67
  go_wp2_with fail
  go_ret;exact⟨_,rfl,H.rowNil _ _⟩
theorem W4 (ad:Addr) (k c:Nat) (qs:List Part) (H:Sp w0 L w) (hk:qs.length=k) (hb:Ent L (fun w=>Rd w (some ad) (qs.map Part.val))) (hq:∀q ∈ qs,q.Ok L 1) (hs:Part.sum qs<=1000000) (hkm:k<=1000000) :
  Calls Tryz.prog 32 #[.slice (some ad) k c] w fun e w'=>∃v,e=.returned v/\Sp w0 (Row 5 1 v (Part.sum qs) (Part.cat qs)::L) w':=by
 obtain⟨i0,E,F,G,I⟩:=info_parts infoY;obtain⟨N,B⟩:=exq (Part.sum qs);have p:∀i,Part.sum (qs.take i)<=N:=fun i=>by rw [<- B]; exact Part.sum_take qs i
 have T:=hid hk;have HB:=hid hb;have HQ:=hid hq;have U:=hid B;have f:=hid p;have a0:N<=1000000:=by omega
 rw [B];have g:∀i,i<k->∃q,qs[i]?=some q/\q.Ok L 1/\qs.take (i+1)=qs.take i++[q]/\∀w',Sp w0 L w'->w'.cell? (ad.add i)=some (.slice q.A q.n q.c):=fun i E=>by
  have b:i<qs.length:=by rw [hk]; exact E
  refine⟨qs[i],List.getElem?_eq_getElem b,hq _ (List.getElem_mem b),List.take_succ_eq_append_getElem b,fun w' H'=>?_⟩;obtain⟨a1,e,t⟩:=hb _ _ H' (by intro h; have:=congrArg List.length h; simp at this; subst this; simp at b);injection e with e
  subst e;refine t i _ ?_;rw [List.getElem?_map,List.getElem?_eq_getElem b]; rfl
 have V:=hid g;clear hk hb hq B p hs g;go_enter Tryz.func32,Tryz.ntmps32
 go_wp2_with fail
 go_loopw [3,11] (fun sv iv wr=>∃(i s:Nat),iv=.int .i64 i/\sv=.int .i64 s/\i<=k/\Hid (Part.sum (qs.take i)=s)/\Sp w0 L wr) (fun _ iv _=>k - (intOf iv).toNat)
 case atStart=>exact⟨0,0,rfl,rfl,Nat.zero_le _,hid rfl,H⟩
 case round =>
  clear H;obtain⟨i,s,rfl,rfl,a2,J,H⟩:=hrel;have a3:s<=N:=by rw [<- J.out]; exact f.out i
  by_cases K:i<k
  ·have M:(i:Int)<(k:Int):=by omega
   obtain⟨q,O,C,n,u⟩:=V.out i K;have t:=u _ H;have a:Part.sum (qs.take (i+1))=s+q.n:=by rw [n,Part.sum_snoc,J.out]
   have l:s+q.n<=N:=by rw [<- a]; exact f.out _
   have d:=hid a;obtain⟨W,D,Y,Z⟩:=q;simp only at t d l;have k2:¬ (s:Int)+(D:Int)<0:=by omega
   clear O C n u a;go_wp2_with fail
   go_roundw
   case rel=>exact⟨i+1,s+D,by go_num,by go_num,by omega,d,H⟩
   case measure=>first | (simp [intOf]; omega) | simp [intOf]
  ·have M:¬ (i:Int)<(k:Int):=by omega
   obtain rfl:i=k:=by omega
   have x:s=N:=by rw [<- J.out,<- U.out,List.take_of_length_le (by rw [T.out]; exact Nat.le_refl _)]
   subst x;have hg:=UP s H (by omega);have y:=hid hg;clear hg;go_wp2_with fail
   refine y.out.mono ?_;rintro _ w2 ⟨v,rfl,H2⟩;clear y H;go_wp2_with fail
   go_loopw [6,27] (fun vv jv wr=>∃(j:Nat),jv=.int .i64 j/\j<=i/\Sp w0 (Row 5 1 vv (Part.sum (qs.take j)) (Part.cat (qs.take j))::L) wr) (fun _ jv _=>i - (intOf jv).toNat)
   case atStart=>exact⟨0,rfl,Nat.zero_le _,H2⟩
   case round =>
    rename_i v0 _
    clear H2
    rename_i u6 u27
    obtain⟨j,rfl,a4,H⟩:=hrel;obtain⟨r,m⟩:=exq (Part.sum (qs.take j));obtain⟨X,o⟩:=exq (Part.cat (qs.take j));have a5:r<=s:=by rw [<- m]; exact f.out j
    rw [m,o] at H;obtain⟨VA,Vc,P,_,_⟩:=Row.form H 0 rfl;subst P;by_cases Q:j<i
    ·have M:(j:Int)<(i:Int):=by omega
     obtain⟨q,O,C,n,u⟩:=V.out j Q;have t:=u _ H.tail;have a:Part.sum (qs.take (j+1))=r+q.n:=by rw [n,Part.sum_snoc,m]
     have l:r+q.n<=s:=by rw [<- a]; exact f.out _
     have z:Part.cat (qs.take (j+1))=X++q.xs:=by rw [n,Part.cat_snoc,o]
     have d:=hid a;have A:=hid z;have R:=hid C;obtain⟨W,D,Y,Z⟩:=q;simp only at t d A l;clear O C n u a z m o;go_wp2_with (at_builtin; refine wpList_append_sp rfl _ _ 24 rfl 5 i0 (.int .u8 0) 1 1 Tryz.underlying24 E F G I rfl (by decide) _ r X rfl H W D Y Z rfl R.out.1 (R.out.2.1 _ _ H.tail) R.out.2.2 (by unfold maxLen; omega) (by omega) ?_)
     intro v9 w9 H9 _;go_wp2_with fail
     go_roundw
     case rel=>exact⟨j+1,by go_num,by omega,by rw [d.out,A.out]; exact H9⟩
     case measure=>first | (simp [intOf]; omega) | simp [intOf]
    ·have M:¬ (j:Int)<(i:Int):=by omega
     obtain rfl:j=i:=by omega
     have S:qs.take j=qs:=List.take_of_length_le (by rw [T.out]; exact Nat.le_refl _);rw [S,U.out] at m;rw [S] at o;have HR:=hid m;have HX:=hid o;clear m o S;go_wp2_with fail
     go_ret;exact⟨_,rfl,by rw [HX.out,HR.out]; exact H⟩
end Go.Proofs.YteajimobgkempaaGreatDoor

