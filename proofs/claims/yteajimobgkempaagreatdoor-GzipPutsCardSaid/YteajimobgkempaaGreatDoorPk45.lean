/- A pack. -/
import Derived.Test.YteajimobgkempaaGreatDoorPk07
import Derived.Test.YteajimobgkempaaGreatDoorPk44
set_option linter.all false
set_option maxRecDepth 100000
set_option maxHeartbeats 8000000
namespace Go.Proofs.YteajimobgkempaaGreatDoor
variable {w0 w:World} {L:List Pr}
open Go.RowKit
theorem V8 (h:PG.Hd) (B0:Option Addr) (n c:Nat) (BA:Option Addr) (nb cb:Nat) (H:Sp w0 L w) (hn:n=h.extra.length) (hm1:h.name.length<=maxLen) (hm2:h.note.length<=maxLen) (hno:¬ PG.Ok h) :
  Calls Tryz.prog 19 #[.agg (hdV h (.slice B0 n c)).toArray,.slice BA nb cb] w fun e w'=>e=.returned (.tuple #[.slice none 0 0,.int .i64 1])/\Sp w0 L w':=by
 have a:=H.newBk [.int .u8 h.flags.toNat,.int .u8 h.level.toNat,.int .u8 h.system.toNat,.int .u32 h.time,.slice B0 n c,.string (strOf h.name),.string (strOf h.note)] 47;have b:=Xl h B0 n c hn a hm1 hm2;rw [decide_eq_false hno] at b;replace b:=hid b;have f:(w.alloc (.cells #[.int .u8 h.flags.toNat,.int .u8 h.level.toNat,.int .u8 h.system.toNat,.int .u32 h.time,.slice B0 n c,.string (strOf h.name),.string (strOf h.note)] 47)).cell? ⟨w.heap.size,0,none⟩=some (.int .u8 h.flags.toNat):=a.cell 0 rfl 0;have g:(w.alloc (.cells #[.int .u8 h.flags.toNat,.int .u8 h.level.toNat,.int .u8 h.system.toNat,.int .u32 h.time,.slice B0 n c,.string (strOf h.name),.string (strOf h.note)] 47)).cell? ⟨w.heap.size,1,none⟩=some (.int .u8 h.level.toNat):=a.cell 0 rfl 1;have i:(w.alloc (.cells #[.int .u8 h.flags.toNat,.int .u8 h.level.toNat,.int .u8 h.system.toNat,.int .u32 h.time,.slice B0 n c,.string (strOf h.name),.string (strOf h.note)] 47)).cell? ⟨w.heap.size,2,none⟩=some (.int .u8 h.system.toNat):=a.cell 0 rfl 2;have j:(w.alloc (.cells #[.int .u8 h.flags.toNat,.int .u8 h.level.toNat,.int .u8 h.system.toNat,.int .u32 h.time,.slice B0 n c,.string (strOf h.name),.string (strOf h.note)] 47)).cell? ⟨w.heap.size,3,none⟩=some (.int .u32 h.time):=a.cell 0 rfl 3;have k:(w.alloc (.cells #[.int .u8 h.flags.toNat,.int .u8 h.level.toNat,.int .u8 h.system.toNat,.int .u32 h.time,.slice B0 n c,.string (strOf h.name),.string (strOf h.note)] 47)).cell? ⟨w.heap.size,4,none⟩=some (.slice B0 n c):=a.cell 0 rfl 4;have l:(w.alloc (.cells #[.int .u8 h.flags.toNat,.int .u8 h.level.toNat,.int .u8 h.system.toNat,.int .u32 h.time,.slice B0 n c,.string (strOf h.name),.string (strOf h.note)] 47)).cell? ⟨w.heap.size,5,none⟩=some (.string (strOf h.name)):=a.cell 0 rfl 5;have m:(w.alloc (.cells #[.int .u8 h.flags.toNat,.int .u8 h.level.toNat,.int .u8 h.system.toNat,.int .u32 h.time,.slice B0 n c,.string (strOf h.name),.string (strOf h.note)] 47)).cell? ⟨w.heap.size,6,none⟩=some (.string (strOf h.note)):=a.cell 0 rfl 6;clear hno a H hn;unfold hdV;go_enter Tryz.func19,Tryz.ntmps19
 go_wp2_with fail
 refine b.out.mono ?_;rintro _ o ⟨rfl,d⟩;go_wp2_with fail
 go_ret2;exact⟨rfl,d.tail⟩
def RLayMid (w0:World) (L:List Pr) (g:Nat) (hd:List Value) (l:List UInt8) (v:Value) (w:World):Prop:=Sp w0 (Row 5 1 v l.length (cells8 l)::Bk g 47 hd::L) w
theorem UO (h:PG.Hd) (B0:Option Addr) (n c:Nat) (BA:Option Addr) (nb cb:Nat) (H:Sp w0 L w) (hn:n=h.extra.length) (hok:PG.Ok h) (ht:h.time<4294967296) (hbx:Ent L fun w=>Byt w (.slice B0 n c) h.extra) (b:List UInt8) (hnb:nb=b.length) (hnm:nb<=1000) (hcb:nb<=cb) (hcm:cb<=maxLen) (hb:Ent L fun w=>Byt w (.slice BA nb cb) b) :
  Calls Tryz.prog 19 #[.agg (hdV h (.slice B0 n c)).toArray,.slice BA nb cb] w fun e w'=>∃v,e=.returned (.tuple #[v,.int .i64 0])/\Sp w0 (Row 5 1 v (PG.put h b).length (cells8 (PG.put h b))::L) w':=by
 obtain⟨E,F,j,k,l⟩:=info_parts info8;have d5:h.name.length<=65535:=hok.2.2.2.1.1;have d9:h.note.length<=65535:=hok.2.2.2.2.1;have e0:n<=65535:=by rw [hn]; exact hok.2.1
 have W:=H.newBk [.int .u8 h.flags.toNat,.int .u8 h.level.toNat,.int .u8 h.system.toNat,.int .u32 h.time,.slice B0 n c,.string (strOf h.name),.string (strOf h.note)] 47;have HM:=Xl h B0 n c hn W (by unfold maxLen; omega) (by unfold maxLen; omega);rw [decide_eq_true hok] at HM;replace HM:=hid HM;have HN:=hid hn.symm;have HB:=hid hbx;have a7:=hid hb;have a4:=hid hnb.symm;have b9:=hid hcm;have y1:¬ (nb:Int) > 16777216:=by omega
 have J:(w.alloc (.cells #[.int .u8 h.flags.toNat,.int .u8 h.level.toNat,.int .u8 h.system.toNat,.int .u32 h.time,.slice B0 n c,.string (strOf h.name),.string (strOf h.note)] 47)).cell? ⟨w.heap.size,0,none⟩=some (.int .u8 h.flags.toNat):=W.cell 0 rfl 0;have x:(w.alloc (.cells #[.int .u8 h.flags.toNat,.int .u8 h.level.toNat,.int .u8 h.system.toNat,.int .u32 h.time,.slice B0 n c,.string (strOf h.name),.string (strOf h.note)] 47)).cell? ⟨w.heap.size,1,none⟩=some (.int .u8 h.level.toNat):=W.cell 0 rfl 1;have y:(w.alloc (.cells #[.int .u8 h.flags.toNat,.int .u8 h.level.toNat,.int .u8 h.system.toNat,.int .u32 h.time,.slice B0 n c,.string (strOf h.name),.string (strOf h.note)] 47)).cell? ⟨w.heap.size,2,none⟩=some (.int .u8 h.system.toNat):=W.cell 0 rfl 2;have M:(w.alloc (.cells #[.int .u8 h.flags.toNat,.int .u8 h.level.toNat,.int .u8 h.system.toNat,.int .u32 h.time,.slice B0 n c,.string (strOf h.name),.string (strOf h.note)] 47)).cell? ⟨w.heap.size,3,none⟩=some (.int .u32 h.time):=W.cell 0 rfl 3;have A:(w.alloc (.cells #[.int .u8 h.flags.toNat,.int .u8 h.level.toNat,.int .u8 h.system.toNat,.int .u32 h.time,.slice B0 n c,.string (strOf h.name),.string (strOf h.note)] 47)).cell? ⟨w.heap.size,4,none⟩=some (.slice B0 n c):=W.cell 0 rfl 4;have B:(w.alloc (.cells #[.int .u8 h.flags.toNat,.int .u8 h.level.toNat,.int .u8 h.system.toNat,.int .u32 h.time,.slice B0 n c,.string (strOf h.name),.string (strOf h.note)] 47)).cell? ⟨w.heap.size,5,none⟩=some (.string (strOf h.name)):=W.cell 0 rfl 5;have C:(w.alloc (.cells #[.int .u8 h.flags.toNat,.int .u8 h.level.toNat,.int .u8 h.system.toNat,.int .u32 h.time,.slice B0 n c,.string (strOf h.name),.string (strOf h.note)] 47)).cell? ⟨w.heap.size,6,none⟩=some (.string (strOf h.note)):=W.cell 0 rfl 6;clear hok W H hn hbx hb hnb hcm;unfold hdV;go_enter Tryz.func19,Tryz.ntmps19
 go_wp2_with fail
 refine HM.out.mono ?_;rintro _ X ⟨rfl,U⟩;clear HM J x y M A B C;generalize w.heap.size=g at U ⊢;have J:X.cell? ⟨g,0,none⟩=some (.int .u8 h.flags.toNat):=U.cell 0 rfl 0;have x:X.cell? ⟨g,1,none⟩=some (.int .u8 h.level.toNat):=U.cell 0 rfl 1;have y:X.cell? ⟨g,2,none⟩=some (.int .u8 h.system.toNat):=U.cell 0 rfl 2;have M:X.cell? ⟨g,3,none⟩=some (.int .u32 h.time):=U.cell 0 rfl 3;have A:X.cell? ⟨g,4,none⟩=some (.slice B0 n c):=U.cell 0 rfl 4;have B:X.cell? ⟨g,5,none⟩=some (.string (strOf h.name)):=U.cell 0 rfl 5;have C:X.cell? ⟨g,6,none⟩=some (.string (strOf h.note)):=U.cell 0 rfl 6;have V:=(U.newBk [.int .u8 31,.int .u8 139,.int .u8 8,.int .u8 h.flags.toNat] 5).bkRow 1 4 rfl (by decide);have d3:(X.alloc (.cells #[.int .u8 31,.int .u8 139,.int .u8 8,.int .u8 h.flags.toNat] 5)).cell? ⟨g,3,none⟩=some (.int .u32 h.time):=V.cell 1 rfl 3;have i:=hid (YJ h.time 4 ht (by decide) V);clear U V;go_wp2_with fail
 refine i.out.mono ?_;rintro _ w2 ⟨v2,rfl,V⟩;clear i d3 J x y M A B C;generalize World.alloc _ _=wq;generalize X.heap.size=g1 at V ⊢;obtain⟨A2,d2,rfl,t,_,_⟩:=V.row_rd 0 rfl;have x:w2.cell? ⟨g,1,none⟩=some (.int .u8 h.level.toNat):=V.cell 2 rfl 1;have y:w2.cell? ⟨g,2,none⟩=some (.int .u8 h.system.toNat):=V.cell 2 rfl 2;go_wp2_with (at_builtin; refine wpList_append_sp rfl _ _ 24 rfl 5 E (.int .u8 0) 1 1 Tryz.underlying24 F j k l rfl (by decide) (.slice (some ⟨g1,0,none⟩) 4 4) 4 (cells8 [31,139,8,h.flags]) rfl V.swap A2 4 d2 (cells8 (PG.low h.time 4)) rfl (by rw [Zh,PG.low_len]) t (Zf _) (by unfold maxLen; omega) (by omega) ?_)
 intro v3 w3 K _;have K3:Sp w0 (Row 5 1 v3 8 (cells8 ([31,139,8,h.flags]++PG.low h.time 4))::Bk g 47 [.int .u8 h.flags.toNat,.int .u8 h.level.toNat,.int .u8 h.system.toNat,.int .u32 h.time,.slice B0 n c,.string (strOf h.name),.string (strOf h.note)]::L) w3:=by
  have h9:=K.pick 3 [0,2];rw [Zd];exact h9
 clear K V t x y;have x:w3.cell? ⟨g,1,none⟩=some (.int .u8 h.level.toNat):=K3.cell 1 rfl 1;have y:w3.cell? ⟨g,2,none⟩=some (.int .u8 h.system.toNat):=K3.cell 1 rfl 2;have N:=hid (K3.newBk [.int .u8 h.level.toNat,.int .u8 h.system.toNat] 5);go_wp2_with (at_builtin; refine wpList_append_sp rfl _ _ 24 rfl 5 E (.int .u8 0) 1 1 Tryz.underlying24 F j k l rfl (by decide) v3 8 (cells8 ([31,139,8,h.flags]++PG.low h.time 4)) rfl N.out.swap (some ⟨w3.heap.size,0,none⟩) 2 2 ([.int .u8 h.level.toNat,.int .u8 h.system.toNat]) rfl rfl (Rd.of_blk (N.out.blk 0 rfl)) (Wc _ _) (by unfold maxLen; omega) (by omega) ?_)
 intro v4 w4 K _;have K4:Sp w0 (Row 5 1 v4 10 (cells8 ([31,139,8,h.flags]++(PG.low h.time 4++[h.level,h.system])))::Bk g 47 [.int .u8 h.flags.toNat,.int .u8 h.level.toNat,.int .u8 h.system.toNat,.int .u32 h.time,.slice B0 n c,.string (strOf h.name),.string (strOf h.note)]::L) w4:=by
  have h9:=K.pick 3 [0,2];rw [<- List.append_assoc,Zd _ [h.level,h.system]];exact h9
 clear K N K3 x y;obtain⟨G,Y⟩:=exq ([31,139,8,h.flags]++(PG.low h.time 4++[h.level,h.system]));have a3:G.length=10:=by rw [<- Y]; rfl
 rw [Y,<- a3] at K4;have a8:=hid Y;have e1:G.length<=10:=by omega
 clear Y a3;have a:=K4;clear K4;have J:w4.cell? ⟨g,0,none⟩=some (.int .u8 h.flags.toNat):=a.cell 1 rfl 0;have x:w4.cell? ⟨g,1,none⟩=some (.int .u8 h.level.toNat):=a.cell 1 rfl 1;have y:w4.cell? ⟨g,2,none⟩=some (.int .u8 h.system.toNat):=a.cell 1 rfl 2;have M:w4.cell? ⟨g,3,none⟩=some (.int .u32 h.time):=a.cell 1 rfl 3;have A:w4.cell? ⟨g,4,none⟩=some (.slice B0 n c):=a.cell 1 rfl 4;have B:w4.cell? ⟨g,5,none⟩=some (.string (strOf h.name)):=a.cell 1 rfl 5;have C:w4.cell? ⟨g,6,none⟩=some (.string (strOf h.note)):=a.cell 1 rfl 6;have i:=hid (Zo h (.slice B0 n c) 4 (by omega) a);go_wp2_with fail
 refine i.out.mono ?_;rintro _ w5 ⟨rfl,m⟩;clear i a J x y M A B C;obtain⟨b1,f⟩:=exq (PG.has h.flags 4);rw [f];have p:=hid f;clear f;go_upto_if 31 with (fail)
 go_cut [6] from 30 (fun s6 wx=>RLayMid w0 L g [.int .u8 h.flags.toNat,.int .u8 h.level.toNat,.int .u8 h.system.toNat,.int .u32 h.time,.slice B0 n c,.string (strOf h.name),.string (strOf h.note)] (G++PG.exW h) s6 wx)
 case first =>
  cases b1 with
  | false =>
   have r:PG.exW h=[]:=by unfold PG.exW; rw [p.out]; rfl
   have d:RLayMid w0 L g [.int .u8 h.flags.toNat,.int .u8 h.level.toNat,.int .u8 h.system.toNat,.int .u32 h.time,.slice B0 n c,.string (strOf h.name),.string (strOf h.note)] (G++PG.exW h) v4 w5:=by
    unfold RLayMid;rw [r,List.append_nil];exact m
   replace d:=hid d;clear m r;go_wp2_with fail
   go_meet
   exact d.out
  | true =>
   have r:PG.exW h=PG.low n 2++h.extra:=by unfold PG.exW; rw [p.out,HN.out]; rfl
   have I:=hid r;clear r;have A:w5.cell? ⟨g,4,none⟩=some (.slice B0 n c):=m.cell 1 rfl 4;have i:=hid (YJ n 2 (by omega) (by decide) m);go_wp2_with fail
   refine i.out.mono ?_;rintro _ w6 ⟨v6,rfl,d⟩;clear i m A;obtain⟨A6,d6,rfl,t,_,_⟩:=d.row_rd 0 rfl;go_wp2_with (at_builtin; refine wpList_append_sp rfl _ _ 24 rfl 5 E (.int .u8 0) 1 1 Tryz.underlying24 F j k l rfl (by decide) v4 G.length (cells8 G) rfl d.swap A6 2 d6 (cells8 (PG.low n 2)) rfl (by rw [Zh,PG.low_len]) t (Zf _) (by unfold maxLen; omega) (by omega) ?_)
   intro v7 w7 K _;have s:=K.pick 3 [0,2];rw [<- Zd] at s;have A:w7.cell? ⟨g,4,none⟩=some (.slice B0 n c):=s.cell 1 rfl 4;have a9:=hid (HB.out _ _ s.tail2);clear K d t;go_wp2_with (at_builtin; refine wpList_append_sp rfl _ _ 24 rfl 5 E (.int .u8 0) 1 1 Tryz.underlying24 F j k l rfl (by decide) v7 (G.length+2) (cells8 (G++PG.low n 2)) rfl s B0 n c (cells8 h.extra) rfl (by rw [Zh,HN.out]) (Z4 a9.out) (Zf _) (by unfold maxLen; omega) (by omega) ?_)
   intro v8 w8 u _;have O:RLayMid w0 L g [.int .u8 h.flags.toNat,.int .u8 h.level.toNat,.int .u8 h.system.toNat,.int .u32 h.time,.slice B0 n c,.string (strOf h.name),.string (strOf h.note)] (G++PG.exW h) v8 w8:=by
    unfold RLayMid;rw [I.out,<- List.append_assoc,Zd _ h.extra,List.length_append,List.length_append,PG.low_len,HN.out];exact u
   replace O:=hid O;clear s u a9 I A;go_wp2_with fail
   go_meet
   exact O.out
 case rest =>
  have a:Sp w0 (Row 5 1 u6 (G++PG.exW h).length (cells8 (G++PG.exW h))::Bk g 47 [.int .u8 h.flags.toNat,.int .u8 h.level.toNat,.int .u8 h.system.toNat,.int .u32 h.time,.slice B0 n c,.string (strOf h.name),.string (strOf h.note)]::L) wc:=hcut;obtain⟨P,Z⟩:=exq (G++PG.exW h);have c9:P.length<=65547:=by rw [<- Z]; rw [List.length_append]; unfold PG.exW; split; rw [List.length_append,PG.low_len,HN.out]; omega; simp; omega
  rw [Z] at a;have b0:=hid Z;clear Z hcut;have J:wc.cell? ⟨g,0,none⟩=some (.int .u8 h.flags.toNat):=a.cell 1 rfl 0;have x:wc.cell? ⟨g,1,none⟩=some (.int .u8 h.level.toNat):=a.cell 1 rfl 1;have y:wc.cell? ⟨g,2,none⟩=some (.int .u8 h.system.toNat):=a.cell 1 rfl 2;have M:wc.cell? ⟨g,3,none⟩=some (.int .u32 h.time):=a.cell 1 rfl 3;have A:wc.cell? ⟨g,4,none⟩=some (.slice B0 n c):=a.cell 1 rfl 4;have B:wc.cell? ⟨g,5,none⟩=some (.string (strOf h.name)):=a.cell 1 rfl 5;have C:wc.cell? ⟨g,6,none⟩=some (.string (strOf h.note)):=a.cell 1 rfl 6;have i:=hid (Zo h (.slice B0 n c) 8 (by omega) a);go_wp2_with fail
  refine i.out.mono ?_;rintro _ w5 ⟨rfl,m⟩;clear i a J x y M A B C;obtain⟨b1,f⟩:=exq (PG.has h.flags 8);rw [f];have p:=hid f;clear f;go_upto_if 44 with (fail)
  go_cut [6] from 43 (fun s6 wx=>RLayMid w0 L g [.int .u8 h.flags.toNat,.int .u8 h.level.toNat,.int .u8 h.system.toNat,.int .u32 h.time,.slice B0 n c,.string (strOf h.name),.string (strOf h.note)] (P++PG.txW h.flags 8 h.name) s6 wx)
  case first =>
   cases b1 with
   | false =>
    have r:PG.txW h.flags 8 h.name=[]:=by unfold PG.txW; rw [p.out]; rfl
    have d:RLayMid w0 L g [.int .u8 h.flags.toNat,.int .u8 h.level.toNat,.int .u8 h.system.toNat,.int .u32 h.time,.slice B0 n c,.string (strOf h.name),.string (strOf h.note)] (P++PG.txW h.flags 8 h.name) u6 w5:=by
     unfold RLayMid;rw [r,List.append_nil];exact m
    replace d:=hid d;clear m r;go_wp2_with fail
    go_meet
    exact d.out
   | true =>
    have r:PG.txW h.flags 8 h.name=h.name++[0]:=by unfold PG.txW; rw [p.out]; rfl
    have B:w5.cell? ⟨g,5,none⟩=some (.string (strOf h.name)):=m.cell 1 rfl 5;have I:=hid r;clear r;go_wp2_with (at_builtin; refine Zw rfl _ _ 24 9 rfl 5 E Tryz.underlying24 Tryz.underlying9 F j k l u6 P.length (cells8 P) rfl m h.name rfl (by omega) ?_)
    intro v6 w6 d;rw [<- Zd] at d;have N:=hid (d.newBk [.int .u8 0] 5);clear d m B;go_wp2_with (at_builtin; refine wpList_append_sp rfl _ _ 24 rfl 5 E (.int .u8 0) 1 1 Tryz.underlying24 F j k l rfl (by decide) v6 (P.length+h.name.length) (cells8 (P++h.name)) rfl N.out.swap (some ⟨w6.heap.size,0,none⟩) 1 1 [.int .u8 0] rfl rfl (Rd.of_blk (N.out.blk 0 rfl)) (YE 0) (by unfold maxLen; omega) (by omega) ?_)
    intro v7 w7 s _;have u:RLayMid w0 L g [.int .u8 h.flags.toNat,.int .u8 h.level.toNat,.int .u8 h.system.toNat,.int .u32 h.time,.slice B0 n c,.string (strOf h.name),.string (strOf h.note)] (P++PG.txW h.flags 8 h.name) v7 w7:=by
     unfold RLayMid;rw [I.out,<- List.append_assoc,Zd _ [0],List.length_append,List.length_append];exact s.pick 3 [0,2]
    replace u:=hid u;clear s N I;go_wp2_with fail
    go_meet
    exact u.out
  case rest =>
   have a:Sp w0 (Row 5 1 u6 (P++PG.txW h.flags 8 h.name).length (cells8 (P++PG.txW h.flags 8 h.name))::Bk g 47 [.int .u8 h.flags.toNat,.int .u8 h.level.toNat,.int .u8 h.system.toNat,.int .u32 h.time,.slice B0 n c,.string (strOf h.name),.string (strOf h.note)]::L) wc:=hcut;obtain⟨Q,a0⟩:=exq (P++PG.txW h.flags 8 h.name);have d0:Q.length<=131083:=by rw [<- a0]; rw [List.length_append]; unfold PG.txW; split; rw [List.length_append,List.length_singleton]; omega; simp; omega
   rw [a0] at a;have b2:=hid a0;clear a0 hcut;have J:wc.cell? ⟨g,0,none⟩=some (.int .u8 h.flags.toNat):=a.cell 1 rfl 0;have x:wc.cell? ⟨g,1,none⟩=some (.int .u8 h.level.toNat):=a.cell 1 rfl 1;have y:wc.cell? ⟨g,2,none⟩=some (.int .u8 h.system.toNat):=a.cell 1 rfl 2;have M:wc.cell? ⟨g,3,none⟩=some (.int .u32 h.time):=a.cell 1 rfl 3;have A:wc.cell? ⟨g,4,none⟩=some (.slice B0 n c):=a.cell 1 rfl 4;have B:wc.cell? ⟨g,5,none⟩=some (.string (strOf h.name)):=a.cell 1 rfl 5;have C:wc.cell? ⟨g,6,none⟩=some (.string (strOf h.note)):=a.cell 1 rfl 6;have i:=hid (Zo h (.slice B0 n c) 16 (by omega) a);go_wp2_with fail
   refine i.out.mono ?_;rintro _ w5 ⟨rfl,m⟩;clear i a J x y M A B C;obtain⟨b1,f⟩:=exq (PG.has h.flags 16);rw [f];have p:=hid f;clear f;go_upto_if 53 with (fail)
   go_cut [6] from 52 (fun s6 wx=>RLayMid w0 L g [.int .u8 h.flags.toNat,.int .u8 h.level.toNat,.int .u8 h.system.toNat,.int .u32 h.time,.slice B0 n c,.string (strOf h.name),.string (strOf h.note)] (Q++PG.txW h.flags 16 h.note) s6 wx)
   case first =>
    cases b1 with
    | false =>
     have r:PG.txW h.flags 16 h.note=[]:=by unfold PG.txW; rw [p.out]; rfl
     have d:RLayMid w0 L g [.int .u8 h.flags.toNat,.int .u8 h.level.toNat,.int .u8 h.system.toNat,.int .u32 h.time,.slice B0 n c,.string (strOf h.name),.string (strOf h.note)] (Q++PG.txW h.flags 16 h.note) u6 w5:=by
      unfold RLayMid;rw [r,List.append_nil];exact m
     replace d:=hid d;clear m r;go_wp2_with fail
     go_meet
     exact d.out
    | true =>
     have r:PG.txW h.flags 16 h.note=h.note++[0]:=by unfold PG.txW; rw [p.out]; rfl
     have C:w5.cell? ⟨g,6,none⟩=some (.string (strOf h.note)):=m.cell 1 rfl 6;have I:=hid r;clear r;go_wp2_with (at_builtin; refine Zw rfl _ _ 24 9 rfl 5 E Tryz.underlying24 Tryz.underlying9 F j k l u6 Q.length (cells8 Q) rfl m h.note rfl (by omega) ?_)
     intro v6 w6 d;rw [<- Zd] at d;have N:=hid (d.newBk [.int .u8 0] 5);clear d m C;go_wp2_with (at_builtin; refine wpList_append_sp rfl _ _ 24 rfl 5 E (.int .u8 0) 1 1 Tryz.underlying24 F j k l rfl (by decide) v6 (Q.length+h.note.length) (cells8 (Q++h.note)) rfl N.out.swap (some ⟨w6.heap.size,0,none⟩) 1 1 [.int .u8 0] rfl rfl (Rd.of_blk (N.out.blk 0 rfl)) (YE 0) (by unfold maxLen; omega) (by omega) ?_)
     intro v7 w7 s _;have u:RLayMid w0 L g [.int .u8 h.flags.toNat,.int .u8 h.level.toNat,.int .u8 h.system.toNat,.int .u32 h.time,.slice B0 n c,.string (strOf h.name),.string (strOf h.note)] (Q++PG.txW h.flags 16 h.note) v7 w7:=by
      unfold RLayMid;rw [I.out,<- List.append_assoc,Zd _ [0],List.length_append,List.length_append];exact s.pick 3 [0,2]
     replace u:=hid u;clear s N I;go_wp2_with fail
     go_meet
     exact u.out
   case rest =>
    have a:Sp w0 (Row 5 1 u6 (Q++PG.txW h.flags 16 h.note).length (cells8 (Q++PG.txW h.flags 16 h.note))::Bk g 47 [.int .u8 h.flags.toNat,.int .u8 h.level.toNat,.int .u8 h.system.toNat,.int .u32 h.time,.slice B0 n c,.string (strOf h.name),.string (strOf h.note)]::L) wc:=hcut;obtain⟨o,a1⟩:=exq (Q++PG.txW h.flags 16 h.note);have d1:o.length<=196619:=by rw [<- a1]; rw [List.length_append]; unfold PG.txW; split; rw [List.length_append,List.length_singleton]; omega; simp; omega
    rw [a1] at a;have b3:=hid a1;clear a1 hcut;have J:wc.cell? ⟨g,0,none⟩=some (.int .u8 h.flags.toNat):=a.cell 1 rfl 0;have x:wc.cell? ⟨g,1,none⟩=some (.int .u8 h.level.toNat):=a.cell 1 rfl 1;have y:wc.cell? ⟨g,2,none⟩=some (.int .u8 h.system.toNat):=a.cell 1 rfl 2;have M:wc.cell? ⟨g,3,none⟩=some (.int .u32 h.time):=a.cell 1 rfl 3;have A:wc.cell? ⟨g,4,none⟩=some (.slice B0 n c):=a.cell 1 rfl 4;have B:wc.cell? ⟨g,5,none⟩=some (.string (strOf h.name)):=a.cell 1 rfl 5;have C:wc.cell? ⟨g,6,none⟩=some (.string (strOf h.note)):=a.cell 1 rfl 6;have i:=hid (Zo h (.slice B0 n c) 2 (by omega) a);go_wp2_with fail
    refine i.out.mono ?_;rintro _ w5 ⟨rfl,m⟩;clear i a J x y M A B C;obtain⟨b1,f⟩:=exq (PG.has h.flags 2);rw [f];have p:=hid f;clear f;go_upto_if 62 with (fail)
    go_cut [6] from 61 (fun s6 wx=>RLayMid w0 L g [.int .u8 h.flags.toNat,.int .u8 h.level.toNat,.int .u8 h.system.toNat,.int .u32 h.time,.slice B0 n c,.string (strOf h.name),.string (strOf h.note)] (o++PG.suW h.flags o) s6 wx)
    case first =>
     cases b1 with
     | false =>
      have r:PG.suW h.flags o=[]:=by unfold PG.suW; rw [p.out]; rfl
      have d:RLayMid w0 L g [.int .u8 h.flags.toNat,.int .u8 h.level.toNat,.int .u8 h.system.toNat,.int .u32 h.time,.slice B0 n c,.string (strOf h.name),.string (strOf h.note)] (o++PG.suW h.flags o) u6 w5:=by
       unfold RLayMid;rw [r,List.append_nil];exact m
      replace d:=hid d;clear m r;go_wp2_with fail
      go_meet
      exact d.out
     | true =>
      have r:PG.suW h.flags o=PG.low (PCrc.of o) 2:=by unfold PG.suW; rw [p.out]; rfl
      have I:=hid r;clear r;obtain⟨V6,d6,rfl,_,_⟩:=Row.form m 0 rfl;have R:=hid (Vg (.slice V6 o.length d6) o w5 (m.row_byt 0 rfl));go_wp2_with fail
      refine R.out.mono ?_;rintro _ _ ⟨rfl,rfl⟩;clear R;have S:=PCrc.of_lt o;obtain⟨z,hz⟩:=exq (PCrc.of o);rw [hz] at S I;rw [hz];clear hz;have i:=hid (YJ z 2 S (by decide) m);clear m;go_wp2_with fail
      refine i.out.mono ?_;rintro _ w7 ⟨v7,rfl,s⟩;clear i;obtain⟨A7,d7,rfl,t,_,_⟩:=s.row_rd 0 rfl;go_wp2_with (at_builtin; refine wpList_append_sp rfl _ _ 24 rfl 5 E (.int .u8 0) 1 1 Tryz.underlying24 F j k l rfl (by decide) (.slice V6 o.length d6) o.length (cells8 o) rfl s.swap A7 2 d7 (cells8 (PG.low z 2)) rfl (by rw [Zh,PG.low_len]) t (Zf _) (by unfold maxLen; omega) (by omega) ?_)
      intro v8 w8 u _;have O:RLayMid w0 L g [.int .u8 h.flags.toNat,.int .u8 h.level.toNat,.int .u8 h.system.toNat,.int .u32 h.time,.slice B0 n c,.string (strOf h.name),.string (strOf h.note)] (o++PG.suW h.flags o) v8 w8:=by
       unfold RLayMid;rw [I.out,Zd,List.length_append,PG.low_len];exact u.pick 3 [0,2]
      replace O:=hid O;clear s u t I;go_wp2_with fail
      go_meet
      exact O.out
    case rest =>
     have a:Sp w0 (Row 5 1 u6 (o++PG.suW h.flags o).length (cells8 (o++PG.suW h.flags o))::Bk g 47 [.int .u8 h.flags.toNat,.int .u8 h.level.toNat,.int .u8 h.system.toNat,.int .u32 h.time,.slice B0 n c,.string (strOf h.name),.string (strOf h.note)]::L) wc:=hcut;obtain⟨l9,a2⟩:=exq (o++PG.suW h.flags o);have d4:l9.length<=196621:=by rw [<- a2]; rw [List.length_append]; unfold PG.suW; split; rw [PG.low_len]; omega; simp; omega
     rw [a2] at a;have b4:=hid a2;clear a2 hcut;have e8:o=PG.lay0 h:=by
      unfold PG.lay0;rw [<- b3.out,<- b2.out,<- b0.out,<- a8.out];simp only [List.append_assoc]
     have e9:PG.lay h=l9:=by unfold PG.lay; rw [<- e8]; exact b4.out
     have E9:=hid e9;clear e8 e9 a8 b0 b2 b3 b4;have b5:=hid (TD BA nb cb b a a4.out.symm hnm hcb b9.out (fun _ _ q=>a7.out _ _ q.tail2));clear a;go_wp2_with fail
     refine b5.out.mono ?_;rintro _ w6 ⟨v6,rfl,d⟩;clear b5;have b6:=PD.defl_le b (by rw [a4.out]; omega);obtain⟨D,hD⟩:=exq (PD.defl b);rw [hD] at d b6;obtain⟨dn,a5⟩:=exq D.length;rw [a5] at d b6;have b7:=hid a5;have HD:=hid hD;clear hD a5;obtain⟨A6,d6,rfl,t,_,_⟩:=d.row_rd 0 rfl;go_wp2_with (at_builtin; refine wpList_append_sp rfl _ _ 24 rfl 5 E (.int .u8 0) 1 1 Tryz.underlying24 F j k l rfl (by decide) u6 l9.length (cells8 l9) rfl d.swap A6 dn d6 (cells8 D) rfl (by rw [Zh,b7.out]) t (Zf _) (by unfold maxLen; omega) (by omega) ?_)
     intro v7 w7 K _;have s:=K.pick 3 [0,2];rw [<- Zd] at s;clear K d t;have R:=hid (Vg (.slice BA nb cb) b w7 (a7.out _ _ s.tail2));go_wp2_with fail
     refine R.out.mono ?_;rintro _ _ ⟨rfl,rfl⟩;clear R;have S:=PCrc.of_lt b;obtain⟨z,hz⟩:=exq (PCrc.of b);rw [hz];rw [hz] at S;have HZ:=hid hz;clear hz;have i:=hid (YJ z 4 S (by decide) s);clear s;go_wp2_with fail
     refine i.out.mono ?_;rintro _ w8 ⟨v8,rfl,u⟩;clear i;obtain⟨A8,d8,rfl,t,_,_⟩:=u.row_rd 0 rfl;go_wp2_with (at_builtin; refine wpList_append_sp rfl _ _ 24 rfl 5 E (.int .u8 0) 1 1 Tryz.underlying24 F j k l rfl (by decide) v7 (l9.length+dn) (cells8 (l9++D)) rfl u.swap A8 4 d8 (cells8 (PG.low z 4)) rfl (by rw [Zh,PG.low_len]) t (Zf _) (by unfold maxLen; omega) (by omega) ?_)
     intro v9 w9 K _;have O:=K.pick 3 [0,2];rw [<- Zd] at O;clear K u t;have i:=hid (YJ nb 4 (by omega) (by decide) O);clear O;go_wp2_with fail
     refine i.out.mono ?_;rintro _ e2 ⟨e3,rfl,a6⟩;clear i;obtain⟨c7,c8,rfl,t,_,_⟩:=a6.row_rd 0 rfl;go_wp2_with (at_builtin; refine wpList_append_sp rfl _ _ 24 rfl 5 E (.int .u8 0) 1 1 Tryz.underlying24 F j k l rfl (by decide) v9 (l9.length+dn+4) (cells8 (l9++D++PG.low z 4)) rfl a6.swap c7 4 c8 (cells8 (PG.low nb 4)) rfl (by rw [Zh,PG.low_len]) t (Zf _) (by unfold maxLen; omega) (by omega) ?_)
     intro e4 e5 K _;have T:=K.pick 3 [0];rw [<- Zd] at T;clear K a6 t;have ep:PG.put h b=l9++(D++PG.low z 4)++PG.low nb 4:=by
      unfold PG.put PG.tailW;rw [E9.out,HD.out,HZ.out,a4.out];simp only [List.append_assoc]
     have b8:(PG.put h b).length=l9.length+dn+4+4:=by rw [ep]; simp only [List.length_append,PG.low_len,b7.out]; omega
     rw [<- ep,<- b8] at T;replace T:=hid T;clear ep b8;go_wp2_with fail
     go_ret2;exact⟨_,rfl,T.out⟩
theorem X3 (h:PG.Hd) (A:Option Addr) (n c:Nat) (hn:n=h.extra.length) (H:Sp w0 L w) (hm1:h.name.length<=maxLen) (hm2:h.note.length<=maxLen) :
  Calls Tryz.prog 20 #[.agg (hdV h (.slice A n c)).toArray] w fun e w'=>e=.returned (.bool (decide (PG.Ok h)))/\Sp w0 L w':=by
 obtain⟨r,x⟩:=exq (decide (PG.Ok h));rw [x];have j:=hid x;have m:=hid hn.symm;clear x hn;have g:=H.newBk [.int .u8 h.flags.toNat,.int .u8 h.level.toNat,.int .u8 h.system.toNat,.int .u32 h.time,.slice A n c,.string (strOf h.name),.string (strOf h.note)] 45;have F:(w.alloc (.cells #[.int .u8 h.flags.toNat,.int .u8 h.level.toNat,.int .u8 h.system.toNat,.int .u32 h.time,.slice A n c,.string (strOf h.name),.string (strOf h.note)] 45)).cell? ⟨w.heap.size,0,none⟩=some (.int .u8 h.flags.toNat):=g.cell 0 rfl 0;have G:(w.alloc (.cells #[.int .u8 h.flags.toNat,.int .u8 h.level.toNat,.int .u8 h.system.toNat,.int .u32 h.time,.slice A n c,.string (strOf h.name),.string (strOf h.note)] 45)).cell? ⟨w.heap.size,1,none⟩=some (.int .u8 h.level.toNat):=g.cell 0 rfl 1;have I:(w.alloc (.cells #[.int .u8 h.flags.toNat,.int .u8 h.level.toNat,.int .u8 h.system.toNat,.int .u32 h.time,.slice A n c,.string (strOf h.name),.string (strOf h.note)] 45)).cell? ⟨w.heap.size,2,none⟩=some (.int .u8 h.system.toNat):=g.cell 0 rfl 2;have J:(w.alloc (.cells #[.int .u8 h.flags.toNat,.int .u8 h.level.toNat,.int .u8 h.system.toNat,.int .u32 h.time,.slice A n c,.string (strOf h.name),.string (strOf h.note)] 45)).cell? ⟨w.heap.size,3,none⟩=some (.int .u32 h.time):=g.cell 0 rfl 3;have K:(w.alloc (.cells #[.int .u8 h.flags.toNat,.int .u8 h.level.toNat,.int .u8 h.system.toNat,.int .u32 h.time,.slice A n c,.string (strOf h.name),.string (strOf h.note)] 45)).cell? ⟨w.heap.size,4,none⟩=some (.slice A n c):=g.cell 0 rfl 4;have M:(w.alloc (.cells #[.int .u8 h.flags.toNat,.int .u8 h.level.toNat,.int .u8 h.system.toNat,.int .u32 h.time,.slice A n c,.string (strOf h.name),.string (strOf h.note)] 45)).cell? ⟨w.heap.size,5,none⟩=some (.string (strOf h.name)):=g.cell 0 rfl 5;have o:(w.alloc (.cells #[.int .u8 h.flags.toNat,.int .u8 h.level.toNat,.int .u8 h.system.toNat,.int .u32 h.time,.slice A n c,.string (strOf h.name),.string (strOf h.note)] 45)).cell? ⟨w.heap.size,6,none⟩=some (.string (strOf h.note)):=g.cell 0 rfl 6;have D:=hid g;clear g;unfold hdV;go_enter Tryz.func20,Tryz.ntmps20
 by_cases y:h.flags.toNat<32
 ·have N:(h.flags.toNat:Int)<32:=by omega
  by_cases z:n<=65535
  ·have O:(n:Int)<=65535:=by omega
   by_cases v:n=0
   ·obtain rfl:n=0:=v;have p:=hid (YD w.heap.size h (.slice A 0 c) h.name 8 (.inl rfl) D.out hm1);go_wp2_with fail
    refine p.out.mono ?_;rintro _ B ⟨rfl,k⟩;clear p;cases hq:decide (PG.textOk h.flags 8 h.name) with
    | false =>
     have a:decide (PG.Ok h)=false:=decide_eq_false fun t=>of_decide_eq_false hq t.2.2.2.1;rw [j.out] at a;replace a:=hid a;clear hq;go_wp2_with fail
     go_ret;exact⟨congrArg (fun b=>Ending.returned (.bool b)) a.out.symm,k.tail⟩
    | true =>
     have f:=of_decide_eq_true hq;have d:decide (PG.Ok h)=decide (PG.textOk h.flags 16 h.note):=by
      have e:PG.Ok h↔PG.textOk h.flags 16 h.note:=⟨fun t=>t.2.2.2.2,fun t=>⟨y,by rw [m.out]; exact z,.inl (List.length_eq_zero_iff.1 m.out),f,t⟩⟩;by_cases q:PG.textOk h.flags 16 h.note
      ·rw [decide_eq_true q]; exact decide_eq_true (e.2 q)
      ·rw [decide_eq_false q]; exact decide_eq_false fun t=>q (e.1 t)
     rw [j.out] at d;replace d:=hid d;have s:=hid (YD w.heap.size h (.slice A 0 c) h.note 16 (.inr rfl) k hm2);have o:B.cell? ⟨w.heap.size,6,none⟩=some (.string (strOf h.note)):=k.cell 0 rfl 6;clear hq f;go_wp2_with fail
     refine s.out.mono ?_;rintro _ P ⟨rfl,C⟩;clear s o;go_wp2;go_ret;exact⟨congrArg (fun b=>Ending.returned (.bool b)) d.out.symm,C.tail⟩
   ·have R:¬ (n:Int)=0:=by omega
    have E:=hid (Yr h (.slice A n c) 4 (by omega) D.out);have u : ¬ h.extra=[]:=fun e=>v (by rw [<- m.out,e]; rfl);replace v:=hid u;clear u;go_wp2_with fail
    refine E.out.mono ?_;rintro _ l ⟨rfl,i⟩;have F:l.cell? ⟨w.heap.size,0,none⟩=some (.int .u8 h.flags.toNat):=i.cell 0 rfl 0;have G:l.cell? ⟨w.heap.size,1,none⟩=some (.int .u8 h.level.toNat):=i.cell 0 rfl 1;have I:l.cell? ⟨w.heap.size,2,none⟩=some (.int .u8 h.system.toNat):=i.cell 0 rfl 2;have J:l.cell? ⟨w.heap.size,3,none⟩=some (.int .u32 h.time):=i.cell 0 rfl 3;have K:l.cell? ⟨w.heap.size,4,none⟩=some (.slice A n c):=i.cell 0 rfl 4;have M:l.cell? ⟨w.heap.size,5,none⟩=some (.string (strOf h.name)):=i.cell 0 rfl 5;have o:l.cell? ⟨w.heap.size,6,none⟩=some (.string (strOf h.note)):=i.cell 0 rfl 6;clear E;cases hq:PG.has h.flags 4 with
    | false =>
     have a:decide (PG.Ok h)=false:=decide_eq_false fun t=>by
      rcases t.2.2.1 with e | e
      ·exact v.out e
      ·rw [hq] at e; cases e
     rw [j.out] at a;replace a:=hid a;clear hq;go_wp2_with fail
     go_ret;exact⟨congrArg (fun b=>Ending.returned (.bool b)) a.out.symm,i.tail⟩
    | true =>
     have Q:=hid hq;clear hq;have p:=hid (YD w.heap.size h (.slice A n c) h.name 8 (.inl rfl) i hm1);go_wp2_with fail
     refine p.out.mono ?_;rintro _ B ⟨rfl,k⟩;clear p;cases hq:decide (PG.textOk h.flags 8 h.name) with
     | false =>
      have a:decide (PG.Ok h)=false:=decide_eq_false fun t=>of_decide_eq_false hq t.2.2.2.1;rw [j.out] at a;replace a:=hid a;clear hq;go_wp2_with fail
      go_ret;exact⟨congrArg (fun b=>Ending.returned (.bool b)) a.out.symm,k.tail⟩
     | true =>
      have f:=of_decide_eq_true hq;have d:decide (PG.Ok h)=decide (PG.textOk h.flags 16 h.note):=by
       have e:PG.Ok h↔PG.textOk h.flags 16 h.note:=⟨fun t=>t.2.2.2.2,fun t=>⟨y,by rw [m.out]; exact z,.inr Q.out,f,t⟩⟩;by_cases q:PG.textOk h.flags 16 h.note
       ·rw [decide_eq_true q]; exact decide_eq_true (e.2 q)
       ·rw [decide_eq_false q]; exact decide_eq_false fun t=>q (e.1 t)
      rw [j.out] at d;replace d:=hid d;have s:=hid (YD w.heap.size h (.slice A n c) h.note 16 (.inr rfl) k hm2);have o:B.cell? ⟨w.heap.size,6,none⟩=some (.string (strOf h.note)):=k.cell 0 rfl 6;clear hq f;go_wp2_with fail
      refine s.out.mono ?_;rintro _ P ⟨rfl,C⟩;clear s o;go_wp2;go_ret;exact⟨congrArg (fun b=>Ending.returned (.bool b)) d.out.symm,C.tail⟩
  ·have O:¬ (n:Int)<=65535:=by omega
   have a:decide (PG.Ok h)=false:=decide_eq_false fun t=>z (by rw [<- m.out]; exact t.2.1);rw [j.out] at a;replace a:=hid a;go_wp2_with fail
   go_ret;exact⟨congrArg (fun b=>Ending.returned (.bool b)) a.out.symm,H.alloc _⟩
 ·have N:¬ (h.flags.toNat:Int)<32:=by omega
  have a:decide (PG.Ok h)=false:=decide_eq_false fun t=>y t.1;rw [j.out] at a;replace a:=hid a;go_wp2_with fail
  go_ret;exact⟨congrArg (fun b=>Ending.returned (.bool b)) a.out.symm,H.alloc _⟩
end Go.Proofs.YteajimobgkempaaGreatDoor

