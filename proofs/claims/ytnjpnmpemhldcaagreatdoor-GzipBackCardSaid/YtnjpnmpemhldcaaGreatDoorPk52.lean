/- A pack. -/
import Derived.Test.YtnjpnmpemhldcaaGreatDoorPk51
set_option linter.all false
set_option maxRecDepth 100000
set_option maxHeartbeats 8000000
namespace Go.Proofs.YtnjpnmpemhldcaaGreatDoor
variable {w0 w:World} {L:List Pr}
open Go.RowKit
namespace PG
theorem put_ge (h:Hd) (b:List UInt8):18<=(put h b).length:=by
 have a:10<=(lay h).length:=by
  unfold lay lay0;simp only [List.length_append,low_len,List.length_cons,List.length_nil];omega
 rw [put_len];omega
theorem O_take_le (l:List Mem) (i:Nat):(O (l.take i)).length<=(O l).length:=by
 have:O l=O (l.take i)++O (l.drop i):=by rw [<- O_append,List.take_append_drop]
 rw [this,List.length_append];omega
theorem all_nil (m:Nat):all [] m=.error 4:=rfl
end PG
theorem LEnd.bad {w0:World} {T:Except Nat (List UInt8 × List PG.Sp4)} {c:Nat} (h:T=.error c) {e:Ending} {w' : World} (k:LEnd w0 L T e w'):e=.returned (.tuple #[.slice none 0 0,.slice none 0 0,.int .i64 c])/\Sp w0 L w':=by
 subst h; exact k
theorem LEnd.got {w0:World} {T:Except Nat (List UInt8 × List PG.Sp4)} {out:List UInt8} {sp:List PG.Sp4} (h:T=.ok (out,sp)) {e:Ending} {w' : World} (k:LEnd w0 L T e w'):∃A ca S cs,e=.returned (.tuple #[.slice A out.length ca,.slice S sp.length cs,.int .i64 0])/\Sp w0 (Row 5 1 (.slice A out.length ca) out.length (cells8 out)::Row 44 4 (.slice S sp.length cs) sp.length (spV sp)::L) w':=by
 subst h; exact k
theorem TEnd.got {w0:World} {T:Except Nat (PG.Hd × List UInt8 × Nat)} {hd:PG.Hd} {out:List UInt8} {u:Nat} (h:T=.ok (hd,out,u)) {e:Ending} {w' : World} (k:TEnd w0 L T e w'):∃A ca,e=.returned (.tuple #[.slice A out.length ca,.int .i64 u,.int .i64 0])/\Sp w0 (Row 5 1 (.slice A out.length ca) out.length (cells8 out)::L) w':=by
 subst h; exact k
def exT:Value->Value
 | .tuple a=>a.getD 0 undef
 | _=>undef
theorem U8 {w:World} {A:Option Addr} {n c:Nat} {l:List UInt8} (h:Byt w (.slice A n c) l):Rd w A (cells8 l):=by
 obtain⟨b,d,e,a,_,_⟩:=h;injection e with e
 subst e;exact a
theorem Ug {M:List Pr} {S:Option Addr} {n c:Nat} {SP:List PG.Sp4} (H:Sp w0 M w) (j:Nat) (hj:M[j]?=some (Row 44 4 (.slice S n c) n (spV SP))) (i:Nat) (x:PG.Sp4) (hx:SP[i]?=some x) :
  ∃ad,S=some ad/\w.cell? (ad.add (i * 4))=some (.int .i64 x.1)/\w.cell? ((ad.add (i * 4)).add 1)=some (.int .i64 x.2.1)/\w.cell? ((ad.add (i * 4)).add 2)=some (.int .i64 x.2.2.1)/\w.cell? ((ad.add (i * 4)).add 3)=some (.int .i64 x.2.2.2):=by
 have f:i<SP.length:=(List.getElem?_eq_some_iff.1 hx).1;have h:=rowRd H j hj;obtain⟨ad,e,a⟩:=h (by intro q; have:=congrArg List.length q; rw [TZ] at this; simp at this; omega);have b:∀q,q<4->(spV SP)[i * 4+q]?=(spC x)[q]?:=fun q hq=>by
  obtain⟨p,d,g⟩:=Xy spC 4 (fun _=>rfl) SP i q hq f;rw [hx] at d;injection d with d
  rw [d]; exact g
 refine⟨ad,e,?_,?_,?_,?_⟩
 ·have:=a (i * 4+0) _ (b 0 (by decide)); simpa using this
 ·have:=a (i * 4+1) _ (b 1 (by decide)); rw [<- Go.Addr.add_add] at this; exact this
 ·have:=a (i * 4+2) _ (b 2 (by decide)); rw [<- Go.Addr.add_add] at this; exact this
 ·have:=a (i * 4+3) _ (b 3 (by decide)); rw [<- Go.Addr.add_add] at this; exact this
def memOf (x:OneV):PG.Mem:=(PG.made x.h,x.b.take (min x.m 600))
def bV (x:OneV):Value:=.slice x.X (min x.m 600) x.d
theorem Sk {w:World} {A:Option Addr} {X:List OneV} (h:Rd w A (X.flatMap OneV.cells)) (i:Nat) (hi:i<X.length):∃ad,A=some ad/\w.cell? (ad.add (i * 8))=some (.int .u8 (X[i].h.flags.toNat:Int))/\w.cell? ⟨(ad.add (i * 8)).block,(ad.add (i * 8)).off+1,none⟩=some (.int .u8 (X[i].h.level.toNat:Int))/\w.cell? ⟨(ad.add (i * 8)).block,(ad.add (i * 8)).off+2,none⟩=some (.int .u8 (X[i].h.system.toNat:Int))/\w.cell? ⟨(ad.add (i * 8)).block,(ad.add (i * 8)).off+3,none⟩=some (.int .u32 (X[i].h.time:Int))/\w.cell? ⟨(ad.add (i * 8)).block,(ad.add (i * 8)).off+4,none⟩=some (.slice X[i].B X[i].n X[i].c)/\w.cell? ⟨(ad.add (i * 8)).block,(ad.add (i * 8)).off+5,none⟩=some (.string (strOf X[i].h.name))/\w.cell? ⟨(ad.add (i * 8)).block,(ad.add (i * 8)).off+6,none⟩=some (.string (strOf X[i].h.note))/\w.cell? ⟨(ad.add (i * 8)).block,(ad.add (i * 8)).off+7,none⟩=some (.slice X[i].X X[i].m X[i].d):=by
 obtain⟨ad,e,a⟩:=h (by intro q; have:=congrArg List.length q; rw [Xz OneV.cells 8 (fun _=>rfl)] at this; simp at this; omega);have b:∀q,q<8->(X.flatMap OneV.cells)[i * 8+q]?=(OneV.cells X[i])[q]?:=fun q hq=>by
  obtain⟨p,c,d⟩:=Xy OneV.cells 8 (fun _=>rfl) X i q hq hi;rw [List.getElem?_eq_getElem hi] at c;injection c with c
  rw [c]; exact d
 refine⟨ad,e,?_,?_,?_,?_,?_,?_,?_,?_⟩
 ·have:=a (i * 8+0) _ (b 0 (by decide)); simpa using this
 ·have:=a (i * 8+1) _ (b 1 (by decide)); rw [<- Go.Addr.add_add] at this; exact this
 ·have:=a (i * 8+2) _ (b 2 (by decide)); rw [<- Go.Addr.add_add] at this; exact this
 ·have:=a (i * 8+3) _ (b 3 (by decide)); rw [<- Go.Addr.add_add] at this; exact this
 ·have:=a (i * 8+4) _ (b 4 (by decide)); rw [<- Go.Addr.add_add] at this; exact this
 ·have:=a (i * 8+5) _ (b 5 (by decide)); rw [<- Go.Addr.add_add] at this; exact this
 ·have:=a (i * 8+6) _ (b 6 (by decide)); rw [<- Go.Addr.add_add] at this; exact this
 ·have:=a (i * 8+7) _ (b 7 (by decide)); rw [<- Go.Addr.add_add] at this; exact this
theorem infoBs:(Tryz.prog.info? 23).map (fun i=>(i.zero,i.size,i.bytes))=some (some (.slice none 0 0),1,24):=by kernel_rfl
theorem UT (A:Option Addr) (n c:Nat) (X:List OneV) (BA:Option Addr) (bn bc:Nat) (bh:List UInt8) (cut:Nat) {TL TA:Option Addr} {cl ca:Nat} {DL DF:Option Addr} {dl df:Nat} (H:Sp w0 L w) (hct:Ent L CrcTab) (hT:Ent L (Tabs TL TA cl ca)) (hD:Ent L (DTabs DL DF dl df))
  (hn:X.length=n) (hnc:n<=c) (hcm:c<=maxLen) (hX:Ent L fun w=>Rd w A (X.flatMap OneV.cells)/\∀x ∈ X,x.Ok w) (hbn:bh.length=bn) (hbc:bn<=bc) (hbm:bc<=maxLen) (hbh:Ent L fun w=>Byt w (.slice BA bn bc) bh) (hcut:cut<65536) :
  Calls Tryz.prog 3 #[.slice A n c,.slice BA bn bc,.int .u16 cut] w fun e w'=>e=.returned (.bool true)/\Sp w0 L w':=by
 obtain⟨i0,hi,f7,f8,f9⟩:=info_parts info8;obtain⟨j0,gi,r2,r3,r4⟩:=info_parts infoBs;obtain⟨k,hk⟩:=exq (min n 5);obtain⟨b20,r5⟩:=exq (min bn 20);have y1:min (n:Int) 5=(k:Int):=by omega
 have y2:min (bn:Int) 20=(b20:Int):=by omega
 have x8:k<=5:=by omega
 have x9:k<=n:=by omega
 have y3:(k:Int)<=(c:Int):=by omega
 have u7:(b20:Int)<=(bc:Int):=by omega
 have u8:b20<=20:=by omega
 obtain⟨X5,g0⟩:=exq (X.take k);obtain⟨ms,a8⟩:=exq (X5.map memOf);obtain⟨S,b7⟩:=exq (bh.take b20);have i9:X5.length=k:=by rw [<- g0,List.length_take,hn]; omega
 have h8:ms.length=k:=by rw [<- a8,List.length_map,i9]
 have i1:S.length=b20:=by rw [<- b7,List.length_take,hbn]; omega
 have b8:∀x ∈ ms,PG.Good x:=by
  intro y hy;rw [<- a8] at hy;obtain⟨x,hx,rfl⟩:=List.mem_map.1 hy;have T:=(hX _ _ H).2 x (List.mem_of_mem_take (g0 ▸ hx));refine⟨PG.made_ok _,T.t,?_⟩;show(x.b.take (min x.m 600)).length<_;rw [List.length_take];omega
 have l0:=hid i9;have r6:=hid hn;have g2:=hid g0;have l1:=hid a8;have Q:=hid h8;have i2:=hid i1;have a9:=hid b8;have HX:=hid hX;have U:=hid hct;have HT:=hid hT;have HD:=hid hD;have y4:=hid hbm;have r7:Hid (Ent L fun w=>Byt w (.slice BA b20 bc) S):=hid fun _ _ q=>by
  have:=(hbh _ _ q).take b20 (by rw [hbn]; omega);rw [b7] at this;exact this
 have KX:=hid (((H.rowNil 23 1).rowNil 5 1).rowNil 5 1);clear g0 a8 b7 i9 h8 i1 b8 hX hct hT hD hbm hbh hk r5 H hn;go_enter Tryz.func3,Tryz.ntmps3
 go_wp2_with fail
 clear y1 y2;go_loopw [7,8,9,49] (fun av wv pv iv wr=>∃(i an ac on oc pc:Nat) (AA OA PA:Option Addr) (WA OO:List UInt8) (PP:List Value),iv=.int .i64 i/\i<=k/\av=.slice AA an ac/\wv=.slice OA on oc/\pv=.slice PA i pc/\WA=PG.W (ms.take i)/\OO=PG.O (ms.take i)/\PP=(X5.take i).map bV/\WA.length=an/\OO.length=on/\an<=300000 * i/\on<=600 * i/\an<=ac/\ac<=maxLen/\Sp w0 (Row 5 1 (.slice AA an ac) an (cells8 WA)::Row 5 1 (.slice OA on oc) on (cells8 OO)::Row 23 1 (.slice PA i pc) i PP::L) wr) (fun _ _ _ iv _=>k - (intOf iv).toNat)
 case atStart=>exact⟨0,0,0,0,0,0,none,none,none,[],[],[],rfl,Nat.zero_le _,rfl,rfl,rfl,rfl,rfl,rfl,rfl,rfl,Nat.le_refl _,Nat.le_refl _,Nat.le_refl _,Nat.zero_le _,KX.out⟩
 case round =>
  obtain⟨i,an,ac,on,oc,pc,AA,OA,PA,WA,OO,PP,rfl,r8,rfl,rfl,rfl,l2,l3,l4,l5,l6,u9,v5,j1,b9,H1⟩:=hrel;clear KX;have a0:=hid l2;have b5:=hid l3;have j2:=hid l4;have V:=hid l5;have a1:=hid l6;clear l2 l3 l4 l5 l6;by_cases c7:i<k
  ·have yi:(i:Int)<(k:Int):=by omega
   have j3:i<X.length:=by rw [r6.out]; omega
   have d8:X5[i]?=some X[i]:=by rw [<- g2.out,List.getElem?_take_of_lt c7,List.getElem?_eq_getElem j3]
   obtain⟨ad,rfl,q0,q1,q2,q3,q4,q5,q6,q7⟩:=Sk (HX.out _ _ (H1.pick 3 [])).1 i j3;obtain⟨x,hx⟩:=exq (X[i]);rw [hx] at q0 q1 q2 q3 q4 q5 q6 q7 d8;have b3:x ∈ X:=List.mem_of_mem_take (g2.out ▸ List.mem_of_getElem? d8);have T:=(HX.out _ _ (H1.pick 3 [])).2 x b3;have d9:ms[i]?=some (memOf x):=by rw [<- l1.out,List.getElem?_map,d8]; rfl
   have e0:(X5.take (i+1)).map bV=(X5.take i).map bV++[bV x]:=by rw [PG.take_one d8,List.map_append]; rfl
   have l7:Hid (Ent L fun w=>Byt w (.slice x.B x.n x.c) x.h.extra):=hid fun _ _ q=>((HX.out _ _ q).2 x b3).eb;have j4:Hid (Ent L fun w=>Byt w (.slice x.X x.m x.d) x.b):=hid fun _ _ q=>((HX.out _ _ q).2 x b3).bb;obtain⟨hn,_,i3,e3,b6,j5,ht,j6,_,l8,e5⟩:=T;obtain⟨h,B0,n0,I,r,nx,cx,xb⟩:=x;simp only at q0 q1 q2 q3 q4 q5 q6 q7 hn i3 e3 b6 j5 ht j6 l8 e5 l7 j4;obtain⟨hm,a3⟩:=exq (PG.made h);have l9:PG.Ok hm:=by rw [<- a3]; exact PG.made_ok h
   have m0:hm.time<4294967296:=by rw [<- a3]; exact ht
   obtain⟨Z,m1⟩:=exq hm.extra.length;obtain⟨nb,b0⟩:=exq (min nx 600);have v6:min (nx:Int) 600=(nb:Int):=by omega
   have m2:nb<=600:=by omega
   have m3:nb<=nx:=by omega
   have y5:(nb:Int)<=(cx:Int):=by omega
   obtain⟨b,g6⟩:=exq (xb.take nb);have W:b.length=nb:=by rw [<- g6,List.length_take]; omega
   have E:ms[i]?=some (hm,b):=by rw [d9]; show some (PG.made h,xb.take (min nx 600))=_; rw [b0,g6,a3]
   have r9:Hid (PG.W (ms.take (i+1))=PG.W (ms.take i)++PG.put hm b):=hid (PG.W_take E);have s0:Hid (PG.O (ms.take (i+1))=PG.O (ms.take i)++b):=hid (PG.O_take E);have g7:Hid ((X5.take (i+1)).map bV=(X5.take i).map bV++[.slice r nb cx]):=hid (by rw [e0]; show _++[Value.slice r (min nx 600) cx]=_; rw [b0]);have HN:=hid hn;have s1:=hid e3;have s2:=hid b6;have s3:=hid j5;have s4:=hid a3;have a4:=hid m1;have b1:=hid l9;have j7:=hid m0;have F:=hid W;have m4:=hid e5;have HB:Hid (Ent L fun w=>Byt w (.slice r nb cx) b):=hid fun _ _ q=>by
    have:=(j4.out _ _ q).take nb (by rw [j6]; exact m3);rw [g6] at this;exact this
   have KK:=hid (H1.newBk [.int .u8 h.flags.toNat,.int .u8 h.level.toNat,.int .u8 h.system.toNat,.int .u32 h.time,.slice B0 n0 I,.string (strOf h.name),.string (strOf h.note),.slice r nx cx] 30);clear hx d8 b3 d9 e0 E a3 l9 m0 m1 b0 g6 W hn e3 b6 j5 j6 e5 ht H1 j3 j4;go_wp2_with fail
   replace KK:=KK.out;generalize World.alloc _ _=wq at KK ⊢;generalize wr.heap.size=g1 at KK ⊢;replace KK:=hid KK;clear q0 q1 q2 q3 q4 q5 q6 q7;have LH:Hid (Ent (Bk g1 30 [.int .u8 h.flags.toNat,.int .u8 h.level.toNat,.int .u8 h.system.toNat,.int .u32 h.time,.slice B0 n0 I,.string (strOf h.name),.string (strOf h.note),.slice r nx cx]::Row 5 1 (.slice AA an ac) an (cells8 WA)::Row 5 1 (.slice OA on oc) on (cells8 OO)::Row 23 1 (.slice PA i pc) i PP::L) fun w=>∀j v,([.int .u8 h.flags.toNat,.int .u8 h.level.toNat,.int .u8 h.system.toNat,.int .u32 h.time,.slice B0 n0 I,.string (strOf h.name),.string (strOf h.note)]:List Value)[j]?=some v->w.cell? ((⟨g1,0,none⟩:Addr).add j)=some v):=hid fun _ _ q j v hj=>by
    have h9:([.int .u8 h.flags.toNat,.int .u8 h.level.toNat,.int .u8 h.system.toNat,.int .u32 h.time,.slice B0 n0 I,.string (strOf h.name),.string (strOf h.note)]++[(.slice r nx cx:Value)])[j]?=some v:=TX hj;exact Zl q 0 rfl j v h9
   have L7:Hid (Ent (Bk g1 30 [.int .u8 h.flags.toNat,.int .u8 h.level.toNat,.int .u8 h.system.toNat,.int .u32 h.time,.slice B0 n0 I,.string (strOf h.name),.string (strOf h.note),.slice r nx cx]::Row 5 1 (.slice AA an ac) an (cells8 WA)::Row 5 1 (.slice OA on oc) on (cells8 OO)::Row 23 1 (.slice PA i pc) i PP::L) fun w=>w.cell? ⟨g1,7,none⟩=some (.slice r nx cx)):=hid fun _ _ q=>q.cell 0 rfl 7;have LX:Hid (Ent (Bk g1 30 [.int .u8 h.flags.toNat,.int .u8 h.level.toNat,.int .u8 h.system.toNat,.int .u32 h.time,.slice B0 n0 I,.string (strOf h.name),.string (strOf h.note),.slice r nx cx]::Row 5 1 (.slice AA an ac) an (cells8 WA)::Row 5 1 (.slice OA on oc) on (cells8 OO)::Row 23 1 (.slice PA i pc) i PP::L) fun w=>Byt w (.slice B0 n0 I) h.extra):=hid fun _ _ q=>l7.out _ _ (q.pick 4 []);refine Zm (L:=Bk g1 30 [.int .u8 h.flags.toNat,.int .u8 h.level.toNat,.int .u8 h.system.toNat,.int .u32 h.time,.slice B0 n0 I,.string (strOf h.name),.string (strOf h.note),.slice r nx cx]::Row 5 1 (.slice AA an ac) an (cells8 WA)::Row 5 1 (.slice OA on oc) on (cells8 OO)::Row 23 1 (.slice PA i pc) i PP::L) [some (.pointer (some ⟨g1,0,none⟩)),some (.agg #[.int .u8 h.flags.toNat,.int .u8 h.level.toNat,.int .u8 h.system.toNat,.int .u32 h.time,.slice B0 n0 I,.string (strOf h.name),.string (strOf h.note)]),none,some (.pointer (some ⟨g1,7,none⟩)),some (.slice r nx cx),some (.pointer (some ⟨g1,7,none⟩)),some (.slice r nx cx),some (.int .i64 nx),some (.int .i64 nb),some (.slice r nb cx),none,some (undef),some (.slice r nb cx)] (fun ix ux vx=>match ix with | 2=>(fun vv=>vv=.agg #[.int .u8 hm.flags.toNat,.int .u8 hm.level.toNat,.int .u8 hm.system.toNat,.int .u32 hm.time,(exV vv),.string (strOf hm.name),.string (strOf hm.note)]) vx | 10=>(fun vv=>vv=.pointer (some ⟨ptrB vv,0,none⟩)) vx | _=>True) (fun ix ux vx=>match ix with | 2=>(fun vv=>[Row 5 1 (exV vv) Z (cells8 hm.extra)]) vx | 10=>(fun vv=>[Bk (ptrB vv) 28 [.int .u8 0,.int .u8 0,.int .u8 0,.int .u32 0,.slice none 0 0,.string ⟨#[]⟩,.string ⟨#[]⟩]]) vx | 11=>(fun _=>[Ex fun ve=>Star (Bk (ptrB ux) 28 [.int .u8 hm.flags.toNat,.int .u8 hm.level.toNat,.int .u8 hm.system.toNat,.int .u32 hm.time,ve,.string (strOf hm.name),.string (strOf hm.note)]) (Row 5 1 ve Z (cells8 hm.extra))]) vx | _=>[]) (fun _=>[]) 13 277
    [some 53,some 54,some 55,some 56,some 57,some 58,some 59,some 60,some 61,some 62,some 12,none,some 13]
    [[],[0],[1],[],[3],[],[5],[6],[7],[4,8],[],[10,2,2,0,1,2,10],[9,11,0,1,2,3,4,5,6,7,8,9,10,11]]
    [[],[0],[0,1],[],[3],[],[5],[5,6],[5,6,7],[3,4,5,6,7,8],[],[0,1,2,10],[0,1,2,3,4,5,6,7,8,9,10,11]]
    [[],[],[],[],[],[],[],[],[],[],[],[10,2],[]] [[],[],[],[],[],[],[],[],[],[],[],[],[]] [none,none,none,none,none,none,none,none,none,none,none,some 10,none] [(11,.pointer (some ⟨g1,0,none⟩))]
    (by kernel_rfl) rfl (by decide) (by rfl) (by decide +kernel) rfl (by simp) (by rfl) (KK.out) ?hstep ?hend
   case hstep =>
    refine⟨?p0,⟨?p1,⟨?p2,⟨?p3,⟨?p4,⟨?p5,⟨?p6,⟨?p7,⟨?p8,⟨?p9,⟨?p10,⟨?p11,⟨?p12,trivial⟩⟩⟩⟩⟩⟩⟩⟩⟩⟩⟩⟩⟩
    case p0 | p3 | p5 | p7 | p8 | p9 | p12 =>
     intro x wx A l B g C H K s;replace s:=hid s;clear g C;repeat (obtain⟨_,B⟩:=B)
     refine so ?_;go_step;exact s.out _ _ rfl H
    case p1 =>
     intro x wx A l B g C H K d;have s5:=tq g 0;have s:=hid d;clear d B g;have hc:=C _ LH.out _ _ H;refine so ?_;exact Zd 28 _ rfl _ [.int .u8 h.flags.toNat,.int .u8 h.level.toNat,.int .u8 h.system.toNat,.int .u32 h.time,.slice B0 n0 I,.string (strOf h.name),.string (strOf h.note)] (ev s5) hc Tryz.isAgg28 Tryz.sizeOf28 (s.out _ _ rfl H)
    case p2 =>
     intro x wx A l B g C H K d;have y6:=tq g 1;have s:=hid d;clear d B g;have HW:=hid (UR h B0 n0 I H HN.out (C _ LX.out) i3 s1.out s2.out s3.out);rw [s4.out] at HW;refine so ?_;go_wp2_with fail
     refine HW.out.mono ?_;rintro _ w9 ⟨A0,y7,ce,rfl,i4,H9⟩;rw [a4.out] at i4;subst i4;exact s.out _ _ rfl H9
    case p4 =>
     intro x wx A l B g C H K d;have y8:=tq g 3;have s:=hid d;clear d B g;have cc:=C _ L7.out _ _ H;refine so ?_;go_step;exact s.out _ _ rfl H
    case p6 =>
     intro x wx A l B g C H K d;have y9:=tq g 5;have s:=hid d;clear d B g;have cc:=C _ L7.out _ _ H;refine so ?_;go_step;exact s.out _ _ rfl H
    case p10 =>
     intro x wx A l B g C H K d;have s:=hid d;clear d B g C;refine so ?_;go_step;exact s.out _ _ rfl (H.newBk _ _)
    case p11 =>
     intro x wx A l B g C H K d;have s6:(x 10)=.pointer (some ⟨ptrB (x 10),0,none⟩):=(g 10 (by decide)).1;have s7:=(g 10 (by decide)).2 12 rfl;have m5:(x 2)=.agg #[.int .u8 hm.flags.toNat,.int .u8 hm.level.toNat,.int .u8 hm.system.toNat,.int .u32 hm.time,(exV (x 2)),.string (strOf hm.name),.string (strOf hm.note)]:=(g 2 (by decide)).1;have s8:=(g 2 (by decide)).2 55 rfl;replace H:Sp w0 ((Bk (ptrB (x 10)) 28 [.int .u8 0,.int .u8 0,.int .u8 0,.int .u32 0,.slice none 0 0,.string ⟨#[]⟩,.string ⟨#[]⟩])::(Row 5 1 (exV (x 2)) Z (cells8 hm.extra))::l) wx:=H;have s:Hid (∀(v:Value) (w' : World),(v=undef)->Sp w0 ((Ex fun ve=>Star (Bk (ptrB (x 10)) 28 [.int .u8 hm.flags.toNat,.int .u8 hm.level.toNat,.int .u8 hm.system.toNat,.int .u32 hm.time,ve,.string (strOf hm.name),.string (strOf hm.note)]) (Row 5 1 ve Z (cells8 hm.extra)))::l) w'->K (A.put none v) w'):=hid d;clear d B g C;obtain⟨A0,ce,s9,_,_⟩:=Row.form H 1 rfl;rw [s9] at H m5;obtain⟨w9,t0,H9⟩:=Yu (P:=Tryz.prog) [.int .u8 hm.flags.toNat,.int .u8 hm.level.toNat,.int .u8 hm.system.toNat,.int .u32 hm.time,.slice A0 Z ce,.string (strOf hm.name),.string (strOf hm.note)] 0 _ wx H (by show 0+7<=7; omega) (VX _ _ _ _ _ _ _ _ _);refine so ?_;exact Zn 28 _ _ rfl _ [.int .u8 hm.flags.toNat,.int .u8 hm.level.toNat,.int .u8 hm.system.toNat,.int .u32 hm.time,.slice A0 Z ce,.string (strOf hm.name),.string (strOf hm.note)] (ev (s7.trans s6)) (ev (s8.trans m5)) t0 Tryz.sizeOf28 (s.out undef _ rfl (Sp.ex (A:=fun ve=>Star (Bk (ptrB (x 10)) 28 [.int .u8 hm.flags.toNat,.int .u8 hm.level.toNat,.int .u8 hm.system.toNat,.int .u32 hm.time,ve,.string (strOf hm.name),.string (strOf hm.note)]) (Row 5 1 ve Z (cells8 hm.extra))) (.slice A0 Z ce) (Sp.star H9)))
   case hend =>
    intro x wx A hA g H;replace H:Sp w0 ((Ex fun ve=>Star (Bk (ptrB (x 10)) 28 [.int .u8 hm.flags.toNat,.int .u8 hm.level.toNat,.int .u8 hm.system.toNat,.int .u32 hm.time,ve,.string (strOf hm.name),.string (strOf hm.note)]) (Row 5 1 ve Z (cells8 hm.extra)))::_::_::_::_::L) wx:=H;have j8:(x 10)=.pointer (some ⟨ptrB (x 10),0,none⟩):=g 10 (by decide);have m6:x 12=.slice r nb cx:=g 12 (by decide);clear g;simp only [putAll,Act.put,List.setIfInBounds_toArray,List.set_cons_succ,List.set_cons_zero,Nat.reduceAdd] at hA;subst hA;obtain⟨N,m7⟩:=exq (ptrB (x 10));rw [m7] at j8 H;rw [j8,m6];clear j8 m6 m7 KK LH L7;obtain⟨ve,H⟩:=H.unex;replace H:=H.unstar;obtain⟨A0,ce,rfl,v7,v8⟩:=Row.form H 1 rfl;have O:=H;clear H;have I:wx.cell? ⟨N,0,none⟩=some (.int .u8 hm.flags.toNat):=O.cell 0 rfl 0;have c1:wx.cell? ⟨N,1,none⟩=some (.int .u8 hm.level.toNat):=O.cell 0 rfl 1;have c2:wx.cell? ⟨N,2,none⟩=some (.int .u8 hm.system.toNat):=O.cell 0 rfl 2;have c3:wx.cell? ⟨N,3,none⟩=some (.int .u32 hm.time):=O.cell 0 rfl 3;have c4:wx.cell? ⟨N,4,none⟩=some (.slice A0 Z ce):=O.cell 0 rfl 4;have c5:wx.cell? ⟨N,5,none⟩=some (.string (strOf hm.name)):=O.cell 0 rfl 5;have c6:wx.cell? ⟨N,6,none⟩=some (.string (strOf hm.note)):=O.cell 0 rfl 6;have HP:=hid (VU hm A0 Z ce r nb cx O a4.out.symm b1.out j7.out (fun _ _ q=>Zz q 1 rfl a4.out.symm) (fun _ _ q=>U.out _ _ (q.pick 6 [])) (fun _ _ q=>HD.out _ _ (q.pick 6 [])) b F.out.symm (by omega) (by omega) m4.out (fun _ _ q=>HB.out _ _ (q.pick 6 [])));unfold hdV at HP;have m8:=PG.put_ge hm b;have m9:(PG.put hm b).length<=300000:=by
     have h1:=Wq hm b1.out;have h2:=PD.defl_le2 b (by rw [F.out]; omega);rw [PG.put_len];omega
    obtain⟨M,hM⟩:=exq (PG.put hm b);rw [hM] at HP m8 m9;obtain⟨nm,j9⟩:=exq M.length;rw [j9] at HP m8 m9;have g8:=hid hM;have Y:=hid j9;clear hM j9;go_wp2_with fail
    refine HP.out.mono ?_;rintro _ w2 ⟨v2,rfl,K6⟩;clear HP I c1 c2 c3 c4 c5 c6 O;obtain⟨A2,d2,rfl,z0,n1⟩:=Row.form K6 0 rfl;replace K6:=hid K6;go_wp2_with (at_builtin; refine Za rfl _ _ 23 rfl 5 i0 (.int .u8 0) 1 1 Tryz.underlying23 hi f7 f8 f9 rfl (by decide) (.slice none 0 0) 0 [] rfl (K6.out.rowNil _ _) A2 nm d2 (cells8 M) rfl (by rw [Zo,Y.out,Nat.mul_one]) (rowRd K6.out 0 rfl) (Zg _) (by unfold maxLen; omega) (by omega) ?_)
    intro v3 w3 K7 _;obtain⟨A3,d3,rfl,z1,v9⟩:=Row.form K7 0 rfl;clear K6;have e6:Rd w3 BA (cells8 S):=U8 (r7.out _ _ (K7.pick 8 []));have e7:=hid e6;replace K7:=hid K7;clear e6;go_wp2_with (at_builtin; refine Za rfl _ _ 23 rfl 5 i0 (.int .u8 0) 1 1 Tryz.underlying23 hi f7 f8 f9 rfl (by decide) (.slice A3 nm d3) nm (cells8 M) rfl K7.out BA b20 bc (cells8 S) rfl (by rw [Zo,i2.out,Nat.mul_one]) e7.out (Zg _) (by unfold maxLen; omega) (by omega) ?_)
    intro v4 w4 K8 _;clear K7 e7;obtain⟨n4,n2⟩:=exq (nm+b20);rw [n2] at K8;have e4:cells8 M++cells8 S=cells8 (M++S):=(Zf _ _).symm;rw [e4] at K8;obtain⟨A4,d4,rfl,t1,n3⟩:=Row.form K8 0 rfl;have k0:(M++S).length=n4:=by rw [List.length_append,Y.out,i2.out]; omega
    have HG:=hid (Yn A4 n4 d4 (M++S) nb K8 (fun _ _ q=>Zz q 0 rfl k0.symm) (fun _ _ q=>U.out _ _ (q.pick 8 [])) (fun _ _ q=>HT.out _ _ (q.pick 8 [])) k0 (by omega) (by omega) t1 n3);have J:=PG.get_put hm b1.out j7.out b S nb (Nat.le_of_eq F.out) (by rw [F.out]; omega);rw [g8.out,Y.out] at J;have e8:=hid J;clear e4 n2 k0 K8 J;go_wp2_with fail
    refine HG.out.mono ?_;intro e9 w5 h9;clear HG;obtain⟨A5,f5,A6,f6,rfl,o⟩:=GEnd.got e8.out h9;clear h9 e8;rw [F.out,a4.out] at o;simp only [F.out,a4.out];replace o:=(o.newBk [.int .u8 hm.flags.toNat,.int .u8 hm.level.toNat,.int .u8 hm.system.toNat,.int .u32 hm.time,.slice A5 Z f5,.string (strOf hm.name),.string (strOf hm.note)] 28).pick 11 [0,1,2,4,5,6,8,9,10];replace o:=hid o;go_upto_region 11 with (fail)
    replace o:=o.out;generalize World.alloc _ _=w6 at o ⊢;generalize w5.heap.size=g4 at o ⊢;have d0:w6.cell? ⟨g4,0,none⟩=some (.int .u8 hm.flags.toNat):=o.cell 0 rfl 0;have d1:w6.cell? ⟨g4,1,none⟩=some (.int .u8 hm.level.toNat):=o.cell 0 rfl 1;have d2:w6.cell? ⟨g4,2,none⟩=some (.int .u8 hm.system.toNat):=o.cell 0 rfl 2;have d3:w6.cell? ⟨g4,3,none⟩=some (.int .u32 hm.time):=o.cell 0 rfl 3;have d4:w6.cell? ⟨g4,4,none⟩=some (.slice A5 Z f5):=o.cell 0 rfl 4;have d5:w6.cell? ⟨g4,5,none⟩=some (.string (strOf hm.name)):=o.cell 0 rfl 5;have d6:w6.cell? ⟨g4,6,none⟩=some (.string (strOf hm.note)):=o.cell 0 rfl 6;have I:w6.cell? ⟨N,0,none⟩=some (.int .u8 hm.flags.toNat):=o.cell 4 rfl 0;have c1:w6.cell? ⟨N,1,none⟩=some (.int .u8 hm.level.toNat):=o.cell 4 rfl 1;have c2:w6.cell? ⟨N,2,none⟩=some (.int .u8 hm.system.toNat):=o.cell 4 rfl 2;have c3:w6.cell? ⟨N,3,none⟩=some (.int .u32 hm.time):=o.cell 4 rfl 3;have c4:w6.cell? ⟨N,4,none⟩=some (.slice A0 Z ce):=o.cell 4 rfl 4;have c5:w6.cell? ⟨N,5,none⟩=some (.string (strOf hm.name)):=o.cell 4 rfl 5;have c6:w6.cell? ⟨N,6,none⟩=some (.string (strOf hm.note)):=o.cell 4 rfl 6;have g9:=hid (Vb hm A0 Z ce a4.out.symm o (by have:=b1.out.2.2.2.1.1; unfold maxLen; omega) (by have:=b1.out.2.2.2.2.1; unfold maxLen; omega));rw [decide_eq_true b1.out] at g9;unfold hdV at g9;have z2:¬ (nm:Int)=0:=by omega
    clear o;go_wp2_with fail
    refine g9.out.mono ?_;rintro _ w7 ⟨rfl,KA⟩;clear g9 I c1 c2 c3 c4 c5 c6 d0 d1 d2 d3 d4 d5 d6;have d0:w7.cell? ⟨g4,0,none⟩=some (.int .u8 hm.flags.toNat):=KA.cell 0 rfl 0;have d1:w7.cell? ⟨g4,1,none⟩=some (.int .u8 hm.level.toNat):=KA.cell 0 rfl 1;have d2:w7.cell? ⟨g4,2,none⟩=some (.int .u8 hm.system.toNat):=KA.cell 0 rfl 2;have d3:w7.cell? ⟨g4,3,none⟩=some (.int .u32 hm.time):=KA.cell 0 rfl 3;have d4:w7.cell? ⟨g4,4,none⟩=some (.slice A5 Z f5):=KA.cell 0 rfl 4;have d5:w7.cell? ⟨g4,5,none⟩=some (.string (strOf hm.name)):=KA.cell 0 rfl 5;have d6:w7.cell? ⟨g4,6,none⟩=some (.string (strOf hm.note)):=KA.cell 0 rfl 6;have I:w7.cell? ⟨N,0,none⟩=some (.int .u8 hm.flags.toNat):=KA.cell 4 rfl 0;have c1:w7.cell? ⟨N,1,none⟩=some (.int .u8 hm.level.toNat):=KA.cell 4 rfl 1;have c2:w7.cell? ⟨N,2,none⟩=some (.int .u8 hm.system.toNat):=KA.cell 4 rfl 2;have c3:w7.cell? ⟨N,3,none⟩=some (.int .u32 hm.time):=KA.cell 4 rfl 3;have c4:w7.cell? ⟨N,4,none⟩=some (.slice A0 Z ce):=KA.cell 4 rfl 4;have c5:w7.cell? ⟨N,5,none⟩=some (.string (strOf hm.name)):=KA.cell 4 rfl 5;have c6:w7.cell? ⟨N,6,none⟩=some (.string (strOf hm.note)):=KA.cell 4 rfl 6;have k2:=hid (Ue hm A5 A0 Z f5 ce KA (fun _ _ q=>Zz q 2 rfl a4.out.symm) (fun _ _ q=>Zz q 5 rfl a4.out.symm));unfold hdV at k2;clear KA;go_wp2_with fail
    refine k2.out.mono ?_;rintro _ w8 ⟨rfl,KB⟩;clear k2 I c1 c2 c3 c4 c5 c6 d0 d1 d2 d3 d4 d5 d6;have a5:Byt w8 (.slice A6 nb f6) b:=Zz KB 1 rfl F.out.symm;have a6:Byt w8 (.slice r nb cx) b:=HB.out _ _ (KB.pick 9 []);have f0:=run_str (P:=Tryz.prog) _ 23 9 5 _ _ Tryz.underlying23 Tryz.underlying5 Tryz.underlying9 a5;have f1:=run_str (P:=Tryz.prog) _ 23 9 5 _ _ Tryz.underlying23 Tryz.underlying5 Tryz.underlying9 a6;obtain⟨q,hq⟩:=exq (cut % nm);have t2:q<nm:=by rw [<- hq]; exact Nat.mod_lt _ (by omega)
    have yq:(cut:Int).tmod (nm:Int)=(q:Int):=by rw [Int.tmod_eq_emod_of_nonneg (by omega)]; omega
    have t3:(cut:Int) % (nm:Int)=(q:Int):=by omega
    have t4:(q:Int)<=(d2:Int):=by omega
    have yw:IntKind.i64.wrap (cut:Int)=(cut:Int):=Yh cut (by omega);have t5:IntKind.i64.wrap (q:Int)=(q:Int):=Yh q (by omega);have n5:(M.take q).length=q:=by rw [List.length_take,Y.out]; omega
    have HG:=hid (Yn A2 q d2 (M.take q) nb KB (fun _ _ z=>(Zz z 3 rfl Y.out.symm).take q (by rw [Y.out]; omega)) (fun _ _ q=>U.out _ _ (q.pick 9 [])) (fun _ _ q=>HT.out _ _ (q.pick 9 [])) n5 (by omega) (by omega) (by omega) n1);have J:=PG.get_cut hm b1.out j7.out b nb (Nat.le_of_eq F.out) q (by rw [g8.out,Y.out]; exact t2);rw [g8.out] at J;have e8:=hid J;clear a5 a6 hq n5 J KB;go_wp2_with fail
    refine HG.out.mono ?_;intro e9 w9 h9;clear HG f0 f1 yq t3 t4 yw t5;obtain⟨rfl,KC⟩:=GEnd.bad e8.out h9;clear h9 e8;replace KC:=hid ((KC.newBk [.int .u8 0,.int .u8 0,.int .u8 0,.int .u32 0,.slice none 0 0,.string ⟨#[]⟩,.string ⟨#[]⟩] 28).pick 10 [7,8,9,4]);go_upto_region 16 with (fail)
    replace KC:=KC.out;generalize World.alloc _ _=wa at KC ⊢;replace KC:=hid KC;go_wp2_with (at_builtin; refine Za rfl _ _ 23 rfl 5 i0 (.int .u8 0) 1 1 Tryz.underlying23 hi f7 f8 f9 rfl (by decide) (.slice AA an ac) an (cells8 WA) rfl KC.out A2 nm d2 (cells8 M) rfl (by rw [Zo,Y.out,Nat.mul_one]) (rowRd KC.out 3 rfl) (Zg _) (by unfold maxLen; omega) (by omega) ?_)
    intro v1 wb KD _;rw [<- Zf] at KD;obtain⟨oa,n6⟩:=exq (an+nm);rw [n6] at KD;obtain⟨A7,d7,rfl,t6,n7⟩:=Row.form KD 0 rfl;replace KD:=hid (KD.pick 4 [1,0,2]);have e6:Rd wb r (cells8 b):=U8 (HB.out _ _ (KD.out.pick 3 []));have e7:=hid e6;clear e6 KC;go_wp2_with (at_builtin; refine Za rfl _ _ 23 rfl 5 i0 (.int .u8 0) 1 1 Tryz.underlying23 hi f7 f8 f9 rfl (by decide) (.slice OA on oc) on (cells8 OO) rfl KD.out r nb cx (cells8 b) rfl (by rw [Zo,F.out,Nat.mul_one]) e7.out (Zg _) (by unfold maxLen; omega) (by omega) ?_)
    intro v0 wc KE _;rw [<- Zf] at KE;obtain⟨ob,n8⟩:=exq (on+nb);rw [n8] at KE;obtain⟨O7,o7,rfl,_,_⟩:=Row.form KE 0 rfl;replace KE:=KE.pick 3 [2,1,0];have n9:Rd (wc.alloc (.cells #[.slice r nb cx] 23)) (some ⟨wc.heap.size,0,none⟩) [.slice r nb cx]:=Rd.of_blk (Blk.new wc 23 [.slice r nb cx]);have o0:=hid n9;have H9:=hid (KE.alloc (.cells #[.slice r nb cx] 23));clear n9 KE KD e7;go_wp2_with (at_builtin; refine Za rfl _ _ 25 rfl 23 j0 (.slice none 0 0) 1 24 Tryz.underlying25 gi r2 r3 r4 rfl (by decide) (.slice PA i pc) i PP rfl H9.out (some ⟨wc.heap.size,0,none⟩) 1 1 [.slice r nb cx] rfl rfl o0.out (by intro u hu; simp only [List.mem_singleton] at hu; subst hu; rfl) (by unfold maxLen; omega) (by omega) ?_)
    intro vf wf KF _;obtain⟨P7,p7,rfl,_,_⟩:=Row.form KF 0 rfl;replace KF:=hid (KF.pick 3 [1,2,0]);clear H9 o0;go_wp2_with fail
    go_roundw
    case rel =>
     refine⟨i+1,oa,d7,ob,o7,p7,A7,O7,P7,WA++M,OO++b,PP++[(Value.slice r nb cx)],by go_num,by omega,rfl,rfl,rfl,?_,?_,?_,?_,?_,by omega,by omega,t6,n7,KF.out⟩
     ·rw [r9.out,a0.out,g8.out]
     ·rw [s0.out,b5.out]
     ·rw [g7.out,j2.out]
     ·rw [List.length_append,Y.out,V.out,n6]
     ·rw [List.length_append,F.out,a1.out,n8]
    case measure=>first | (simp [intOf]; omega) | simp [intOf]
  ·obtain rfl:k=i:=by omega
   have a8:ms.take k=ms:=List.take_of_length_le (by rw [Q.out]; exact Nat.le_refl _);rw [a8] at a0 b5;have HG:=hid (Uf AA an ac WA on H1 (fun _ _ q=>Zz q 0 rfl V.out.symm) (fun _ _ q=>U.out _ _ (q.pick 3 [])) (fun _ _ q=>HT.out _ _ (q.pick 3 [])) V.out (by omega) (by omega) j1 b9);clear c7 a8;by_cases h0:k=0
   ·have y0:(k:Int)=0:=by omega
    have R:PG.all WA on=.error 4:=by
     have e1:ms=[]:=List.length_eq_zero_iff.1 (by rw [Q.out]; exact h0);have e2:WA=[]:=by rw [a0.out,e1]; rfl
     rw [e2];exact PG.all_nil _
    have b4:=hid R;clear R;go_wp2_with fail
    refine HG.out.mono ?_;intro e9 wg h9;clear HG;obtain⟨rfl,o⟩:=LEnd.bad b4.out h9;have HL:=hid (YQ (o.pick 3 []) U.out HT.out HD.out);clear h9 o;go_wp2_with fail
    refine HL.out.mono ?_;rintro _ wz ⟨rfl,KZ⟩;have KZ:=hid KZ;clear HL;go_wp2_with fail
    go_ret;exact⟨rfl,KZ.out⟩
   ·have y0:¬ (k:Int)=0:=by omega
    have R:PG.all WA on=.ok (OO,PG.spans ms 0 0):=by
     have:=PG.all_puts ms a9.out (fun e=>h0 (by rw [<- Q.out,e]; rfl)) on (by rw [<- b5.out,a1.out]; exact Nat.le_refl _);rw [<- a0.out,<- b5.out] at this;exact this
    obtain⟨SP,h4⟩:=exq (PG.spans ms 0 0);rw [h4] at R;have i5:SP.length=k:=by rw [<- h4,PG.spans_len,Q.out]
    have g7:=hid h4;have f3:=hid i5;have b4:=hid R;clear R h4 i5;obtain⟨k1,t7⟩:=exq (k - 1);have yk:(k:Int) - 1=(k1:Int):=by omega
    have t8:(k1:Int)<(k:Int):=by omega
    have z3:k1<=1000:=by omega
    have t9:IntKind.i64.wrap (k1:Int)=(k1:Int):=Yh k1 (by omega);obtain⟨x1,k3⟩:∃x,SP[k1]?=some x:=⟨SP[k1]'(by rw [f3.out]; omega),List.getElem?_eq_getElem _⟩;have o2:x1.2.1=an:=by
     have b6:ms[k1]?=some (ms[k1]'(by rw [Q.out]; omega)):=List.getElem?_eq_getElem _;have h1:=PG.spans_get ms 0 0 k1 _ b6;rw [g7.out,k3] at h1;injection h1 with h1
     have h2:=PG.W_take b6;rw [show k1+1=ms.length by rw [Q.out]; omega,List.take_length,<- a0.out] at h2;have h3:=congrArg List.length h2;rw [V.out,List.length_append] at h3;rw [h1];simp only;omega
    have u0:=hid o2;have u1:=hid k3;clear o2 t7 k3;go_wp2_with fail
    refine HG.out.mono ?_;intro e9 wg h9;clear HG;obtain⟨A2,e1,S2,e2,rfl,o⟩:=LEnd.got b4.out h9;rw [a1.out,f3.out] at o;simp only [a1.out,f3.out];obtain⟨D,rfl,_,p1,_,_⟩:=Ug o 1 rfl k1 x1 u1.out;rw [u0.out] at p1;replace p1:wg.cell? ⟨(D.add (k1 * 4)).block,(D.add (k1 * 4)).off+1,none⟩=some (.int .i64 an):=p1;have a5:Byt wg (.slice A2 on e1) OO:=Zz o 0 rfl a1.out.symm;have a6:Byt wg (.slice OA on oc) OO:=Zz o 3 rfl a1.out.symm;have f0:=run_str (P:=Tryz.prog) _ 23 9 5 _ _ Tryz.underlying23 Tryz.underlying5 Tryz.underlying9 a5;have f1:=run_str (P:=Tryz.prog) _ 23 9 5 _ _ Tryz.underlying23 Tryz.underlying5 Tryz.underlying9 a6;have KG:=hid o;clear a5 a6 h9 b4 o;go_wp2_with fail
    clear p1 f0 f1 yk t8 t9;obtain⟨pad,rfl⟩:∃p,PA=some p:=by
     obtain⟨A9,c9,e9,hr,_,_⟩:=KG.out.row_rd 4 rfl;injection e9 with e9
     subst e9;obtain⟨p,hp,_⟩:=hr (by intro h; have:=congrArg List.length h; rw [j2.out,List.length_map,List.length_take,l0.out] at this; simp at this; omega);exact⟨p,hp⟩
    have o3:((k:Int) == 0)=false:=by rw [beq_eq_false_iff_ne]; exact y0
    simp only [o3];clear h0 y0 o3;go_loopw [27,28,195] (fun av fv iv wr=>∃(i a f:Nat),iv=.int .i64 i/\i<=k/\av=.int .i64 a/\fv=.int .i64 f/\(PG.W (ms.take i)).length=a/\(PG.O (ms.take i)).length=f/\Sp w0 (Row 5 1 (.slice A2 on e1) on (cells8 OO)::Row 44 4 (.slice (some D) k e2) k (spV SP)::Row 5 1 (.slice AA an ac) an (cells8 WA)::Row 5 1 (.slice OA on oc) on (cells8 OO)::Row 23 1 (.slice (some pad) k pc) k PP::L) wr) (fun _ _ iv _=>k - (intOf iv).toNat)
    case atStart=>exact⟨0,0,0,rfl,Nat.zero_le _,rfl,rfl,rfl,rfl,KG.out⟩
    case round =>
     obtain⟨i,a,f,rfl,r8,rfl,rfl,ha,hf,H1⟩:=hrel;clear KG;by_cases c7:i<k
     ·have yi:(i:Int)<(k:Int):=by omega
      obtain⟨x,hx⟩:∃x,X5[i]?=some x:=⟨X5[i]'(by rw [l0.out]; exact c7),List.getElem?_eq_getElem _⟩;have d9:ms[i]?=some (memOf x):=by rw [<- l1.out,List.getElem?_map,hx]; rfl
      have e0:PP[i]?=some (bV x):=by rw [j2.out,List.getElem?_map,List.getElem?_take_of_lt c7,hx]; rfl
      obtain⟨h,B0,n0,I,r,nx,cx,xb⟩:=x;obtain⟨nb,b0⟩:=exq (min nx 600);obtain⟨b,hb⟩:=exq (xb.take nb);obtain⟨hm,a3⟩:=exq (PG.made h);have E:ms[i]?=some (hm,b):=by rw [d9]; show some (PG.made h,xb.take (min nx 600))=_; rw [b0,hb,a3]
      have i6:PP[i]?=some (.slice r nb cx):=by rw [e0]; show some (Value.slice r (min nx 600) cx)=_; rw [b0]
      have T:=(HX.out _ _ (H1.pick 5 [])).2 _ (List.mem_of_mem_take (g2.out ▸ List.mem_of_getElem? hx));have W:b.length=nb:=by rw [<- hb,List.length_take,T.b]; simp only; omega
      have b2:=PG.spans_get ms 0 0 i _ E;rw [g7.out] at b2;have a7:=PG.get_mid a9.out E nb (by simp only; rw [W]; exact Nat.le_refl _);simp only [Nat.zero_add] at b2 a7;rw [<- a0.out,ha] at a7;rw [ha,hf,W] at b2;have h5:=PG.W_take E;have h6:=PG.O_take E;simp only at h5 h6;have k4:=PG.W_take_le ms (i+1);rw [h5,<- a0.out,V.out,List.length_append,ha] at k4;obtain⟨mp,k5⟩:=exq ((PG.put hm b).length);rw [k5] at b2 a7 k4;obtain⟨a2,h7⟩:=exq (a+mp);obtain⟨f2,k6⟩:=exq (f+nb);rw [h7,k6] at b2;have u2:Hid ((PG.W (ms.take (i+1))).length=a2):=hid (by rw [h5,List.length_append,ha,k5,h7]);have u3:Hid ((PG.O (ms.take (i+1))).length=f2):=hid (by rw [h6,List.length_append,hf,W,k6]);have o4:a<=an:=by omega
      have o5:=hid h7;have o6:=hid a7;have F:=hid W;obtain⟨w1,e9,p0,p1,p2,p3⟩:=Ug H1 1 rfl i _ b2;injection e9 with e9
      subst e9;replace p1:wr.cell? ⟨(D.add (i * 4)).block,(D.add (i * 4)).off+1,none⟩=some (.int .i64 a2):=p1;replace p2:wr.cell? ⟨(D.add (i * 4)).block,(D.add (i * 4)).off+2,none⟩=some (.int .i64 f):=p2;replace p3:wr.cell? ⟨(D.add (i * 4)).block,(D.add (i * 4)).off+3,none⟩=some (.int .i64 f2):=p3;have m2:nb<=600:=by omega
      have yf:(f2:Int) - (f:Int)=(nb:Int):=by omega
      have z4:f2<=1000000000/\a2<=1000000000:=by
       have h1:=PG.O_take_le ms (i+1);rw [h6,List.length_append,hf,W,<- b5.out,a1.out] at h1;omega
      have u4:Hid (Ent L fun w=>Byt w (.slice r nb cx) b):=hid fun _ _ q=>by
       have T:=(HX.out _ _ q).2 _ (List.mem_of_mem_take (g2.out ▸ List.mem_of_getElem? hx));have:=T.bb.take nb (by rw [T.b]; show nb<=nx; omega);simp only [hb] at this;exact this
      have k7:=hid i6;have O:=hid (H1.newBk [.int .i64 a,.int .i64 a2,.int .i64 f,.int .i64 f2] 44);clear d9 e0 hx b0 hb a3 E i6 T W b2 a7 h5 h6 k4 k5 h7 k6 ha hf H1;go_wp2_with fail
      replace O:=O.out;generalize World.alloc _ _=w5 at O ⊢;generalize wr.heap.size=g5 at O ⊢;clear p0 p1 p2 p3;have I:w5.cell? ⟨g5,0,none⟩=some (.int .i64 a):=O.cell 0 rfl 0;have c1:w5.cell? ⟨g5,1,none⟩=some (.int .i64 a2):=O.cell 0 rfl 1;have c2:w5.cell? ⟨g5,2,none⟩=some (.int .i64 f):=O.cell 0 rfl 2;have c3:w5.cell? ⟨g5,3,none⟩=some (.int .i64 f2):=O.cell 0 rfl 3;have EP:Hid (Ent (Bk g5 44 [.int .i64 a,.int .i64 a2,.int .i64 f,.int .i64 f2]::Row 5 1 (.slice A2 on e1) on (cells8 OO)::Row 44 4 (.slice (some D) k e2) k (spV SP)::Row 5 1 (.slice AA an ac) an (cells8 WA)::Row 5 1 (.slice OA on oc) on (cells8 OO)::Row 23 1 (.slice (some pad) k pc) k PP::L) fun w=>w.cell? (pad.add i)=some (.slice r nb cx)):=hid fun _ _ q=>by
       obtain⟨A9,c9,e9,hr,_,_⟩:=q.row_rd 5 rfl;injection e9 with e9
       subst e9;obtain⟨p,hp,hc⟩:=hr (by intro h; rw [h] at k7; exact absurd k7.out (by simp));injection hp with hp
       subst hp;exact hc i _ k7.out
      have E0:Hid (Ent (Bk g5 44 [.int .i64 a,.int .i64 a2,.int .i64 f,.int .i64 f2]::Row 5 1 (.slice A2 on e1) on (cells8 OO)::Row 44 4 (.slice (some D) k e2) k (spV SP)::Row 5 1 (.slice AA an ac) an (cells8 WA)::Row 5 1 (.slice OA on oc) on (cells8 OO)::Row 23 1 (.slice (some pad) k pc) k PP::L) fun w=>w.cell? ⟨g5,0,none⟩=some (.int .i64 a)):=hid fun _ _ q=>q.cell 0 rfl 0;have EW:Hid (Ent (Bk g5 44 [.int .i64 a,.int .i64 a2,.int .i64 f,.int .i64 f2]::Row 5 1 (.slice A2 on e1) on (cells8 OO)::Row 44 4 (.slice (some D) k e2) k (spV SP)::Row 5 1 (.slice AA an ac) an (cells8 WA)::Row 5 1 (.slice OA on oc) on (cells8 OO)::Row 23 1 (.slice (some pad) k pc) k PP::L) fun w=>Byt w (.slice AA an ac) WA):=hid fun _ _ q=>Zz q 3 rfl V.out.symm;have u5:Hid (Ent (Bk g5 44 [.int .i64 a,.int .i64 a2,.int .i64 f,.int .i64 f2]::Row 5 1 (.slice A2 on e1) on (cells8 OO)::Row 44 4 (.slice (some D) k e2) k (spV SP)::Row 5 1 (.slice AA an ac) an (cells8 WA)::Row 5 1 (.slice OA on oc) on (cells8 OO)::Row 23 1 (.slice (some pad) k pc) k PP::L) CrcTab):=hid fun _ _ q=>U.out _ _ (q.pick 6 []);have ET:Hid (Ent (Bk g5 44 [.int .i64 a,.int .i64 a2,.int .i64 f,.int .i64 f2]::Row 5 1 (.slice A2 on e1) on (cells8 OO)::Row 44 4 (.slice (some D) k e2) k (spV SP)::Row 5 1 (.slice AA an ac) an (cells8 WA)::Row 5 1 (.slice OA on oc) on (cells8 OO)::Row 23 1 (.slice (some pad) k pc) k PP::L) (Tabs TL TA cl ca)):=hid fun _ _ q=>HT.out _ _ (q.pick 6 []);have EB:Hid (Ent (Bk g5 44 [.int .i64 a,.int .i64 a2,.int .i64 f,.int .i64 f2]::Row 5 1 (.slice A2 on e1) on (cells8 OO)::Row 44 4 (.slice (some D) k e2) k (spV SP)::Row 5 1 (.slice AA an ac) an (cells8 WA)::Row 5 1 (.slice OA on oc) on (cells8 OO)::Row 23 1 (.slice (some pad) k pc) k PP::L) fun w=>Byt w (.slice r nb cx) b):=hid fun _ _ q=>u4.out _ _ (q.pick 6 []);have k8:w5.cell? (pad.add i)=some (.slice r nb cx):=EP.out _ _ O;have KH:=hid O;clear O;go_quiet (fail)
      have KK:=hid (KH.out.drewN nq);clear k8 I c1 c2 c3 KH;generalize w5.drewN nq=w6 at KK ⊢;have z5:(a:Int)<=(an:Int):=by omega
      go_wp2_with fail
      refine Zm (L:=Bk g5 44 [.int .i64 a,.int .i64 a2,.int .i64 f,.int .i64 f2]::Row 5 1 (.slice A2 on e1) on (cells8 OO)::Row 44 4 (.slice (some D) k e2) k (spV SP)::Row 5 1 (.slice AA an ac) an (cells8 WA)::Row 5 1 (.slice OA on oc) on (cells8 OO)::Row 23 1 (.slice (some pad) k pc) k PP::L) [some (.slice AA an ac),some (.pointer (some ⟨g5,0,none⟩)),some (.int .i64 a),some (.slice (some pad) k pc),some (.int .i64 i),some (.pointer (some (pad.add i))),some (.slice r nb cx),some (.int .i64 nb),none,none,none,some (.int .i64 mp),some (.int .i64 0),none,some (.int .i64 mp),some (.int .i64 0)] (fun ix ux vx=>match ix with | 8=>(fun vv=>vv=.tuple #[exT vv,.int .i64 mp,.int .i64 0]) vx | 9=>(fun ux vv=>vv=ux/\ux=.tuple #[exT ux,.int .i64 mp,.int .i64 0]) ux vx | 10=>(fun ux vv=>vv=exT ux) ux vx | 13=>(fun ux vv=>vv=exT ux) ux vx | _=>True) (fun ix ux vx=>match ix with | 8=>(fun vv=>[Row 5 1 (exT vv) nb (cells8 b)]) vx | _=>[]) (fun _=>[]) 16 277
       [some 224,some 225,some 226,some 227,some 228,some 229,some 230,some 231,some 232,some 223,some 233,some 234,some 235,some 31,some 32,some 33]
       [[],[],[1],[],[],[3,4],[5],[6],[0,2,7],[8],[9],[9],[9],[10,8,0,1,2,3,4,5,6,7,8,9,10],[11,13,0,1,2,3,4,5,6,7,8,9,10,11,13],[12,14,0,1,2,3,4,5,6,7,8,9,10,11,12,13,14]]
       [[],[],[1],[],[],[3,4],[3,4,5],[3,4,5,6],[0,1,2,3,4,5,6,7],[0,1,2,3,4,5,6,7,8],[0,1,2,3,4,5,6,7,8,9],[0,1,2,3,4,5,6,7,8,9],[0,1,2,3,4,5,6,7,8,9],[0,1,2,3,4,5,6,7,8,9,10],[0,1,2,3,4,5,6,7,8,9,10,11,13],[0,1,2,3,4,5,6,7,8,9,10,11,12,13,14]]
       [[],[],[],[],[],[],[],[],[],[],[],[],[],[],[],[]] [[],[],[],[],[],[],[],[],[],[],[],[],[],[],[],[]] [none,none,none,none,none,none,none,none,none,some 8,some 8,none,none,some 8,none,none] [(7,.slice AA an ac),(9,.slice (some pad) k pc),(29,.int .i64 i),(30,.pointer (some ⟨g5,0,none⟩))]
       (by kernel_rfl) rfl (by decide) (by rfl) (by decide +kernel) rfl (by simp) (by rfl) (KK.out) ?hstep ?hend
      case hstep =>
       refine⟨?p0,⟨?p1,⟨?p2,⟨?p3,⟨?p4,⟨?p5,⟨?p6,⟨?p7,⟨?p8,⟨?p9,⟨?p10,⟨?p11,⟨?p12,⟨?p13,⟨?p14,⟨?p15,trivial⟩⟩⟩⟩⟩⟩⟩⟩⟩⟩⟩⟩⟩⟩⟩⟩
       case p0 | p1 | p3 | p4 | p5 | p7 | p14 | p15 =>
        intro x wx A l B g C H K s;replace s:=hid s;clear g C;repeat (obtain⟨_,B⟩:=B)
        refine so ?_;go_step;exact s.out _ _ rfl H
       case p2 =>
        intro x wx A l B g C H K d;have x0:=tq g 1;have s:=hid d;clear d B g;have cc:=C _ E0.out _ _ H;refine so ?_;go_step;exact s.out _ _ rfl H
       case p6 =>
        intro x wx A l B g C H K d;have x2:=tq g 5;have s:=hid d;clear d B g;have cc:=C _ EP.out _ _ H;refine so ?_;go_step;exact s.out _ _ rfl H
       case p8 =>
        intro x wx A l B g C H K d;have x3:=tq g 0;have x4:=tq g 2;have x5:=tq g 7;have s:=hid d;clear d B g;have HW:=hid (Si AA an ac WA a nb H (C _ EW.out) (C _ u5.out) (C _ ET.out) V.out (by omega) (by omega) j1 b9 o4);rw [o6.out] at HW;refine so ?_;go_wp2_with fail
        refine HW.out.mono ?_;intro e9 w9 h9;obtain⟨A8,c8,rfl,o⟩:=TEnd.got rfl h9;rw [F.out] at o;simp only [F.out];exact s.out _ _ rfl o
       case p9 =>
        intro x wx A l B g C H K d;have f4:(x 8)=.tuple #[exT (x 8),.int .i64 mp,.int .i64 0]:=(g 8 (by decide)).1;have x6:=(g 8 (by decide)).2 232 rfl;have s:Hid (∀(v:Value) (w' : World),(v=(x 8)/\(x 8)=.tuple #[exT (x 8),.int .i64 mp,.int .i64 0])->Sp w0 (l) w'->K (A.put (some 223) v) w'):=hid d;clear d B g C;replace f4:=hid f4;refine so ?_;go_step;exact s.out _ _ ⟨rfl,f4.out⟩ H
       case p10 =>
        intro x wx A l B g C H K d;have t:(x 9)=(x 8)/\(x 8)=.tuple #[exT (x 8),.int .i64 mp,.int .i64 0]:=(g 9 (by decide)).1;have G:=(g 9 (by decide)).2 223 rfl;have s:=hid d;clear d B g C;replace G:=G.trans (t.1.trans t.2);clear t;refine so ?_;go_step;exact s.out _ _ rfl H
       case p11 =>
        intro x wx A l B g C H K d;have t:(x 9)=(x 8)/\(x 8)=.tuple #[exT (x 8),.int .i64 mp,.int .i64 0]:=(g 9 (by decide)).1;have G:=(g 9 (by decide)).2 223 rfl;have s:=hid d;clear d B g C;replace G:=G.trans (t.1.trans t.2);clear t;refine so ?_;go_step;exact s.out _ _ rfl H
       case p12 =>
        intro x wx A l B g C H K d;have t:(x 9)=(x 8)/\(x 8)=.tuple #[exT (x 8),.int .i64 mp,.int .i64 0]:=(g 9 (by decide)).1;have G:=(g 9 (by decide)).2 223 rfl;have s:=hid d;clear d B g C;replace G:=G.trans (t.1.trans t.2);clear t;refine so ?_;go_step;exact s.out _ _ rfl H
       case p13 =>
        intro x wx A l B g C H K d;have o8:(x 10)=exT (x 8):=(g 10 (by decide)).1;have i7:=(g 10 (by decide)).2 233 rfl;have s:=hid d;clear d B g C;replace i7:=i7.trans o8;refine so ?_;go_step;exact s.out _ _ rfl H
      case hend =>
       intro x wx A hA g H;replace H:Sp w0 ((Row 5 1 (exT (x 8)) nb (cells8 b))::_::_::_::_::_::_::L) wx:=H;have k9:(x 13)=exT (x 8):=g 13 (by decide);have o9:x 14=.int .i64 mp:=g 14 (by decide);have q8:x 15=.int .i64 0:=g 15 (by decide);clear g;simp only [putAll,Act.put,List.setIfInBounds_toArray,List.set_cons_succ,List.set_cons_zero,Nat.reduceAdd] at hA;subst hA;obtain⟨vt,q9⟩:=exq (exT (x 8));rw [q9] at k9 H;rw [k9,o9,q8];clear k9 o9 q8 q9 KK;obtain⟨A8,c8,rfl,_,_⟩:=Row.form H 0 rfl;have I:wx.cell? ⟨g5,0,none⟩=some (.int .i64 a):=H.cell 1 rfl 0;have c1:wx.cell? ⟨g5,1,none⟩=some (.int .i64 a2):=H.cell 1 rfl 1;have c2:wx.cell? ⟨g5,2,none⟩=some (.int .i64 f):=H.cell 1 rfl 2;have c3:wx.cell? ⟨g5,3,none⟩=some (.int .i64 f2):=H.cell 1 rfl 3;have k8:wx.cell? (pad.add i)=some (.slice r nb cx):=EP.out _ _ H.tail;have a5:∀m:Nat,Byt (wx.drewN m) (.slice A8 nb c8) b:=fun m=>Zz (H.drewN m) 0 rfl F.out.symm;have a6:∀m:Nat,Byt (wx.drewN m) (.slice r nb cx) b:=fun m=>EB.out _ _ (H.drewN m).tail;have f0:=fun m:Nat=>run_str (P:=Tryz.prog) _ 23 9 5 _ _ Tryz.underlying23 Tryz.underlying5 Tryz.underlying9 (a5 m);have f1:=fun m:Nat=>run_str (P:=Tryz.prog) _ 23 9 5 _ _ Tryz.underlying23 Tryz.underlying5 Tryz.underlying9 (a6 m);have ya:(a2:Int) - (a:Int)=(mp:Int):=by have:=o5.out; omega
       have r0:mp<=1000000000:=by have:=o5.out; omega
       have z6:IntKind.i64.wrap (mp:Int)=(mp:Int):=Yh mp r0;have KH:=hid H;clear a5 a6 H;go_upto_region 31 with (fail)
       go_quiet (fail)
       have KI:=KH.out.drewN nq;clear f0 f1 k8 I c1 c2 c3 KH;generalize wx.drewN nq=wy at KI ⊢;have I:wy.cell? ⟨g5,0,none⟩=some (.int .i64 a):=KI.cell 1 rfl 0;have c1:wy.cell? ⟨g5,1,none⟩=some (.int .i64 a2):=KI.cell 1 rfl 1;have c2:wy.cell? ⟨g5,2,none⟩=some (.int .i64 f):=KI.cell 1 rfl 2;have c3:wy.cell? ⟨g5,3,none⟩=some (.int .i64 f2):=KI.cell 1 rfl 3;have KJ:=hid KI;clear KI;go_upto_region 33 with (fail)
       go_quiet (fail)
       have KI:=hid ((KJ.out.drewN nq).pick 7 [2,3,4,5,6]);clear KJ;generalize wy.drewN nq=wz at KI ⊢;clear I c1 c2 c3;go_wp2_with fail
       go_roundw
       case rel=>exact⟨i+1,a2,f2,by go_num,by omega,rfl,rfl,u2.out,u3.out,KI.out⟩
       case measure=>first | (simp [intOf]; omega) | simp [intOf]
     ·obtain rfl:k=i:=by omega
      have KI:=hid (H1.pick 5 [2,3]);clear H1;by_cases x7:0<on
      ·have yo:(on:Int) > 0:=by omega
       obtain⟨o1,u6⟩:=exq (on - 1);have z7:(on:Int) - 1=(o1:Int):=by omega
       have i8:PG.all WA o1=.error 22:=by
        rw [a0.out];exact PG.all_cap ms a9.out o1 (by rw [<- b5.out,a1.out]; omega)
       have r1:=hid i8;have HG:=hid (Uf AA an ac WA o1 KI.out (fun _ _ q=>Zz q 0 rfl V.out.symm) (fun _ _ q=>U.out _ _ (q.pick 2 [])) (fun _ _ q=>HT.out _ _ (q.pick 2 [])) V.out (by omega) (by omega) j1 b9);clear i8 u6 KI;go_wp2_with fail
       refine HG.out.mono ?_;intro e9 wg h9;clear HG;obtain⟨rfl,o⟩:=LEnd.bad r1.out h9;have HL:=hid (YQ (o.pick 2 []) U.out HT.out HD.out);clear h9 o;go_wp2_with fail
       refine HL.out.mono ?_;rintro _ wz ⟨rfl,KZ⟩;have KZ:=hid KZ;clear HL;go_wp2_with fail
       go_ret;exact⟨rfl,KZ.out⟩
      ·have yo:¬ (on:Int) > 0:=by omega
       have HL:=hid (YQ (KI.out.pick 2 []) U.out HT.out HD.out);clear KI;go_wp2_with fail
       refine HL.out.mono ?_;rintro _ wz ⟨rfl,KZ⟩;have KZ:=hid KZ;clear HL;go_wp2_with fail
       go_ret;exact⟨rfl,KZ.out⟩
end Go.Proofs.YtnjpnmpemhldcaaGreatDoor

