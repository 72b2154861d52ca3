/- A pack. -/
import Derived.ShutString
import Derived.Test.YtnjpnmpemhldcaaGreatDoorCards
import Derived.Test.YtnjpnmpemhldcaaGreatDoorTie
import Derived.Test.YtnjpnmpemhldcaaGreatDoorPk49
set_option linter.all false
set_option maxRecDepth 100000
set_option maxHeartbeats 8000000
namespace Go.Proofs.YtnjpnmpemhldcaaGreatDoor
variable {w0 w:World} {L:List Pr}
open Go.RowKit
def codeG:Except Nat (PG.Hd × List UInt8 × Nat)->Nat
 | .error c=>c
 | .ok _=>0
theorem V8 (v:Value) (m:Int) (H:Sp w0 L w) (hm:m<0) :
  Calls Tryz.prog 16 #[v,.int .i64 m] w fun e w'=>e=.returned (.int .i64 1)/\Sp w0 L w':=by
 have a:=hid (Ws v m H hm);clear H;go_enter Tryz.func16,Tryz.ntmps16
 go_wp2_with fail
 refine a.out.mono ?_;rintro _ d ⟨rfl,b⟩;have c:=hid (b.newBk [.int .u8 0,.int .u8 0,.int .u8 0,.int .u32 0,.slice none 0 0,.string ⟨#[]⟩,.string ⟨#[]⟩] 28);clear a b;go_wp2_with fail
 go_ret;exact⟨rfl,c.out.tail⟩
theorem ZL (BA:Option Addr) (n c:Nat) (B:List UInt8) (most:Nat) {TL TA:Option Addr} {cl ca:Nat} (H:Sp w0 L w) (hb:Ent L fun w=>Byt w (.slice BA n c) B) (hct:Ent L CrcTab) (hT:Ent L (Tabs TL TA cl ca)) (hn:B.length=n) (hnm:n<=100000000) (hm:most<=1000000000) (hcn:n<=c) (hcm:c<=maxLen) :
  Calls Tryz.prog 16 #[.slice BA n c,.int .i64 most] w fun e w'=>e=.returned (.int .i64 (codeG (PG.get B most):Int))/\Sp w0 L w':=by
 have h:=hid (YN BA n c B most H hb hct hT hn hnm hm hcn hcm);obtain⟨y,f⟩:=exq (codeG (PG.get B most));rw [f];have i:=hid f;clear H hb hct hT f;go_enter Tryz.func16,Tryz.ntmps16
 go_wp2_with fail
 refine h.out.mono ?_;intro m o d;clear h;cases hr:PG.get B most with
 | error z =>
  obtain⟨rfl,b⟩:=GEnd.bad hr d;have g:=hid (b.newBk [.int .u8 0,.int .u8 0,.int .u8 0,.int .u32 0,.slice none 0 0,.string ⟨#[]⟩,.string ⟨#[]⟩] 28);obtain rfl:z=y:=by rw [<- i.out,hr]; rfl
  clear d hr b;go_wp2_with fail
  go_ret;exact⟨rfl,g.out.tail⟩
 | ok r =>
  obtain⟨a,j,u⟩:=r;obtain⟨k,l,p,q,rfl,b⟩:=GEnd.got hr d;have g:=hid ((b.newBk [.int .u8 a.flags.toNat,.int .u8 a.level.toNat,.int .u8 a.system.toNat,.int .u32 a.time,.slice k a.extra.length l,.string (strOf a.name),.string (strOf a.note)] 28).pick 3 []);obtain rfl:y=0:=by rw [<- i.out,hr]; rfl
  clear d hr b;go_wp2_with fail
  go_ret;exact⟨rfl,g.out⟩
theorem TR (BA:Option Addr) (n c:Nat) (m:Int) (H:Sp w0 L w) (hm:m<0) (hnc:n<=c) :
  Calls Tryz.prog 15 #[.slice BA n c,.int .i64 0,.int .i64 m] w fun e w'=>e=.returned (.tuple #[.slice none 0 0,.int .i64 0,.int .i64 1])/\Sp w0 L w':=by
 have a:=hid (Ws (.slice BA n c) m H hm);have f:(n:Int)<=(c:Int):=by omega
 clear H;go_enter Tryz.func15,Tryz.ntmps15
 go_wp2_with fail
 refine a.out.mono ?_;rintro _ g ⟨rfl,b⟩;have d:=hid b;clear a b;go_wp2_with fail
 go_ret3
 exact⟨rfl,d.out⟩
theorem TEnd.bad {w0:World} {T:Except Nat (PG.Hd × List UInt8 × Nat)} {c:Nat} (h:T=.error c) {e:Ending} {w' : World} (k:TEnd w0 L T e w'):e=.returned (.tuple #[.slice none 0 0,.int .i64 0,.int .i64 c])/\Sp w0 L w':=by
 subst h; exact k
def hsC (x:PG.Hd × Option Addr × Nat × Nat):List Value:=[.int .u8 x.1.flags.toNat,.int .u8 x.1.level.toNat,.int .u8 x.1.system.toNat,.int .u32 x.1.time,.slice x.2.1 x.2.2.1 x.2.2.2,.string (strOf x.1.name),.string (strOf x.1.note)]
theorem UL {M:List Pr} {g:Nat} {HS:List (PG.Hd × Option Addr × Nat × Nat)} (H:Sp w0 M w) (j:Nat) (hj:M[j]?=some (Bk g 28 (HS.flatMap hsC))) (i:Nat) (x:PG.Hd × Option Addr × Nat × Nat) (hx:HS[i]?=some x) (ad:Addr) (had:(⟨g,0,none⟩:Addr)=ad) :
  w.cell? (ad.add (i * 7))=some (.int .u8 x.1.flags.toNat)/\w.cell? ⟨(ad.add (i * 7)).block,(ad.add (i * 7)).off+1,none⟩=some (.int .u8 x.1.level.toNat)/\w.cell? ⟨(ad.add (i * 7)).block,(ad.add (i * 7)).off+2,none⟩=some (.int .u8 x.1.system.toNat)/\w.cell? ⟨(ad.add (i * 7)).block,(ad.add (i * 7)).off+3,none⟩=some (.int .u32 x.1.time)/\w.cell? ⟨(ad.add (i * 7)).block,(ad.add (i * 7)).off+4,none⟩=some (.slice x.2.1 x.2.2.1 x.2.2.2)/\w.cell? ⟨(ad.add (i * 7)).block,(ad.add (i * 7)).off+5,none⟩=some (.string (strOf x.1.name))/\w.cell? ⟨(ad.add (i * 7)).block,(ad.add (i * 7)).off+6,none⟩=some (.string (strOf x.1.note)):=by
 have d:i<HS.length:=(List.getElem?_eq_some_iff.1 hx).1;have a:=Zl H j hj;rw [had] at a;have b:∀q,q<7->(HS.flatMap hsC)[i * 7+q]?=(hsC x)[q]?:=fun q hq=>by
  obtain⟨p,c,e⟩:=UI hsC 7 (fun _=>rfl) HS i q hq d;rw [hx] at c;injection c with c
  rw [c]; exact e
 refine⟨?_,?_,?_,?_,?_,?_,?_⟩
 ·have:=a (i * 7+0) _ (b 0 (by decide)); simpa using this
 ·have:=a (i * 7+1) _ (b 1 (by decide)); rw [<- Go.Addr.add_add] at this; exact this
 ·have:=a (i * 7+2) _ (b 2 (by decide)); rw [<- Go.Addr.add_add] at this; exact this
 ·have:=a (i * 7+3) _ (b 3 (by decide)); rw [<- Go.Addr.add_add] at this; exact this
 ·have:=a (i * 7+4) _ (b 4 (by decide)); rw [<- Go.Addr.add_add] at this; exact this
 ·have:=a (i * 7+5) _ (b 5 (by decide)); rw [<- Go.Addr.add_add] at this; exact this
 ·have:=a (i * 7+6) _ (b 6 (by decide)); rw [<- Go.Addr.add_add] at this; exact this
theorem UM {TL TA:Option Addr} {cl ca:Nat} {DL DF:Option Addr} {dl df:Nat} (H:Sp w0 L w) (hct:Ent L CrcTab) (hT:Ent L (Tabs TL TA cl ca)) (hD:Ent L (DTabs DL DF dl df)) :
  Calls Tryz.prog 4 #[] w fun e w'=>e=.returned (.bool true)/\Sp w0 L w':=by
 obtain⟨i0,hi,t,u,y⟩:=info_parts info8;have f:=hid hct;have z:=hid hT;have HD:=hid hD;have h8:=True.intro;obtain⟨u1,E,K0⟩:=W5 H [80,84,2,0,97,98];have e4:Sem.run Tryz.prog (convert 23 23 (.slice (some ⟨w.heap.size,0,none⟩) 6 6)) (w.alloc (.cells #[.int .u8 80,.int .u8 84,.int .u8 2,.int .u8 0,.int .u8 97,.int .u8 98] 5))=.ok (.slice (some ⟨w.heap.size,0,none⟩) 6 6) u1:=E 6 rfl;clear hct hT hD H E h8;obtain⟨g0,e5⟩:=exq w.heap.size;rw [e5] at K0 e4;have m:=K0.newBk [.int .u8 31,.int .u8 2,.int .u8 3,.int .u32 16909060,.slice (some ⟨g0,0,none⟩) 6 6,.string ⟨#[110]⟩,.string ⟨#[195,169]⟩] 28;obtain⟨g1,e6⟩:=exq u1.heap.size;rw [e6] at m;have B:=hid m;clear K0 m;go_enter Tryz.func4,Tryz.ntmps4
 go_upto_region 2 with (fail)
 replace B:=B.out;generalize World.alloc _ _=w1 at B ⊢;clear e4 e5 e6;have c0:w1.cell? ⟨g1,0,none⟩=some (.int .u8 31):=B.cell 0 rfl 0;have c1:w1.cell? ⟨g1,1,none⟩=some (.int .u8 2):=B.cell 0 rfl 1;have c2:w1.cell? ⟨g1,2,none⟩=some (.int .u8 3):=B.cell 0 rfl 2;have c3:w1.cell? ⟨g1,3,none⟩=some (.int .u32 16909060):=B.cell 0 rfl 3;have c4:w1.cell? ⟨g1,4,none⟩=some (.slice (some ⟨g0,0,none⟩) 6 6):=B.cell 0 rfl 4;have c5:w1.cell? ⟨g1,5,none⟩=some (.string ⟨#[110]⟩):=B.cell 0 rfl 5;have c6:w1.cell? ⟨g1,6,none⟩=some (.string ⟨#[195,169]⟩):=B.cell 0 rfl 6;obtain⟨u2,E,K2⟩:=W5 B PG.bK;have e7:Sem.run Tryz.prog (convert 23 23 (.slice (some ⟨w1.heap.size,0,none⟩) 10 10)) (w1.alloc (.cells #[.int .u8 97,.int .u8 97,.int .u8 97,.int .u8 97,.int .u8 97,.int .u8 97,.int .u8 97,.int .u8 97,.int .u8 97,.int .u8 97] 5))=.ok (.slice (some ⟨w1.heap.size,0,none⟩) 10 10) u2:=E 10 rfl;obtain⟨g2,e8⟩:=exq w1.heap.size;rw [e8] at K2 e7;clear E;have F:Hid (Calls Tryz.prog 9 #[.agg #[.int .u8 31,.int .u8 2,.int .u8 3,.int .u32 16909060,.slice (some ⟨g0,0,none⟩) 6 6,.string ⟨#[110]⟩,.string ⟨#[195,169]⟩],.slice (some ⟨g2,0,none⟩) 10 10] u2 fun e w'=>∃v,e=.returned (.tuple #[v,.int .i64 0])/\Sp w0 (Row 5 1 v (PG.put PG.hK PG.bK).length (cells8 (PG.put PG.hK PG.bK))::Lit g2 PG.bK::Bk g1 28 [.int .u8 31,.int .u8 2,.int .u8 3,.int .u32 16909060,.slice (some ⟨g0,0,none⟩) 6 6,.string ⟨#[110]⟩,.string ⟨#[195,169]⟩]::Lit g0 [80,84,2,0,97,98]::L) w') :=
  hid (VQ PG.hK (some ⟨g0,0,none⟩) 6 6 (some ⟨g2,0,none⟩) 10 10 K2 rfl PG.hK_ok (by decide) (fun _ _ q=>q.lit 2 (l:=[80,84,2,0,97,98]) rfl (by decide)) (fun _ _ q=>f.out _ _ (q.pick 3 [])) (fun _ _ q=>HD.out _ _ (q.pick 3 [])) PG.bK rfl (by decide) (Nat.le_refl _) (by decide) (fun _ _ q=>q.lit 0 (l:=PG.bK) rfl (by decide)))
 have f0:(PG.put PG.hK PG.bK).length<=300000:=by
  have h1:=Wl PG.hK PG.hK_ok;have h2:=PD.defl_le2 PG.bK (by decide);rw [PG.put_len];omega
 have f1:=PG.kn_len;have b3:=PG.kn_take;obtain⟨M,hM⟩:=exq (PG.put PG.hK PG.bK);rw [hM] at F f1 f0 b3;obtain⟨nm,b4⟩:=exq M.length;rw [b4] at F f1 f0;have U:=hid hM;have d:=hid b4;have i1:=hid b3;clear hM b4 b3 B K2;go_wp2_with fail
 clear e8 e7;refine F.out.mono ?_;rintro _ w2 ⟨v2,rfl,K6⟩;clear F c0 c1 c2 c3 c4 c5 c6;obtain⟨s,o,rfl,V,G⟩:=Row.form K6 0 rfl;have c:=hid (K6.pick 4 [0]);clear K6;have i2:¬ (nm:Int)<25:=by omega
 have b5:(23:Int)<=(o:Int):=by omega
 have a3:Byt w2 (.slice s 23 o) PG.hdK:=by
  have:=(ZT c.out 0 rfl d.out.symm).take 23 (by rw [d.out]; omega);rw [i1.out] at this;exact this
 have i3:Sem.run Tryz.prog (convert 23 9 (.slice s 23 o)) w2=.ok (.string ⟨#[31,139,8,31,4,3,2,1,2,3,6,0,80,84,2,0,97,98,110,0,195,169,0]⟩) w2:=run_str (P:=Tryz.prog) _ 23 9 5 _ _ Tryz.underlying23 Tryz.underlying5 Tryz.underlying9 a3;clear a3;go_wp2_with (at_builtin; refine Za rfl _ _ 23 rfl 5 i0 (.int .u8 0) 1 1 Tryz.underlying23 hi t u y rfl (by decide) (.slice none 0 0) 0 [] rfl (c.out.rowNil _ _) s nm o (cells8 M) rfl (by rw [Zp,d.out,Nat.mul_one]) (rowRd c.out 0 rfl) (Zg _) (by unfold maxLen; omega) (by omega) ?_)
 intro v3 w3 K7 _;obtain⟨A3,d3,rfl,i4,f2⟩:=Row.form K7 0 rfl;clear c i3 i2 b5;obtain⟨C,c9,i5,_,hc,hz,a4⟩:=K7.rowSet (i:=23) (by omega);injection i5 with ea eb ec
 subst ea ec;clear eb;obtain⟨xv,b6⟩:=exq (M.getD 23 0);have i6:w3.cell? ⟨C.block,C.off+23,none⟩=some (.int .u8 xv.toNat):=by
  have g:w3.cell? (C.add 23)=some (.int .u8 xv.toNat):=by rw [hc,Wu _ _ (by rw [d.out]; omega),b6]
  exact g
 replace hz:w3.frozen? ⟨C.block,C.off+23,none⟩=false:=hz;have yx:bits .xor .u8 (xv.toNat:Int) 1=((xv ^^^ 1).toNat:Int):=by
  have g:=u8_xor_nat xv.toNat 1 (UInt8.toNat_lt _) (by decide);rw [show((1:Nat):Int)=1 from rfl] at g;rw [g,UInt8.toNat_xor]; rfl
 obtain⟨zv,b7⟩:=exq (xv ^^^ 1);rw [b7] at yx;obtain⟨SM,W⟩:=exq (M.set 23 zv);have f3:SM.length=nm:=by rw [<- W,List.length_set,d.out]
 have b:Sp w0 (Row 5 1 (.slice (some C) nm d3) nm (cells8 SM)::Row 5 1 (.slice s nm o) nm (cells8 M)::L) (w3.setCell ⟨C.block,C.off+23,none⟩ (.int .u8 zv.toNat)):=by
  have g:=a4 (.int .u8 zv.toNat);have e9:cells8 SM=(cells8 M).set 23 (.int .u8 zv.toNat):=by
   rw [<- W];unfold cells8;rw [List.map_set]
  rw [e9];exact g
 have f4:PG.get SM 10=.error 21:=by
  have g:=PG.kn_spoilt;rw [U.out,b6,b7,W] at g;exact g
 have i7:=hid f4;have f5:=hid f3;have b5:(23:Int)<(nm:Int):=by omega
 replace b:=hid b;clear hc a4 b6 b7 W K7 f4 f3;go_upto_region 9 with (fail)
 clear i6 hz yx b5;replace b:=b.out;generalize World.setCell _ _ _=w4 at b ⊢;have KD:=b.newBk [.int .u8 1] 5;obtain⟨g3,f6⟩:=exq w4.heap.size;rw [f6] at KD;replace KD:=hid KD;clear b;obtain⟨X,a5⟩:∃n:Nat,n=65536:=⟨_,rfl⟩;have I:=hid a5;have a6:Hid ((65536:Int)=(X:Int)):=hid (by omega);clear a5;go_wp2_with (at_make; refine Zk rfl _ _ _ rfl 5 i0 (.int .u8 0) Tryz.underlying23 hi t u rfl X (by rw [<- a6.out]; rfl) (by rw [<- a6.out]; rfl) (by rw [y,I.out]; omega) (by rw [I.out]; unfold maxLen; omega) KD.out ?_)
 intro b8 w5 KE;clear KD;have KF:=KE.newBk [.int .u8 32,.int .u8 0,.int .u8 0,.int .u32 0,.slice none 0 0,.string ⟨#[]⟩,.string ⟨#[]⟩,.int .u8 0,.int .u8 0,.int .u8 0,.int .u32 0,.slice (some ⟨g3,0,none⟩) 1 1,.string ⟨#[]⟩,.string ⟨#[]⟩,.int .u8 0,.int .u8 0,.int .u8 0,.int .u32 0,.slice none 0 0,.string ⟨#[110]⟩,.string ⟨#[]⟩,.int .u8 8,.int .u8 0,.int .u8 0,.int .u32 0,.slice none 0 0,.string ⟨#[97,0]⟩,.string ⟨#[]⟩,.int .u8 8,.int .u8 0,.int .u8 0,.int .u32 0,.slice none 0 0,.string ⟨#[]⟩,.string ⟨#[120]⟩,.int .u8 4,.int .u8 0,.int .u8 0,.int .u32 0,.slice (some b8) X X,.string ⟨#[]⟩,.string ⟨#[]⟩] 28;obtain⟨g8,f7⟩:=exq w5.heap.size;rw [f7] at KF;obtain⟨HS,Y⟩:∃q:List (PG.Hd × Option Addr × Nat × Nat),[(⟨32,0,0,0,[],[],[]⟩,none,0,0),(⟨0,0,0,0,[1],[],[]⟩,some ⟨g3,0,none⟩,1,1),(⟨0,0,0,0,[],[110],[]⟩,none,0,0),(⟨8,0,0,0,[],[97,0],[]⟩,none,0,0),(⟨8,0,0,0,[],[],[120]⟩,none,0,0),(⟨4,0,0,0,List.replicate X 0,[],[]⟩,some b8,X,X)]=q:=⟨_,rfl⟩;have Z:Sp w0 (Bk g8 28 (HS.flatMap hsC)::Row 5 1 (.slice (some C) nm d3) nm (cells8 SM)::Row 5 1 (.slice s nm o) nm (cells8 M)::L) (w5.alloc (.cells #[.int .u8 32,.int .u8 0,.int .u8 0,.int .u32 0,.slice none 0 0,.string ⟨#[]⟩,.string ⟨#[]⟩,.int .u8 0,.int .u8 0,.int .u8 0,.int .u32 0,.slice (some ⟨g3,0,none⟩) 1 1,.string ⟨#[]⟩,.string ⟨#[]⟩,.int .u8 0,.int .u8 0,.int .u8 0,.int .u32 0,.slice none 0 0,.string ⟨#[110]⟩,.string ⟨#[]⟩,.int .u8 8,.int .u8 0,.int .u8 0,.int .u32 0,.slice none 0 0,.string ⟨#[97,0]⟩,.string ⟨#[]⟩,.int .u8 8,.int .u8 0,.int .u8 0,.int .u32 0,.slice none 0 0,.string ⟨#[]⟩,.string ⟨#[120]⟩,.int .u8 4,.int .u8 0,.int .u8 0,.int .u32 0,.slice (some b8) X X,.string ⟨#[]⟩,.string ⟨#[]⟩] 28)):=by
  have g:=KF.pick 5 [0,3,4];rw [<- Y];exact g
 have f8:∀x ∈ HS,¬ PG.Ok x.1/\x.1.extra.length=x.2.2.1/\x.1.name.length<=maxLen/\x.1.note.length<=maxLen:=by
  rw [<- Y];intro x hx;simp only [List.mem_cons,List.not_mem_nil,or_false] at hx;rcases hx with rfl | rfl | rfl | rfl | rfl | rfl
  ·exact⟨by simp only; decide,rfl,by simp only; decide,by simp only; decide⟩
  ·exact⟨by simp only; decide,rfl,by simp only; decide,by simp only; decide⟩
  ·exact⟨by simp only; decide,rfl,by simp only; decide,by simp only; decide⟩
  ·exact⟨by simp only; decide,rfl,by simp only; decide,by simp only; decide⟩
  ·exact⟨by simp only; decide,rfl,by simp only; decide,by simp only; decide⟩
  ·refine⟨fun q=>?_,by simp only [List.length_replicate],by simp only; decide,by simp only; decide⟩;have g:=q.2.1;simp only [List.length_replicate] at g;rw [I.out] at g;omega
 have f9:HS.length=6:=by rw [<- Y]; rfl
 have i8:=hid f8;have i9:=hid f9;replace Z:=hid Z;clear KE KF Y f8 f9;go_wp2_with fail
 replace Z:=Z.out;generalize World.alloc _ _=w6 at Z ⊢;clear f7 f6;obtain⟨j0,b9⟩:=exq ((⟨g8,0,none⟩:Addr));rw [b9];have j1:=hid b9;replace Z:=hid Z;clear b9;go_loopw [82] (fun iv wr=>∃i:Nat,iv=.int .i64 i/\i<=6/\Sp w0 (Bk g8 28 (HS.flatMap hsC)::Row 5 1 (.slice (some C) nm d3) nm (cells8 SM)::Row 5 1 (.slice s nm o) nm (cells8 M)::L) wr) (fun iv _=>6 - (intOf iv).toNat)
 case atStart=>exact⟨0,rfl,Nat.zero_le _,Z.out⟩
 case round =>
  obtain⟨i,rfl,j2,H1⟩:=hrel;clear Z;by_cases g4:i<6
  ·have yi:(i:Int)<6:=by omega
   obtain⟨x,hx⟩:∃x,HS[i]?=some x:=⟨HS[i]'(by rw [i9.out]; exact g4),List.getElem?_eq_getElem _⟩;obtain⟨q0,q1,q2,q3,q4,q5,q6⟩:=UL H1 0 rfl i x hx j0 j1.out;obtain⟨c7,c8,d7,d8⟩:=i8.out x (List.mem_of_getElem? hx);obtain⟨h,B0,n0,k0⟩:=x;simp only at q0 q1 q2 q3 q4 q5 q6 c7 c8 d7 d8;have g5:=hid c7;have g6:=hid c8;have g7:=hid d7;have h0:=hid d8;have A:=hid (H1.newBk [.int .u8 h.flags.toNat,.int .u8 h.level.toNat,.int .u8 h.system.toNat,.int .u32 h.time,.slice B0 n0 k0,.string (strOf h.name),.string (strOf h.note)] 28);clear H1 hx c7 c8 d7 d8;go_upto_region 12 with (fail)
   clear q0 q1 q2 q3 q4 q5 q6;replace A:=A.out;generalize World.alloc _ _=w7 at A ⊢;generalize wr.heap.size=g9 at A ⊢;have c0:w7.cell? ⟨g9,0,none⟩=some (.int .u8 h.flags.toNat):=A.cell 0 rfl 0;have c1:w7.cell? ⟨g9,1,none⟩=some (.int .u8 h.level.toNat):=A.cell 0 rfl 1;have c2:w7.cell? ⟨g9,2,none⟩=some (.int .u8 h.system.toNat):=A.cell 0 rfl 2;have c3:w7.cell? ⟨g9,3,none⟩=some (.int .u32 h.time):=A.cell 0 rfl 3;have c4:w7.cell? ⟨g9,4,none⟩=some (.slice B0 n0 k0):=A.cell 0 rfl 4;have c5:w7.cell? ⟨g9,5,none⟩=some (.string (strOf h.name)):=A.cell 0 rfl 5;have c6:w7.cell? ⟨g9,6,none⟩=some (.string (strOf h.note)):=A.cell 0 rfl 6;have F:=hid (UB h B0 n0 k0 none 0 0 A g6.out.symm g7.out h0.out g5.out);unfold hdV at F;clear A;go_wp2_with fail
   refine F.out.mono ?_;rintro _ w8 ⟨rfl,D⟩;clear F c0 c1 c2 c3 c4 c5 c6;have d0:w8.cell? ⟨g9,0,none⟩=some (.int .u8 h.flags.toNat):=D.cell 0 rfl 0;have d1:w8.cell? ⟨g9,1,none⟩=some (.int .u8 h.level.toNat):=D.cell 0 rfl 1;have o:w8.cell? ⟨g9,2,none⟩=some (.int .u8 h.system.toNat):=D.cell 0 rfl 2;have d3:w8.cell? ⟨g9,3,none⟩=some (.int .u32 h.time):=D.cell 0 rfl 3;have d4:w8.cell? ⟨g9,4,none⟩=some (.slice B0 n0 k0):=D.cell 0 rfl 4;have d5:w8.cell? ⟨g9,5,none⟩=some (.string (strOf h.name)):=D.cell 0 rfl 5;have d6:w8.cell? ⟨g9,6,none⟩=some (.string (strOf h.note)):=D.cell 0 rfl 6;have a0:=hid (Y8 h B0 n0 k0 g6.out.symm D g7.out h0.out);rw [decide_eq_false g5.out] at a0;unfold hdV at a0;clear D;go_wp2_with fail
   refine a0.out.mono ?_;rintro _ w9 ⟨rfl,D⟩;clear a0 d0 d1 o d3 d4 d5 d6;have KN:=hid D.tail;clear D;go_wp2_with fail
   go_roundw
   case rel=>exact⟨i+1,by go_num,by omega,KN.out⟩
   case measure=>first | (simp [intOf]; omega) | simp [intOf]
  ·obtain rfl:i=6:=by omega
   have c:=hid (H1.pick 3 [1,2]);clear H1 g4 j2;obtain⟨T,a7⟩:∃n:Nat,n=16777217:=⟨_,rfl⟩;have J:=hid a7;have a8:Hid ((16777217:Int)=(T:Int)):=hid (by omega);clear a7;go_wp2_with (at_make; refine Zk rfl _ _ _ rfl 5 i0 (.int .u8 0) Tryz.underlying23 hi t u rfl T (by rw [<- a8.out]; rfl) (by rw [<- a8.out]; rfl) (by rw [y,J.out]; omega) (by rw [J.out]; unfold maxLen; omega) c.out ?_)
   intro d9 wq KO;have F:Hid (Calls Tryz.prog 9 #[.agg #[.int .u8 0,.int .u8 0,.int .u8 0,.int .u32 0,.slice none 0 0,.string ⟨#[]⟩,.string ⟨#[]⟩],.slice (some d9) T T] wq fun e w'=>e=.returned (.tuple #[.slice none 0 0,.int .i64 3])/\Sp w0 (Row 5 1 (.slice (some d9) T T) T (List.replicate T (.int .u8 0))::Row 5 1 (.slice (some C) nm d3) nm (cells8 SM)::Row 5 1 (.slice s nm o) nm (cells8 M)::L) w') :=
    hid (VP hd0 none 0 0 (some d9) T T KO rfl UX (by rw [J.out]; decide))
   clear c KO;go_wp2_with fail
   refine F.out.mono ?_;rintro _ p ⟨rfl,b⟩;clear F;have c:=hid (b.pick 3 [2,1]);clear b;have a:=hid (X0 none 0 0 [] 5 c.out (fun _ w _=>Byt.nil w) (fun _ _ q=>f.out _ _ (q.pick 2 [])) (fun _ _ q=>z.out _ _ (q.pick 2 [])) rfl (by decide) (by decide) (Nat.le_refl _) (by decide));clear c;go_wp2_with fail
   refine a.out.mono ?_;intro e9 p g;clear a;obtain⟨rfl,b⟩:=LEnd.bad (PG.all_nil 5) g;clear g;have a:=hid (UK (.slice s nm o) (-1) b (by decide));clear b;go_wp2_with fail
   refine a.out.mono ?_;rintro _ p ⟨rfl,b⟩;have c:=hid b;clear a b;go_wp2_with (at_builtin; refine Za rfl _ _ 23 rfl 5 i0 (.int .u8 0) 1 1 Tryz.underlying23 hi t u y rfl (by decide) (.slice none 0 0) 0 [] rfl (c.out.rowNil _ _) s nm o (cells8 M) rfl (by rw [Zp,d.out,Nat.mul_one]) (rowRd c.out 0 rfl) (Zg _) (by unfold maxLen; omega) (by omega) ?_)
   intro k5 a1 KA _;obtain⟨j3,j4,rfl,_,_⟩:=Row.form KA 0 rfl;have K:=hid (KA.alloc (.cells #[.int .u8 31] 5));have a9:Rd (a1.alloc (.cells #[.int .u8 31] 5)) (some ⟨a1.heap.size,0,none⟩) (cells8 [31]):=Rd.of_blk (Blk.new a1 5 [.int .u8 31]);have b0:=hid a9;clear c KA a9;go_wp2_with (at_builtin; refine Za rfl _ _ 23 rfl 5 i0 (.int .u8 0) 1 1 Tryz.underlying23 hi t u y rfl (by decide) (.slice j3 nm j4) nm (cells8 M) rfl K.out (some ⟨a1.heap.size,0,none⟩) 1 1 (cells8 [31]) rfl rfl b0.out (Zg _) (by unfold maxLen; omega) (by omega) ?_)
   intro k6 k7 N _;rw [<- Zf] at N;obtain⟨n20,O⟩:=exq (nm+1);rw [O] at N;obtain⟨j5,j6,rfl,h3,e0⟩:=Row.form N 0 rfl;have Q:(M++[31]).length=n20:=by rw [List.length_append,d.out,List.length_singleton,O]
   have a:=hid (X0 j5 n20 j6 (M++[31]) 100 N (fun _ _ q=>ZT q 0 rfl Q.symm) (fun _ _ q=>f.out _ _ (q.pick 3 [])) (fun _ _ q=>z.out _ _ (q.pick 3 [])) Q (by omega) (by decide) h3 e0);have j:=PG.kn_more 31 4 PG.kn_31;rw [U.out] at j;have r:=hid j;clear K b0 N j Q O;go_wp2_with fail
   refine a.out.mono ?_;intro e9 k8 g;clear a;obtain⟨rfl,b⟩:=LEnd.bad r.out g;have c:=hid (b.pick 2 [1]);clear g r b;go_wp2_with (at_builtin; refine Za rfl _ _ 23 rfl 5 i0 (.int .u8 0) 1 1 Tryz.underlying23 hi t u y rfl (by decide) (.slice none 0 0) 0 [] rfl (c.out.rowNil _ _) s nm o (cells8 M) rfl (by rw [Zp,d.out,Nat.mul_one]) (rowRd c.out 0 rfl) (Zg _) (by unfold maxLen; omega) (by omega) ?_)
   intro k9 a2 KA _;obtain⟨j7,j8,rfl,_,_⟩:=Row.form KA 0 rfl;have K:=hid (KA.alloc (.cells #[.int .u8 0] 5));have b1:Rd (a2.alloc (.cells #[.int .u8 0] 5)) (some ⟨a2.heap.size,0,none⟩) (cells8 [0]):=Rd.of_blk (Blk.new a2 5 [.int .u8 0]);have b2:=hid b1;clear c KA b1;go_wp2_with (at_builtin; refine Za rfl _ _ 23 rfl 5 i0 (.int .u8 0) 1 1 Tryz.underlying23 hi t u y rfl (by decide) (.slice j7 nm j8) nm (cells8 M) rfl K.out (some ⟨a2.heap.size,0,none⟩) 1 1 (cells8 [0]) rfl rfl b2.out (Zg _) (by unfold maxLen; omega) (by omega) ?_)
   intro l0 l1 N _;rw [<- Zf] at N;obtain⟨n30,R⟩:=exq (nm+1);rw [R] at N;obtain⟨j9,k1,rfl,h4,e1⟩:=Row.form N 0 rfl;have S:(M++[0]).length=n30:=by rw [List.length_append,d.out,List.length_singleton,R]
   have a:=hid (X0 j9 n30 k1 (M++[0]) 100 N (fun _ _ q=>ZT q 0 rfl S.symm) (fun _ _ q=>f.out _ _ (q.pick 3 [])) (fun _ _ q=>z.out _ _ (q.pick 3 [])) S (by omega) (by decide) h4 e1);have j:=PG.kn_more 0 5 PG.kn_0;rw [U.out] at j;have r:=hid j;clear K b2 N j S R;go_wp2_with fail
   refine a.out.mono ?_;intro e9 l2 g;clear a;obtain⟨rfl,b⟩:=LEnd.bad r.out g;have c:=hid (b.pick 2 [1]);clear g r b;obtain⟨n1,k2⟩:=exq (nm+1);have k3:(nm:Int)+1=(n1:Int):=by omega
   have a:=hid (TQ s nm o (n1:Int) 5 c.out (.inr (by omega)));have h5:n1<=1000000:=by omega
   clear c k2;go_wp2_with fail
   refine a.out.mono ?_;rintro _ p ⟨rfl,b⟩;clear a k3 h5;have h6:PG.get (M.drop nm) 5=.error 4:=by rw [List.drop_eq_nil_of_le (by rw [d.out]; exact Nat.le_refl _)]; rfl
   have h7:=hid h6;have a:=hid (T4 s nm o M nm 5 b (fun _ _ q=>ZT q 0 rfl d.out.symm) (fun _ _ q=>f.out _ _ (q.pick 2 [])) (fun _ _ q=>z.out _ _ (q.pick 2 [])) d.out (by omega) (by decide) V G (Nat.le_refl _));clear b h6;go_wp2_with fail
   refine a.out.mono ?_;intro e9 p g;clear a;obtain⟨rfl,b⟩:=TEnd.bad h7.out g;clear g h7;have a:=hid (TR s nm o (-1) b (by decide) V);clear b;go_wp2_with fail
   refine a.out.mono ?_;rintro _ p ⟨rfl,b⟩;clear a;have e2:=PG.kn_ok;have e3:=PG.kn_cap;rw [U.out] at e2 e3;have k4:=hid e3;have a:=hid (ZL s nm o M 10 b (fun _ _ q=>ZT q 0 rfl d.out.symm) (fun _ _ q=>f.out _ _ (q.pick 2 [])) (fun _ _ q=>z.out _ _ (q.pick 2 [])) d.out (by omega) (by decide) V G);rw [e2] at a;unfold codeG at a;clear b e2 e3;go_wp2_with fail
   refine a.out.mono ?_;rintro _ p ⟨rfl,b⟩;clear a;have a:=hid (ZL s nm o M 9 b (fun _ _ q=>ZT q 0 rfl d.out.symm) (fun _ _ q=>f.out _ _ (q.pick 2 [])) (fun _ _ q=>z.out _ _ (q.pick 2 [])) d.out (by omega) (by decide) V G);rw [k4.out] at a;unfold codeG at a;clear b;go_wp2_with fail
   refine a.out.mono ?_;rintro _ p ⟨rfl,b⟩;clear a;have a:=hid (V8 (.slice s nm o) (-1) b (by decide));clear b;go_wp2_with fail
   refine a.out.mono ?_;rintro _ p ⟨rfl,b⟩;clear a;have a:=hid (ZL (some C) nm d3 SM 10 b (fun _ _ q=>ZT q 1 rfl f5.out.symm) (fun _ _ q=>f.out _ _ (q.pick 2 [])) (fun _ _ q=>z.out _ _ (q.pick 2 [])) f5.out (by omega) (by decide) i4 f2);rw [i7.out] at a;unfold codeG at a;clear b;go_wp2_with fail
   refine a.out.mono ?_;rintro _ p ⟨rfl,b⟩;clear a;have a:=hid (ZL none 0 0 [] 1 b (fun _ w _=>Byt.nil w) (fun _ _ q=>f.out _ _ (q.pick 2 [])) (fun _ _ q=>z.out _ _ (q.pick 2 [])) rfl (by decide) (by decide) (Nat.le_refl _) (by decide));rw [PG.kn_e] at a;unfold codeG at a;clear b;go_wp2_with fail
   refine a.out.mono ?_;rintro _ p ⟨rfl,b⟩;have c:=hid b;clear a b;obtain⟨gq,k⟩:=exq p.heap.size;have m:=c.out.newBk [.int .u8 31,.int .u8 139,.int .u8 9] 5;rw [k] at m;have a:=hid (ZL (some ⟨gq,0,none⟩) 3 3 [31,139,9] 1 m (fun _ _ q=>Wt q 0 [31,139,9] rfl (by decide)) (fun _ _ q=>f.out _ _ (q.pick 3 [])) (fun _ _ q=>z.out _ _ (q.pick 3 [])) rfl (by decide) (by decide) (Nat.le_refl _) (by decide));rw [PG.kn_a] at a;unfold codeG at a;clear m c;go_wp2_with fail
   clear k;refine a.out.mono ?_;rintro _ p ⟨rfl,b⟩;have c:=hid (b.pick 3 [1,2]);clear a b;obtain⟨gq,k⟩:=exq p.heap.size;have m:=c.out.newBk [.int .u8 31,.int .u8 139,.int .u8 8,.int .u8 32] 5;rw [k] at m;have a:=hid (ZL (some ⟨gq,0,none⟩) 4 4 [31,139,8,32] 1 m (fun _ _ q=>Wt q 0 [31,139,8,32] rfl (by decide)) (fun _ _ q=>f.out _ _ (q.pick 3 [])) (fun _ _ q=>z.out _ _ (q.pick 3 [])) rfl (by decide) (by decide) (Nat.le_refl _) (by decide));rw [PG.kn_b] at a;unfold codeG at a;clear m c;go_wp2_with fail
   clear k;refine a.out.mono ?_;rintro _ p ⟨rfl,b⟩;have c:=hid (b.pick 3 [1,2]);clear a b;obtain⟨gq,k⟩:=exq p.heap.size;have m:=c.out.newBk [.int .u8 31,.int .u8 139,.int .u8 8,.int .u8 8,.int .u8 0,.int .u8 0,.int .u8 0,.int .u8 0,.int .u8 0,.int .u8 0,.int .u8 110] 5;rw [k] at m;have a:=hid (ZL (some ⟨gq,0,none⟩) 11 11 [31,139,8,8,0,0,0,0,0,0,110] 1 m (fun _ _ q=>Wt q 0 [31,139,8,8,0,0,0,0,0,0,110] rfl (by decide)) (fun _ _ q=>f.out _ _ (q.pick 3 [])) (fun _ _ q=>z.out _ _ (q.pick 3 [])) rfl (by decide) (by decide) (Nat.le_refl _) (by decide));rw [PG.kn_c] at a;unfold codeG at a;clear m c;go_wp2_with fail
   clear k;refine a.out.mono ?_;rintro _ p ⟨rfl,b⟩;have c:=hid (b.pick 3 [1,2]);clear a b;obtain⟨gq,k⟩:=exq p.heap.size;have m:=c.out.newBk [.int .u8 31,.int .u8 139,.int .u8 8,.int .u8 0,.int .u8 0,.int .u8 0,.int .u8 0,.int .u8 0,.int .u8 0,.int .u8 0,.int .u8 7] 5;rw [k] at m;have a:=hid (ZL (some ⟨gq,0,none⟩) 11 11 [31,139,8,0,0,0,0,0,0,0,7] 1 m (fun _ _ q=>Wt q 0 [31,139,8,0,0,0,0,0,0,0,7] rfl (by decide)) (fun _ _ q=>f.out _ _ (q.pick 3 [])) (fun _ _ q=>z.out _ _ (q.pick 3 [])) rfl (by decide) (by decide) (Nat.le_refl _) (by decide));rw [PG.kn_d] at a;unfold codeG at a;clear m c;go_wp2_with fail
   clear k;refine a.out.mono ?_;rintro _ p ⟨rfl,b⟩;have c:=hid (b.pick 3 [1,2]);clear a b;have HL:=hid (V7 (c.out.pick 2 []) f.out z.out HD.out);clear c;go_wp2_with fail
   refine HL.out.mono ?_;rintro _ wz ⟨rfl,KZ⟩;have KZ:=hid KZ;clear HL;go_wp2_with fail
   go_ret;exact⟨rfl,KZ.out⟩
open Go.ChangeShapes Go.WideShapes Go.ChangeAt Go.RowKit Go.Deep
structure OneV where
 h:PG.Hd
 B:Option Addr
 n:Nat
 c:Nat
 X:Option Addr
 m:Nat
 d:Nat
 b:List UInt8
instance:Inhabited OneV:=⟨⟨⟨0,0,0,0,[],[],[]⟩,none,0,0,none,0,0,[]⟩⟩
def OneV.cells (x:OneV):List Value:=[.int .u8 x.h.flags.toNat,.int .u8 x.h.level.toNat,.int .u8 x.h.system.toNat,.int .u32 x.h.time,.slice x.B x.n x.c,.string (strOf x.h.name),.string (strOf x.h.note),.slice x.X x.m x.d]
structure OneV.Ok (w:World) (x:OneV):Prop where
 e:x.h.extra.length=x.n
 eb:Byt w (.slice x.B x.n x.c) x.h.extra
 e1:x.n<=x.c
 e2:x.c<=maxLen
 m1:x.h.name.length<=maxLen
 m2:x.h.note.length<=maxLen
 t:x.h.time<4294967296
 b:x.b.length=x.m
 bb:Byt w (.slice x.X x.m x.d) x.b
 b1:x.m<=x.d
 b2:x.d<=maxLen
section
variable {H:Type} {enc:TypeId × Value->H} {P:Program} {w:World} {base:Nat} {held:Bool}
end
theorem OneV.Ok.keep {w w' : World} {x:OneV} (h:x.Ok w) (hs:∀b,b<w.heap.size->w'.heap[b]?=w.heap[b]?):x.Ok w' :=
 { h with eb:=h.eb.keep fun p _ hp=>World.cell?_of_block (hs p.block (Zt hp)),bb:=h.bb.keep fun p _ hp=>World.cell?_of_block (hs p.block (Zt hp)) }
theorem UN {W:World} (h:CrcTab W):Ent [Same W] CrcTab:=Ent.of_same 0 rfl fun w hs i hi=>by
 rw [<- h i hi]; exact World.cell?_of_block (hs _ (Zt (h i hi)))
theorem WZ {W:World} {DL DF:Option Addr} {dl df:Nat} (h:DTabs DL DF dl df W):Ent [Same W] (DTabs DL DF dl df):=Ent.of_same 0 rfl fun _ hs=>h.heap hs
theorem UO {W:World} (hT:CrcTab W/\(∃TL TA cl ca,Tabs TL TA cl ca W)/\∃DL DF dl df,DTabs DL DF dl df W) :
  Calls Tryz.prog 4 #[] W fun e w'=>e=.returned (.bool true)/\Sp W [Same W] w':=by
 obtain⟨a,⟨TL,TA,cl,ca,hT⟩,DL,DF,dl,df,b⟩:=hT;exact UM (Sp.start W) (UN a) (V3 hT) (WZ b)
open Go.ChangeShapes Go.WideShapes Go.ChangeAt Go.RowKit Go.Lib
theorem laid7 {W : World} (h : laidMetH Tryz.prog [("portolan/crc.table", Rows.laid_portolan_crc_table), ("portolan/deflate.order", Rows.laid_portolan_deflate_order), ("portolan/deflate.longs", Rows.laid_portolan_deflate_longs), ("portolan/deflate.fars", Rows.laid_portolan_deflate_fars), ("portolan/inflate.order", Rows.laid_portolan_inflate_order), ("portolan/inflate.lengths", Rows.laid_portolan_inflate_lengths), ("portolan/inflate.away", Rows.laid_portolan_inflate_away)] W) : CrcTab W /\ (∃ TL TA cl ca, Tabs TL TA cl ca W) /\ ∃ DL DF dl df, DTabs DL DF dl df W := by
 rw [MakeChecks.laidMetH_plain _ _ _ (by kernel_rfl)] at h;have hc:=WY h;have h0 : VarReads Tryz.prog W "portolan/deflate.order" (Lib.tabData .i64 ordZ) := laidMet.reads h (by simp only [List.mem_cons]; exact .inr (.inl rfl))
 have h1 : VarReads Tryz.prog W "portolan/deflate.longs" (pairData PD.longT) := laidMet.reads h (by simp only [List.mem_cons]; exact .inr (.inr (.inl rfl)))
 have h2 : VarReads Tryz.prog W "portolan/deflate.fars" (pairData PI.awayT) := laidMet.reads h (by simp only [List.mem_cons]; exact .inr (.inr (.inr (.inl rfl))))
 have h3 : VarReads Tryz.prog W "portolan/inflate.order" (Lib.tabData .i64 ordZ) := laidMet.reads h (by simp only [List.mem_cons]; exact .inr (.inr (.inr (.inr (.inl rfl)))))
 have h4 : VarReads Tryz.prog W "portolan/inflate.lengths" (pairData PI.lengthsT) := laidMet.reads h (by simp only [List.mem_cons]; exact .inr (.inr (.inr (.inr (.inr (.inl rfl))))))
 have h5 : VarReads Tryz.prog W "portolan/inflate.away" (pairData PI.awayT) := laidMet.reads h (by simp only [List.mem_cons]; exact .inr (.inr (.inr (.inr (.inr (.inr (.inl rfl)))))))
 exact⟨hc,YS h3 h4 h5,YR h0 h1 h2⟩
end Go.Proofs.YtnjpnmpemhldcaaGreatDoor

namespace Go.Proofs.YtnjpnmpemhldcaaGreatDoor.gzipKnown
open Go.ChangeShapes Go.WideShapes Go.ChangeAt Go.RowKit Go.WideMaps Go.WideElems
open Go.ChangeMaps (open_string shut_string)

theorem own:ownKnob Tryz.prog.godebug=none:=by kernel_rfl
theorem laidOut:laidOutB Tryz.prog=true:=by kernel_rfl
def laidL : List (String × DataW Unit) := [("portolan/crc.table", Rows.laid_portolan_crc_table), ("portolan/deflate.order", Rows.laid_portolan_deflate_order), ("portolan/deflate.longs", Rows.laid_portolan_deflate_longs), ("portolan/deflate.fars", Rows.laid_portolan_deflate_fars), ("portolan/inflate.order", Rows.laid_portolan_inflate_order), ("portolan/inflate.lengths", Rows.laid_portolan_inflate_lengths), ("portolan/inflate.away", Rows.laid_portolan_inflate_away)]
theorem door_met (os:Os) (args:Array Value):laidMetH Tryz.prog laidL ((World.doorLaid Tryz.prog 4000 os).forCall (fun _ _=>0) ⟨#[],args,[]⟩).memory :=
 laidMetH_of_parts3 (fuel:=10) (laidMet_of_run' 10 (by kernel_rfl) (by kernel_rfl)) (by kernel_rfl) (by kernel_rfl)
theorem lifted (os:Os) (started:os.Started) (H:Type) (enc:TypeId × Value->H) :
  ReturnsInHanded {} Tryz.checked os 4 .any (fun w args=>(Rows.gzipKnownSpec.pre enc Tryz.prog Tryz.f4 [] false w args/\laidMetH Tryz.prog laidL w)/\sizedMet enc Tryz.prog Tryz.f4 (OpenSpec.ofChange Rows.gzipKnownSpec) false w args)
   (Rows.gzipKnownSpec.post enc Tryz.prog Tryz.f4 false true false false):=by
 refine returnsInHanded_of_change_and (C:=Tryz.checked) (X:=fun w _=>laidMetH Tryz.prog laidL w) (fun _ _ _ hh h=>h.of_heap hh) own started (by kernel_rfl) Tryz.func4
  (ChangeSpec.witness_shaped (enc:=enc) (C:=Tryz.checked) (os:=os) (X:=fun w _=>laidMetH Tryz.prog laidL w) false (World.doorLaid Tryz.prog 4000 os) #[] 8 rfl (World.shaped_of_RefB (by kernel_rfl) (by kernel_rfl)) (by kernel_rfl) (by kernel_rfl) (by kernel_rfl) (door_met os _)) ?_
 intro W base args k r d a g _ _ l _;have b:∀(j:Nat) t v,Tryz.f4.params[j]?=some t->args[j]?=some v->Value.okWide Tryz.prog W .any base t v:=a;have f:=g;obtain⟨p,q,c,m,rfl,n,o⟩:=g;have i:DataW.TrodAll enc Tryz.prog W 0 (fun _=>true) true Tryz.f4.params.toList args.toList k p:=c;rw [Tryz.params4] at i b;obtain⟨rfl,rfl,rfl⟩:=trodAll_none i;obtain⟨rfl,rfl⟩:=trodVars_none m;clear c a;refine(U4 (UO (laid7 l))).mono fun e W' ⟨he,bel⟩=>?_;subst he;exact⟨_,rfl,_,_,_,[],_,[],f,trodAll_mk1 (shut_bool Tryz.underlying4 _),trodAll_mk0,rfl,bel.frame _,fun h=>by cases h⟩

theorem over:Rows.gzipKnownRow.holds Tryz.pinned (OpenSpec.ofChange Rows.gzipKnownSpec) :=
 OpenClaim.holds_of_wide 4 Tryz.f4 rfl rfl rfl rfl rfl rfl rfl ⟨rfl,rfl,rfl,rfl,rfl⟩ rfl rfl rfl rfl rfl (by kernel_rfl) Tryz.func4 (by kernel_rfl)
  (of_decide_eq_true (by kernel_rfl)) (by unfold Func.isWrapper; first | (rw [if_pos (by decide +kernel)]; kernel_rfl) | (rw [if_neg (by decide +kernel)]; exact⟨rfl,rfl⟩))
  (fun os started H enc _=>lifted os started H enc)
theorem row_proved:Rows.GzipKnownSaid:=over
theorem proved:Rows.GzipKnownCardSaid :=
  Claim7.holds_tied_plain_at .later [] [.data, .widerDeep, .widerDeep, .widerDeep, .widerDeep, .widerDeep, .widerDeep] true (true, "9ad7281e7110ef5d2c0524746f9211e8c6f525f031413f5546ca3d79be6bd6a8") true
    row_proved (fun _ h=>by cases h) (by kernel_rfl) (fun _ h=>by cases h) gzipKnown_row_tie rfl ⟨rfl,rfl⟩ (by kernel_rfl) rfl
    (fun f fn hf hfn=>by
      obtain rfl : f = 4 := Option.some.inj ((show Tryz.prog.funcNamed "portolan/portolanlaw08.GzipKnown" = some 4 by kernel_rfl).symm.trans hf) |>.symm
      obtain rfl:fn=Tryz.f4:=(Option.some.inj (Tryz.func4.symm.trans hfn)).symm
      exact⟨by kernel_rfl,fun j t ht=>by
        rw [Tryz.params4] at ht
        have hm:t ∈ []:=by simpa using Array.mem_of_getElem? ht
        have hall:([].all fun u=>!Tryz.prog.wantsStandIn u)=true:=by kernel_rfl
        exact(show Tryz.prog.wantsStandIn t=false by simpa using List.all_eq_true.1 hall t hm)⟩)
    (by kernel_rfl)
#print axioms proved
end Go.Proofs.YtnjpnmpemhldcaaGreatDoor.gzipKnown

