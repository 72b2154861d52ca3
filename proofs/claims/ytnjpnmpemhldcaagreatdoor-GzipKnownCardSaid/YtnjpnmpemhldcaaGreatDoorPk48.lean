/- A pack. -/
import Derived.LaidMore
import Derived.Lib.LaidU8
import Derived.Stop.Joined
import Derived.Stop.LaidErr
import Derived.Test.YtnjpnmpemhldcaaGreatDoorRows
import Derived.Test.YtnjpnmpemhldcaaGreatDoorPk39
import Derived.Test.YtnjpnmpemhldcaaGreatDoorPk47
set_option linter.all false
set_option maxRecDepth 100000
set_option maxHeartbeats 8000000
namespace Go.Proofs.YtnjpnmpemhldcaaGreatDoor
variable {w0 w:World} {L:List Pr}
open Go.RowKit
theorem TM (B:List UInt8) (r:PG.Hd × Nat) (h:PG.head B=.ok r):r.2<=B.length:=by
 unfold PG.head at h;by_cases a:PG.begin_ B=0
 ·rw [if_neg (by rw [a]; decide)] at h;have d:=VV B a;have e:=ZO B ⟨4,false⟩ 4 d;have f:=ZO B _ 1 e;have g:=ZO B _ 1 f;have i:=UV B (B.getD 3 0) _ g;have j:=Wm B (B.getD 3 0) 8 _ i;have b:=Wm B (B.getD 3 0) 16 _ j;have k:=ZO B _ 2 b;simp only at h;by_cases c:PG.has (B.getD 3 0) 2=true
  ·simp only [if_pos c] at h;split at h
   ·cases h
   ·split at h
    ·cases h
    ·cases h; exact k
  ·simp only [if_neg c] at h;split at h
   ·cases h
   ·split at h
    ·cases h
    ·cases h; exact b
 ·rw [if_pos a] at h; cases h
theorem err2 {α:Type} {c d:Prop} [Decidable c] [Decidable d] {a b e:Nat} {r:α} (h:(if c then Except.error a else if d then Except.error b else Except.ok r)=(Except.error e:Except Nat α)):e=a∨e=b:=by
 by_cases f:c
 ·rw [if_pos f] at h; injection h with h; exact .inl h.symm
 ·rw [if_neg f] at h;by_cases g:d
  ·rw [if_pos g] at h; injection h with h; exact .inr h.symm
  ·rw [if_neg g] at h; cases h
theorem Wp (B:List UInt8) (e:Nat) (h:PG.head B=.error e):e≠0:=by
 unfold PG.head at h;by_cases a:PG.begin_ B=0
 ·rw [if_neg (by rw [a]; decide)] at h;have:=err2 h;omega
 ·rw [if_pos a] at h; injection h with h; rw [<- h]; exact a
theorem UJ (B out:List UInt8) (h:¬ B.length<8):PG.ends B out=if PG.num (B.take 4)≠PCrc.of out∨PG.num ((B.drop 4).take 4)≠out.length % 4294967296 then 21 else 0:=by unfold PG.ends; rw [if_neg h]
theorem Wq (BA:Option Addr) (n c:Nat) (B:List UInt8) (OA:Option Addr) (on oc:Nat) (out:List UInt8) (H:Sp w0 L w) (hb:Ent L fun w=>Byt w (.slice BA n c) B) (ho:Ent L fun w=>Byt w (.slice OA on oc) out) (hct:Ent L CrcTab) (hn:B.length=n) (hon:out.length=on) (hom:on<=1000000000) (hnm:n<=1000000000) (hcn:n<=c) :
  Calls Tryz.prog 40 #[.slice BA n c,.slice OA on oc] w fun e w'=>e=.returned (.int .i64 (PG.ends B out:Int))/\Sp w0 L w':=by
 obtain⟨r,D⟩:=exq (PG.ends B out);rw [D];have M:=hid D;have A:=hid hn;have f:=hid hon;have N:=hid hb;have T:=hid ho;have E:=hid hct;clear D hn hon hb ho hct;by_cases s:n<8
 ·have U:(n:Int)<8:=by omega
  have u:r=4:=by rw [<- M.out]; unfold PG.ends; rw [if_pos (by rw [A.out]; exact s)]
  have F:=hid u;clear u s;go_enter Tryz.func40,Tryz.ntmps40
  go_wp2_with fail
  go_ret;exact⟨congrArg (fun t:Nat=>Ending.returned (.int .i64 t)) F.out.symm,H⟩
 ·have U:¬ (n:Int)<8:=by omega
  have Z:(4:Int)<=(c:Int):=by omega
  have y3:(8:Int)<=(c:Int):=by omega
  have y4:¬ (c:Int)=4:=by omega
  have V:¬ c=4:=by omega
  have g:=UJ B out (by rw [A.out]; exact s);rw [M.out] at g;have i:=hid g;clear g;have v:=(N.out _ _ H).take 4 (by rw [A.out]; omega);have j:=hid (YI H v (by rw [List.length_take]; omega));clear v;obtain⟨m,G⟩:=exq (PG.num (B.take 4));rw [G] at j;have O:=hid G;have P:=hid s;clear G s H;go_enter Tryz.func40,Tryz.ntmps40
  go_wp2_with fail
  refine j.out.mono ?_;rintro _ w1 ⟨rfl,Q⟩;clear j;have C:=Q.newBk [.slice OA on oc] 23;have k:=hid (Xa C 0 rfl (T.out _ _ C.tail) (E.out _ _ C.tail) (by rw [f.out]; exact hom));obtain⟨z,I⟩:=exq (PCrc.of out);rw [I] at k;have R:=hid I;clear I C Q;go_wp2_with fail
  refine k.out.mono ?_;rintro _ W ⟨rfl,p⟩;clear k;replace p:=p.tail;by_cases d:m=z
  ·have X:(m:Int)=(z:Int):=by omega
   have x:Byt W (.slice (BA.map (·.add 4)) 4 (c - 4)) ((B.drop 4).take 4):=by
    have h:=((N.out _ _ p).drop 4 (by have:=P.out; omega)).take 4 (by rw [List.length_drop,A.out]; have:=P.out; omega);exact h
   have j:=hid (YI p x (by rw [List.length_take]; omega));clear x p;obtain⟨J,l⟩:=exq (PG.num ((B.drop 4).take 4));rw [l] at j;have y:=hid l;have K:=hid d;clear l d;go_wp2_with fail
   refine j.out.mono ?_;rintro _ w3 ⟨rfl,S⟩;clear j;by_cases o:J=on
   ·have Y:(J:Int)=(on:Int):=by omega
    have a:r=0:=by rw [i.out,if_neg]; rintro(q | q); exact q (by rw [O.out,R.out,K.out]); exact q (by rw [y.out,f.out]; omega)
    have b:=hid a;clear a o;go_wp2_with fail
    go_ret;exact⟨congrArg (fun t:Nat=>Ending.returned (.int .i64 t)) b.out.symm,S⟩
   ·have Y:¬ (J:Int)=(on:Int):=by omega
    have a:r=21:=by rw [i.out,if_pos]; refine .inr fun q=>o ?_; rw [y.out,f.out] at q; omega
    have b:=hid a;clear a o;go_wp2_with fail
    go_ret;exact⟨congrArg (fun t:Nat=>Ending.returned (.int .i64 t)) b.out.symm,S⟩
  ·have X:¬ (m:Int)=(z:Int):=by omega
   have a:r=21:=by rw [i.out,if_pos]; refine .inl fun q=>d ?_; rw [O.out,R.out] at q; exact q
   have b:=hid a;clear a d;go_wp2_with fail
   go_ret;exact⟨congrArg (fun t:Nat=>Ending.returned (.int .i64 t)) b.out.symm,p⟩
theorem HEnd.bad {w0:World} {T:Except Nat (PG.Hd × Nat)} {c:Nat} (h:T=.error c) {e:Ending} {w' : World} (k:HEnd w0 L T e w'):e=.returned (.tuple #[.agg #[.int .u8 0,.int .u8 0,.int .u8 0,.int .u32 0,.slice none 0 0,.string ⟨#[]⟩,.string ⟨#[]⟩],.int .i64 0,.int .i64 c])/\Sp w0 L w':=by
 subst h; exact k
theorem HEnd.got {w0:World} {T:Except Nat (PG.Hd × Nat)} {hd:PG.Hd} {a:Nat} (h:T=.ok (hd,a)) {e:Ending} {w' : World} (k:HEnd w0 L T e w'):∃A ce,e=.returned (.tuple #[.agg #[.int .u8 hd.flags.toNat,.int .u8 hd.level.toNat,.int .u8 hd.system.toNat,.int .u32 hd.time,.slice A hd.extra.length ce,.string (strOf hd.name),.string (strOf hd.note)],.int .i64 a,.int .i64 0])/\Sp w0 (Row 5 1 (.slice A hd.extra.length ce) hd.extra.length (cells8 hd.extra)::L) w':=by
 subst h; exact k
def GEnd (w0:World) (L:List Pr) (T:Except Nat (PG.Hd × List UInt8 × Nat)) (e:Ending) (w' : World):Prop :=
 match T with
 | .error c=>e=.returned (.tuple #[.agg #[.int .u8 0,.int .u8 0,.int .u8 0,.int .u32 0,.slice none 0 0,.string ⟨#[]⟩,.string ⟨#[]⟩],.slice none 0 0,.int .i64 0,.int .i64 c])/\Sp w0 L w'
 | .ok r=>∃A ce OA oc,e=.returned (.tuple #[.agg (hdV r.1 (.slice A r.1.extra.length ce)).toArray,.slice OA r.2.1.length oc,.int .i64 r.2.2,.int .i64 0])/\Sp w0 (Row 5 1 (.slice OA r.2.1.length oc) r.2.1.length (cells8 r.2.1)::Row 5 1 (.slice A r.1.extra.length ce) r.1.extra.length (cells8 r.1.extra)::L) w'
theorem GEnd.no {w0:World} {T:Except Nat (PG.Hd × List UInt8 × Nat)} {w' : World} {c:Nat} (h:T=.error c) (H:Sp w0 L w'):GEnd w0 L T (.returned (.tuple #[.agg #[.int .u8 0,.int .u8 0,.int .u8 0,.int .u32 0,.slice none 0 0,.string ⟨#[]⟩,.string ⟨#[]⟩],.slice none 0 0,.int .i64 0,.int .i64 c])) w':=by
 subst h; exact⟨rfl,H⟩
theorem GEnd.yes {w0:World} {T:Except Nat (PG.Hd × List UInt8 × Nat)} {w' : World} {hd:PG.Hd} {out:List UInt8} {a ne ce on oc:Nat} {A OA:Option Addr} (h:T=.ok (hd,out,a)) (hn:hd.extra.length=ne) (ho:out.length=on) (H:Sp w0 (Row 5 1 (.slice OA on oc) on (cells8 out)::Row 5 1 (.slice A ne ce) ne (cells8 hd.extra)::L) w'):GEnd w0 L T (.returned (.tuple #[.agg #[.int .u8 hd.flags.toNat,.int .u8 hd.level.toNat,.int .u8 hd.system.toNat,.int .u32 hd.time,.slice A ne ce,.string (strOf hd.name),.string (strOf hd.note)],.slice OA on oc,.int .i64 a,.int .i64 0])) w':=by
 subst h hn ho; exact⟨A,ce,OA,oc,rfl,H⟩
theorem YN (BA:Option Addr) (n c:Nat) (B:List UInt8) (most:Nat) {TL TA:Option Addr} {cl ca:Nat} (H:Sp w0 L w) (hb:Ent L fun w=>Byt w (.slice BA n c) B) (hct:Ent L CrcTab) (hT:Ent L (Tabs TL TA cl ca)) (hn:B.length=n) (hnm:n<=100000000) (hm:most<=1000000000) (hcn:n<=c) (hcm:c<=maxLen) :
  Calls Tryz.prog 10 #[.slice BA n c,.int .i64 most] w (GEnd w0 L (PG.get B most)):=by
 obtain⟨T,a4⟩:=exq (PG.get B most);rw [a4];have M:=hid a4;have HB:=hid hb;have a5:=hid hct;have c0:=hid hT;have HN:=hid hn;have c1:=hid hcm;have H1:=H.newBk [.int .u8 0,.int .u8 0,.int .u8 0,.int .u32 0,.slice none 0 0,.string ⟨#[]⟩,.string ⟨#[]⟩] 28;have HH:=hid (UD BA n c B H1 (fun _ _ q=>HB.out _ _ q.tail) (fun _ _ q=>a5.out _ _ q.tail) HN.out hnm hcn c1.out);clear a4 hb hct hT hn hcm H1 H;go_enter Tryz.func10,Tryz.ntmps10
 go_wp2_with fail
 refine HH.out.mono ?_;intro E s I;clear HH;generalize w.heap.size=gr at I ⊢;cases hr:PG.head B with
 | error z =>
  obtain⟨rfl,D⟩:=HEnd.bad hr I;have y:=Wp B z hr;have y1:¬ (z:Int)=0:=by omega
  have b:T=.error z:=by rw [<- M.out]; unfold PG.get; rw [hr]
  have j:=hid b;clear b y hr;have R:s.cell? ⟨gr,0,none⟩=some (.int .u8 0):=D.cell 0 rfl 0;have S:s.frozen? ⟨gr,0,none⟩=false:=D.frozen 0 rfl 0;have U:s.cell? ⟨gr,1,none⟩=some (.int .u8 0):=D.cell 0 rfl 1;have V:s.frozen? ⟨gr,1,none⟩=false:=D.frozen 0 rfl 1;have W:s.cell? ⟨gr,2,none⟩=some (.int .u8 0):=D.cell 0 rfl 2;have X:s.frozen? ⟨gr,2,none⟩=false:=D.frozen 0 rfl 2;have Y:s.cell? ⟨gr,3,none⟩=some (.int .u32 0):=D.cell 0 rfl 3;have Z:s.frozen? ⟨gr,3,none⟩=false:=D.frozen 0 rfl 3;have r4:s.cell? ⟨gr,4,none⟩=some (.slice none 0 0):=D.cell 0 rfl 4;have q4:s.frozen? ⟨gr,4,none⟩=false:=D.frozen 0 rfl 4;have r5:s.cell? ⟨gr,5,none⟩=some (.string ⟨#[]⟩):=D.cell 0 rfl 5;have q5:s.frozen? ⟨gr,5,none⟩=false:=D.frozen 0 rfl 5;have r6:s.cell? ⟨gr,6,none⟩=some (.string ⟨#[]⟩):=D.cell 0 rfl 6;have q6:s.frozen? ⟨gr,6,none⟩=false:=D.frozen 0 rfl 6;clear I;go_upto_region 4 with (fail)
  have C:=(((((((D.set 0 (.int .u8 0)).set 1 (.int .u8 0)).set 2 (.int .u8 0)).set 3 (.int .u32 0)).set 4 (.slice none 0 0)).set 5 (.string ⟨#[]⟩)).set 6 (.string ⟨#[]⟩));clear R U W Y r4 r5 r6 S V X Z q4 q5 q6;generalize World.setCell _ _ _=w2 at C ⊢;have R:w2.cell? ⟨gr,0,none⟩=some (.int .u8 0):=C.cell 0 rfl 0;have S:w2.frozen? ⟨gr,0,none⟩=false:=C.frozen 0 rfl 0;have U:w2.cell? ⟨gr,1,none⟩=some (.int .u8 0):=C.cell 0 rfl 1;have V:w2.frozen? ⟨gr,1,none⟩=false:=C.frozen 0 rfl 1;have W:w2.cell? ⟨gr,2,none⟩=some (.int .u8 0):=C.cell 0 rfl 2;have X:w2.frozen? ⟨gr,2,none⟩=false:=C.frozen 0 rfl 2;have Y:w2.cell? ⟨gr,3,none⟩=some (.int .u32 0):=C.cell 0 rfl 3;have Z:w2.frozen? ⟨gr,3,none⟩=false:=C.frozen 0 rfl 3;have r4:w2.cell? ⟨gr,4,none⟩=some (.slice none 0 0):=C.cell 0 rfl 4;have q4:w2.frozen? ⟨gr,4,none⟩=false:=C.frozen 0 rfl 4;have r5:w2.cell? ⟨gr,5,none⟩=some (.string ⟨#[]⟩):=C.cell 0 rfl 5;have q5:w2.frozen? ⟨gr,5,none⟩=false:=C.frozen 0 rfl 5;have r6:w2.cell? ⟨gr,6,none⟩=some (.string ⟨#[]⟩):=C.cell 0 rfl 6;have q6:w2.frozen? ⟨gr,6,none⟩=false:=C.frozen 0 rfl 6;go_wp2_with fail
  have k:=(((((((C.set 0 (.int .u8 0)).set 1 (.int .u8 0)).set 2 (.int .u8 0)).set 3 (.int .u32 0)).set 4 (.slice none 0 0)).set 5 (.string ⟨#[]⟩)).set 6 (.string ⟨#[]⟩));refine bodyPost_ret (Zo rfl _ rfl (Zl k 0 rfl) Tryz.isAgg28 Tryz.sizeOf28) rfl ?_;exact GEnd.no j.out k.tail
 | ok rr =>
  obtain⟨a,at_⟩:=rr;obtain⟨A0,ce,rfl,D⟩:=HEnd.got hr I;have a6:=TM B _ hr;simp only at D a6;rw [HN.out] at a6;obtain⟨ne,a7⟩:=exq a.extra.length;simp only [a7] at D ⊢;have a8:=hid a7;have HR:=hid hr;have m:=D.swap;have C:=hid ((((((((m.set 0 (.int .u8 a.flags.toNat)).set 1 (.int .u8 a.level.toNat)).set 2 (.int .u8 a.system.toNat)).set 3 (.int .u32 a.time)).set 4 (.slice A0 ne ce)).set 5 (.string (strOf a.name))).set 6 (.string (strOf a.note))));have R:s.cell? ⟨gr,0,none⟩=some (.int .u8 0):=m.cell 0 rfl 0;have S:s.frozen? ⟨gr,0,none⟩=false:=m.frozen 0 rfl 0;have U:s.cell? ⟨gr,1,none⟩=some (.int .u8 0):=m.cell 0 rfl 1;have V:s.frozen? ⟨gr,1,none⟩=false:=m.frozen 0 rfl 1;have W:s.cell? ⟨gr,2,none⟩=some (.int .u8 0):=m.cell 0 rfl 2;have X:s.frozen? ⟨gr,2,none⟩=false:=m.frozen 0 rfl 2;have Y:s.cell? ⟨gr,3,none⟩=some (.int .u32 0):=m.cell 0 rfl 3;have Z:s.frozen? ⟨gr,3,none⟩=false:=m.frozen 0 rfl 3;have r4:s.cell? ⟨gr,4,none⟩=some (.slice none 0 0):=m.cell 0 rfl 4;have q4:s.frozen? ⟨gr,4,none⟩=false:=m.frozen 0 rfl 4;have r5:s.cell? ⟨gr,5,none⟩=some (.string ⟨#[]⟩):=m.cell 0 rfl 5;have q5:s.frozen? ⟨gr,5,none⟩=false:=m.frozen 0 rfl 5;have r6:s.cell? ⟨gr,6,none⟩=some (.string ⟨#[]⟩):=m.cell 0 rfl 6;have q6:s.frozen? ⟨gr,6,none⟩=false:=m.frozen 0 rfl 6;have y2:(at_:Int)<=(n:Int):=by omega
  have y3:(n:Int)<=(c:Int):=by omega
  have y4:(at_:Int)<=(c:Int):=by omega
  obtain⟨l,hl⟩:=exq (B.drop at_);have b5:l.length=n - at_:=by rw [<- hl,List.length_drop,HN.out]
  have HL:=hid hl;have a9:=hid b5;have b0:=hid a6;have a0:Ent L fun w=>Byt w (.slice (subZ BA c at_ 1) (n - at_) (c - at_)) l:=fun _ _ q=>by
   have h:=(HB.out _ _ q).dropZ at_ b0.out;rw [HL.out] at h;exact h
  have K:=hid (TK (.slice (subZ BA c at_ 1) (n - at_) (c - at_)) l most TL TA cl ca C.out (fun _ _ q=>a0 _ _ q.tail2) (by rw [a9.out]; omega) hm (fun _ _ q=>c0.out _ _ q.tail2));clear a7 hr hl b5 a0 D m I;by_cases b6:c=at_
  ·subst b6;obtain rfl:n=c:=by omega
   have E:Value.slice (subZ BA n n 1) (n - n) (n - n)=.slice BA 0 0:=by unfold subZ; rw [if_pos rfl,Nat.sub_self]
   rw [E] at K;clear E;go_wp2_with fail
   refine K.out.mono ?_;intro E o I;clear K R U W Y r4 r5 r6 S V X Z q4 q5 q6;cases hr:PI.all (PBits.ofB l) most with
   | error z =>
    obtain⟨rfl,g⟩:=AEnd.bad hr I;have y:z≠0:=by have:=PI.all_err hr; omega
    have y9:¬ (z:Int)=0:=by omega
    have b:T=.error z:=by rw [<- M.out]; unfold PG.get; rw [HR.out]; simp only; rw [HL.out,hr]
    have j:=hid b;clear b y hr I C;have R:o.cell? ⟨gr,0,none⟩=some (.int .u8 a.flags.toNat):=g.cell 0 rfl 0;have S:o.frozen? ⟨gr,0,none⟩=false:=g.frozen 0 rfl 0;have U:o.cell? ⟨gr,1,none⟩=some (.int .u8 a.level.toNat):=g.cell 0 rfl 1;have V:o.frozen? ⟨gr,1,none⟩=false:=g.frozen 0 rfl 1;have W:o.cell? ⟨gr,2,none⟩=some (.int .u8 a.system.toNat):=g.cell 0 rfl 2;have X:o.frozen? ⟨gr,2,none⟩=false:=g.frozen 0 rfl 2;have Y:o.cell? ⟨gr,3,none⟩=some (.int .u32 a.time):=g.cell 0 rfl 3;have Z:o.frozen? ⟨gr,3,none⟩=false:=g.frozen 0 rfl 3;have r4:o.cell? ⟨gr,4,none⟩=some (.slice A0 ne ce):=g.cell 0 rfl 4;have q4:o.frozen? ⟨gr,4,none⟩=false:=g.frozen 0 rfl 4;have r5:o.cell? ⟨gr,5,none⟩=some (.string (strOf a.name)):=g.cell 0 rfl 5;have q5:o.frozen? ⟨gr,5,none⟩=false:=g.frozen 0 rfl 5;have r6:o.cell? ⟨gr,6,none⟩=some (.string (strOf a.note)):=g.cell 0 rfl 6;have q6:o.frozen? ⟨gr,6,none⟩=false:=g.frozen 0 rfl 6;go_wp2_with fail
    have k:=(((((((g.set 0 (.int .u8 0)).set 1 (.int .u8 0)).set 2 (.int .u8 0)).set 3 (.int .u32 0)).set 4 (.slice none 0 0)).set 5 (.string ⟨#[]⟩)).set 6 (.string ⟨#[]⟩));refine bodyPost_ret (Zo rfl _ rfl (Zl k 0 rfl) Tryz.isAgg28 Tryz.sizeOf28) rfl ?_;exact GEnd.no j.out (k.pick 2 [])
   | ok r =>
    obtain⟨b1,e,bl⟩:=r;obtain⟨OA,oc,rfl,g⟩:=AEnd.got hr I;have p:=PI.all_pos hr;simp only at g p ⊢;obtain⟨on,J⟩:=exq e.length;simp only [J] at g p ⊢;rw [PBits.ofB_length,a9.out] at p;obtain⟨u,hu⟩:=exq ((b1+7) / 8);rw [hu];obtain⟨a2,N⟩:=exq (n+u);have b2:=b0.out;have y5:(n:Int)+(u:Int)=(a2:Int):=by omega
    have O:a2<=n:=by omega
    have y6:(a2:Int)<=(n:Int):=by omega
    have y7:(a2:Int)<=(n:Int):=by omega
    have b3:on<=1000000000:=by omega
    have c2:u<=100000000:=by omega
    have F:=hid J;have P:T=if PG.ends (B.drop a2) e≠0 then .error (PG.ends (B.drop a2) e) else .ok (a,e,a2+8):=by
     rw [<- M.out]; unfold PG.get; rw [HR.out]; simp only; rw [HL.out,hr]; simp only; rw [hu,N]
    have f:=hid P;have b4:=hid O;have x:=hid (Wq (subZ BA n a2 1) (n - a2) (n - a2) (B.drop a2) OA on oc e g (fun _ _ q=>(HB.out _ _ (q.pick 3 [])).dropZ a2 b4.out) (fun _ _ q=>ZT q 0 rfl F.out.symm) (fun _ _ q=>a5.out _ _ (q.pick 3 [])) (by rw [List.length_drop,HN.out]) F.out b3 (by omega) (by omega));have A:PG.ends (B.drop a2) e=0∨PG.ends (B.drop a2) e=4∨PG.ends (B.drop a2) e=21:=by unfold PG.ends; split; exact .inr (.inl rfl); split; exact .inr (.inr rfl); exact .inl rfl
    obtain⟨en,Q⟩:=exq (PG.ends (B.drop a2) e);rw [Q] at x f A;have i:=hid A;clear A Q P J hu N p hr I b2 C g;obtain rfl:n=a2:=by omega
    have E:Value.slice (subZ BA n n 1) (n - n) (n - n)=.slice BA 0 0:=by unfold subZ; rw [if_pos rfl,Nat.sub_self]
    rw [E] at x;clear E;go_wp2_with fail
    refine x.out.mono ?_;rintro _ w4 ⟨rfl,d⟩;clear x;have R:w4.cell? ⟨gr,0,none⟩=some (.int .u8 a.flags.toNat):=d.cell 1 rfl 0;have S:w4.frozen? ⟨gr,0,none⟩=false:=d.frozen 1 rfl 0;have U:w4.cell? ⟨gr,1,none⟩=some (.int .u8 a.level.toNat):=d.cell 1 rfl 1;have V:w4.frozen? ⟨gr,1,none⟩=false:=d.frozen 1 rfl 1;have W:w4.cell? ⟨gr,2,none⟩=some (.int .u8 a.system.toNat):=d.cell 1 rfl 2;have X:w4.frozen? ⟨gr,2,none⟩=false:=d.frozen 1 rfl 2;have Y:w4.cell? ⟨gr,3,none⟩=some (.int .u32 a.time):=d.cell 1 rfl 3;have Z:w4.frozen? ⟨gr,3,none⟩=false:=d.frozen 1 rfl 3;have r4:w4.cell? ⟨gr,4,none⟩=some (.slice A0 ne ce):=d.cell 1 rfl 4;have q4:w4.frozen? ⟨gr,4,none⟩=false:=d.frozen 1 rfl 4;have r5:w4.cell? ⟨gr,5,none⟩=some (.string (strOf a.name)):=d.cell 1 rfl 5;have q5:w4.frozen? ⟨gr,5,none⟩=false:=d.frozen 1 rfl 5;have r6:w4.cell? ⟨gr,6,none⟩=some (.string (strOf a.note)):=d.cell 1 rfl 6;have q6:w4.frozen? ⟨gr,6,none⟩=false:=d.frozen 1 rfl 6;rcases i.out with y | y | y
    ·subst y;have t:T=.ok (a,e,n+8):=by rw [f.out,if_neg (by decide)]
     have v:=hid t;clear t f i;have a1:n<=100000000:=by omega
     obtain⟨a3,G⟩:=exq (n+8);rw [G] at v;have y8:(n:Int)+8=(a3:Int):=by omega
     clear G y5 y6 y7;go_wp2_with fail
     have k:=((((((((d.pick 3 [1,0,2]).set 0 (.int .u8 a.flags.toNat)).set 1 (.int .u8 a.level.toNat)).set 2 (.int .u8 a.system.toNat)).set 3 (.int .u32 a.time)).set 4 (.slice A0 ne ce)).set 5 (.string (strOf a.name))).set 6 (.string (strOf a.note)));refine bodyPost_ret (Zo rfl _ rfl (Zl k 0 rfl) Tryz.isAgg28 Tryz.sizeOf28) rfl ?_;exact GEnd.yes v.out a8.out F.out (k.pick 3 [1,2])
    ·subst y;have b:T=.error 4:=by rw [f.out,if_pos (by decide)]
     have j:=hid b;clear b f i;go_wp2_with fail
     have k:=((((((((d.pick 3 [1,0,2]).set 0 (.int .u8 0)).set 1 (.int .u8 0)).set 2 (.int .u8 0)).set 3 (.int .u32 0)).set 4 (.slice none 0 0)).set 5 (.string ⟨#[]⟩)).set 6 (.string ⟨#[]⟩));refine bodyPost_ret (Zo rfl _ rfl (Zl k 0 rfl) Tryz.isAgg28 Tryz.sizeOf28) rfl ?_;exact GEnd.no j.out (k.pick 3 [])
    ·subst y;have b:T=.error 21:=by rw [f.out,if_pos (by decide)]
     have j:=hid b;clear b f i;go_wp2_with fail
     have k:=((((((((d.pick 3 [1,0,2]).set 0 (.int .u8 0)).set 1 (.int .u8 0)).set 2 (.int .u8 0)).set 3 (.int .u32 0)).set 4 (.slice none 0 0)).set 5 (.string ⟨#[]⟩)).set 6 (.string ⟨#[]⟩));refine bodyPost_ret (Zo rfl _ rfl (Zl k 0 rfl) Tryz.isAgg28 Tryz.sizeOf28) rfl ?_;exact GEnd.no j.out (k.pick 3 [])
  ·have c3:¬ (c:Int)=(at_:Int):=by omega
   have b7:=hid b6;have E:Value.slice (subZ BA c at_ 1) (n - at_) (c - at_)=.slice (BA.map (·.add at_)) (n - at_) (c - at_):=by unfold subZ; rw [if_neg b7.out,Nat.mul_one]
   rw [E] at K;clear E;go_wp2_with fail
   refine K.out.mono ?_;intro E o I;clear K R U W Y r4 r5 r6 S V X Z q4 q5 q6;cases hr:PI.all (PBits.ofB l) most with
   | error z =>
    obtain⟨rfl,g⟩:=AEnd.bad hr I;have y:z≠0:=by have:=PI.all_err hr; omega
    have y9:¬ (z:Int)=0:=by omega
    have b:T=.error z:=by rw [<- M.out]; unfold PG.get; rw [HR.out]; simp only; rw [HL.out,hr]
    have j:=hid b;clear b y hr I C;have R:o.cell? ⟨gr,0,none⟩=some (.int .u8 a.flags.toNat):=g.cell 0 rfl 0;have S:o.frozen? ⟨gr,0,none⟩=false:=g.frozen 0 rfl 0;have U:o.cell? ⟨gr,1,none⟩=some (.int .u8 a.level.toNat):=g.cell 0 rfl 1;have V:o.frozen? ⟨gr,1,none⟩=false:=g.frozen 0 rfl 1;have W:o.cell? ⟨gr,2,none⟩=some (.int .u8 a.system.toNat):=g.cell 0 rfl 2;have X:o.frozen? ⟨gr,2,none⟩=false:=g.frozen 0 rfl 2;have Y:o.cell? ⟨gr,3,none⟩=some (.int .u32 a.time):=g.cell 0 rfl 3;have Z:o.frozen? ⟨gr,3,none⟩=false:=g.frozen 0 rfl 3;have r4:o.cell? ⟨gr,4,none⟩=some (.slice A0 ne ce):=g.cell 0 rfl 4;have q4:o.frozen? ⟨gr,4,none⟩=false:=g.frozen 0 rfl 4;have r5:o.cell? ⟨gr,5,none⟩=some (.string (strOf a.name)):=g.cell 0 rfl 5;have q5:o.frozen? ⟨gr,5,none⟩=false:=g.frozen 0 rfl 5;have r6:o.cell? ⟨gr,6,none⟩=some (.string (strOf a.note)):=g.cell 0 rfl 6;have q6:o.frozen? ⟨gr,6,none⟩=false:=g.frozen 0 rfl 6;go_wp2_with fail
    have k:=(((((((g.set 0 (.int .u8 0)).set 1 (.int .u8 0)).set 2 (.int .u8 0)).set 3 (.int .u32 0)).set 4 (.slice none 0 0)).set 5 (.string ⟨#[]⟩)).set 6 (.string ⟨#[]⟩));refine bodyPost_ret (Zo rfl _ rfl (Zl k 0 rfl) Tryz.isAgg28 Tryz.sizeOf28) rfl ?_;exact GEnd.no j.out (k.pick 2 [])
   | ok r =>
    obtain⟨b1,e,bl⟩:=r;obtain⟨OA,oc,rfl,g⟩:=AEnd.got hr I;have p:=PI.all_pos hr;simp only at g p ⊢;obtain⟨on,J⟩:=exq e.length;simp only [J] at g p ⊢;rw [PBits.ofB_length,a9.out] at p;obtain⟨u,hu⟩:=exq ((b1+7) / 8);rw [hu];obtain⟨a2,N⟩:=exq (at_+u);have b2:=b0.out;have y5:(at_:Int)+(u:Int)=(a2:Int):=by omega
    have O:a2<=n:=by omega
    have y6:(a2:Int)<=(n:Int):=by omega
    have y7:(a2:Int)<=(c:Int):=by omega
    have b3:on<=1000000000:=by omega
    have c2:u<=100000000:=by omega
    have F:=hid J;have P:T=if PG.ends (B.drop a2) e≠0 then .error (PG.ends (B.drop a2) e) else .ok (a,e,a2+8):=by
     rw [<- M.out]; unfold PG.get; rw [HR.out]; simp only; rw [HL.out,hr]; simp only; rw [hu,N]
    have f:=hid P;have b4:=hid O;have x:=hid (Wq (subZ BA c a2 1) (n - a2) (c - a2) (B.drop a2) OA on oc e g (fun _ _ q=>(HB.out _ _ (q.pick 3 [])).dropZ a2 b4.out) (fun _ _ q=>ZT q 0 rfl F.out.symm) (fun _ _ q=>a5.out _ _ (q.pick 3 [])) (by rw [List.length_drop,HN.out]) F.out b3 (by omega) (by omega));have A:PG.ends (B.drop a2) e=0∨PG.ends (B.drop a2) e=4∨PG.ends (B.drop a2) e=21:=by unfold PG.ends; split; exact .inr (.inl rfl); split; exact .inr (.inr rfl); exact .inl rfl
    obtain⟨en,Q⟩:=exq (PG.ends (B.drop a2) e);rw [Q] at x f A;have i:=hid A;clear A Q P J hu N p hr I b2 C g;by_cases b8:c=a2
    ·subst b8;obtain rfl:n=c:=by omega
     have E:Value.slice (subZ BA n n 1) (n - n) (n - n)=.slice BA 0 0:=by unfold subZ; rw [if_pos rfl,Nat.sub_self]
     rw [E] at x;clear E;go_wp2_with fail
     refine x.out.mono ?_;rintro _ w4 ⟨rfl,d⟩;clear x;have R:w4.cell? ⟨gr,0,none⟩=some (.int .u8 a.flags.toNat):=d.cell 1 rfl 0;have S:w4.frozen? ⟨gr,0,none⟩=false:=d.frozen 1 rfl 0;have U:w4.cell? ⟨gr,1,none⟩=some (.int .u8 a.level.toNat):=d.cell 1 rfl 1;have V:w4.frozen? ⟨gr,1,none⟩=false:=d.frozen 1 rfl 1;have W:w4.cell? ⟨gr,2,none⟩=some (.int .u8 a.system.toNat):=d.cell 1 rfl 2;have X:w4.frozen? ⟨gr,2,none⟩=false:=d.frozen 1 rfl 2;have Y:w4.cell? ⟨gr,3,none⟩=some (.int .u32 a.time):=d.cell 1 rfl 3;have Z:w4.frozen? ⟨gr,3,none⟩=false:=d.frozen 1 rfl 3;have r4:w4.cell? ⟨gr,4,none⟩=some (.slice A0 ne ce):=d.cell 1 rfl 4;have q4:w4.frozen? ⟨gr,4,none⟩=false:=d.frozen 1 rfl 4;have r5:w4.cell? ⟨gr,5,none⟩=some (.string (strOf a.name)):=d.cell 1 rfl 5;have q5:w4.frozen? ⟨gr,5,none⟩=false:=d.frozen 1 rfl 5;have r6:w4.cell? ⟨gr,6,none⟩=some (.string (strOf a.note)):=d.cell 1 rfl 6;have q6:w4.frozen? ⟨gr,6,none⟩=false:=d.frozen 1 rfl 6;rcases i.out with y | y | y
     ·subst y;have t:T=.ok (a,e,n+8):=by rw [f.out,if_neg (by decide)]
      have v:=hid t;clear t f i;have a1:n<=100000000:=by omega
      obtain⟨a3,G⟩:=exq (n+8);rw [G] at v;have y8:(n:Int)+8=(a3:Int):=by omega
      clear G y5 y6 y7;go_wp2_with fail
      have k:=((((((((d.pick 3 [1,0,2]).set 0 (.int .u8 a.flags.toNat)).set 1 (.int .u8 a.level.toNat)).set 2 (.int .u8 a.system.toNat)).set 3 (.int .u32 a.time)).set 4 (.slice A0 ne ce)).set 5 (.string (strOf a.name))).set 6 (.string (strOf a.note)));refine bodyPost_ret (Zo rfl _ rfl (Zl k 0 rfl) Tryz.isAgg28 Tryz.sizeOf28) rfl ?_;exact GEnd.yes v.out a8.out F.out (k.pick 3 [1,2])
     ·subst y;have b:T=.error 4:=by rw [f.out,if_pos (by decide)]
      have j:=hid b;clear b f i;go_wp2_with fail
      have k:=((((((((d.pick 3 [1,0,2]).set 0 (.int .u8 0)).set 1 (.int .u8 0)).set 2 (.int .u8 0)).set 3 (.int .u32 0)).set 4 (.slice none 0 0)).set 5 (.string ⟨#[]⟩)).set 6 (.string ⟨#[]⟩));refine bodyPost_ret (Zo rfl _ rfl (Zl k 0 rfl) Tryz.isAgg28 Tryz.sizeOf28) rfl ?_;exact GEnd.no j.out (k.pick 3 [])
     ·subst y;have b:T=.error 21:=by rw [f.out,if_pos (by decide)]
      have j:=hid b;clear b f i;go_wp2_with fail
      have k:=((((((((d.pick 3 [1,0,2]).set 0 (.int .u8 0)).set 1 (.int .u8 0)).set 2 (.int .u8 0)).set 3 (.int .u32 0)).set 4 (.slice none 0 0)).set 5 (.string ⟨#[]⟩)).set 6 (.string ⟨#[]⟩));refine bodyPost_ret (Zo rfl _ rfl (Zl k 0 rfl) Tryz.isAgg28 Tryz.sizeOf28) rfl ?_;exact GEnd.no j.out (k.pick 3 [])
    ·have c4:¬ (c:Int)=(a2:Int):=by omega
     have b9:=hid b8;have E:Value.slice (subZ BA c a2 1) (n - a2) (c - a2)=.slice (BA.map (·.add a2)) (n - a2) (c - a2):=by unfold subZ; rw [if_neg b9.out,Nat.mul_one]
     rw [E] at x;clear E;go_wp2_with fail
     refine x.out.mono ?_;rintro _ w4 ⟨rfl,d⟩;clear x;have R:w4.cell? ⟨gr,0,none⟩=some (.int .u8 a.flags.toNat):=d.cell 1 rfl 0;have S:w4.frozen? ⟨gr,0,none⟩=false:=d.frozen 1 rfl 0;have U:w4.cell? ⟨gr,1,none⟩=some (.int .u8 a.level.toNat):=d.cell 1 rfl 1;have V:w4.frozen? ⟨gr,1,none⟩=false:=d.frozen 1 rfl 1;have W:w4.cell? ⟨gr,2,none⟩=some (.int .u8 a.system.toNat):=d.cell 1 rfl 2;have X:w4.frozen? ⟨gr,2,none⟩=false:=d.frozen 1 rfl 2;have Y:w4.cell? ⟨gr,3,none⟩=some (.int .u32 a.time):=d.cell 1 rfl 3;have Z:w4.frozen? ⟨gr,3,none⟩=false:=d.frozen 1 rfl 3;have r4:w4.cell? ⟨gr,4,none⟩=some (.slice A0 ne ce):=d.cell 1 rfl 4;have q4:w4.frozen? ⟨gr,4,none⟩=false:=d.frozen 1 rfl 4;have r5:w4.cell? ⟨gr,5,none⟩=some (.string (strOf a.name)):=d.cell 1 rfl 5;have q5:w4.frozen? ⟨gr,5,none⟩=false:=d.frozen 1 rfl 5;have r6:w4.cell? ⟨gr,6,none⟩=some (.string (strOf a.note)):=d.cell 1 rfl 6;have q6:w4.frozen? ⟨gr,6,none⟩=false:=d.frozen 1 rfl 6;rcases i.out with y | y | y
     ·subst y;have t:T=.ok (a,e,a2+8):=by rw [f.out,if_neg (by decide)]
      have v:=hid t;clear t f i;have a1:a2<=100000000:=by omega
      obtain⟨a3,G⟩:=exq (a2+8);rw [G] at v;have y8:(a2:Int)+8=(a3:Int):=by omega
      clear G y5 y6 y7;go_wp2_with fail
      have k:=((((((((d.pick 3 [1,0,2]).set 0 (.int .u8 a.flags.toNat)).set 1 (.int .u8 a.level.toNat)).set 2 (.int .u8 a.system.toNat)).set 3 (.int .u32 a.time)).set 4 (.slice A0 ne ce)).set 5 (.string (strOf a.name))).set 6 (.string (strOf a.note)));refine bodyPost_ret (Zo rfl _ rfl (Zl k 0 rfl) Tryz.isAgg28 Tryz.sizeOf28) rfl ?_;exact GEnd.yes v.out a8.out F.out (k.pick 3 [1,2])
     ·subst y;have b:T=.error 4:=by rw [f.out,if_pos (by decide)]
      have j:=hid b;clear b f i;go_wp2_with fail
      have k:=((((((((d.pick 3 [1,0,2]).set 0 (.int .u8 0)).set 1 (.int .u8 0)).set 2 (.int .u8 0)).set 3 (.int .u32 0)).set 4 (.slice none 0 0)).set 5 (.string ⟨#[]⟩)).set 6 (.string ⟨#[]⟩));refine bodyPost_ret (Zo rfl _ rfl (Zl k 0 rfl) Tryz.isAgg28 Tryz.sizeOf28) rfl ?_;exact GEnd.no j.out (k.pick 3 [])
     ·subst y;have b:T=.error 21:=by rw [f.out,if_pos (by decide)]
      have j:=hid b;clear b f i;go_wp2_with fail
      have k:=((((((((d.pick 3 [1,0,2]).set 0 (.int .u8 0)).set 1 (.int .u8 0)).set 2 (.int .u8 0)).set 3 (.int .u32 0)).set 4 (.slice none 0 0)).set 5 (.string ⟨#[]⟩)).set 6 (.string ⟨#[]⟩));refine bodyPost_ret (Zo rfl _ rfl (Zl k 0 rfl) Tryz.isAgg28 Tryz.sizeOf28) rfl ?_;exact GEnd.no j.out (k.pick 3 [])
namespace PD
theorem row_nil:stream (PM.Cut [] 64) []=[3,0]:=by decide +kernel
end PD
open Go.ChangeShapes Go.WideShapes Go.ChangeAt Go.RowKit Go.Lib
def pairData (l:List (Nat × Nat)):DataW Unit:=.slice (l.map fun x=>.agg [.lit (.int .i64 x.1),.lit (.int .i64 x.2)]) []
theorem ZB {P:Program} {w:World} {name:String} {g:Nat} {t e:TypeId} {f0 f1:Field} {l:List (Nat × Nat)} (hn:P.globalNamed name=some g) (hy:(P.globals[g]?).map (·.type)=some t)
  (ht:P.underlying t=some (.slice e)) (he:P.underlying e=some (.struct #[f0,f1])) (hc:P.cellsOf e=2) (h0:P.underlying f0.type=some (.int .i64)) (h1:P.underlying f1.type=some (.int .i64))
  (hf0:f0.offset=0/\P.cellsOf f0.type=1) (hf1:f1.offset=1/\P.cellsOf f1.type=1) (hl:0<l.length) (h:VarReads P w name (pairData l)) :
  ∃A c,w.cell? ⟨g,0,none⟩=some (.slice A l.length c)/\Rd w A (cellsP l):=by
 obtain⟨g',t',cs,L,p,M,C,s,X⟩:=h;obtain rfl:=Option.some.inj (hn.symm.trans M);obtain rfl:=Option.some.inj (hy.symm.trans C);rcases DataW.trod_slice ht X with ⟨_,hx⟩ | ⟨a,len,cap,el,rs,m,rfl,hcs,hx,_,hlc,_,hel,helem,hsp,_⟩
 ·cases hx
 have N:=congrArg Prod.fst hx;simp only [pairData,DataW.slice.injEq] at N;obtain⟨O,eR⟩:=N;have v:len=l.length:=by
  have:=congrArg List.length O;simp at this;omega
 have k:∀i,i<l.length->w.cell? (a.add (i * 2))=some (.int .i64 ((l.getD i (0,0)).1:Nat))/\w.cell? (a.add (i * 2+1))=some (.int .i64 ((l.getD i (0,0)).2:Nat)):=by
  intro i Q;have D:=helem i (by omega);rw [hc] at D;obtain⟨b,S⟩:∃b,el[i]?=some b:=⟨el[i]'(by omega),List.getElem?_eq_getElem (by omega)⟩;rw [S] at D;obtain⟨Y,E,F⟩:=Option.bind_eq_some_iff.1 D;obtain⟨Z,n,_,G,x,q,T⟩:=DataW.trod_struct he F;have r:b.1=.agg [.lit (.int .i64 ((l.getD i (0,0)).1:Nat)),.lit (.int .i64 ((l.getD i (0,0)).2:Nat))]:=by
   have:=congrArg (·[i]?) O;simp [S,Q,List.getD] at this;have e2:l.getD i (0,0)=l[i]:=by simp [List.getD,List.getElem?_eq_getElem Q]
   rw [e2];exact this.symm
  rw [hc] at x;obtain⟨_,_,y⟩:=World.cells?_some E
  match Y,x,Z,q with
  | [c0,c1],_,[y0,y1],_ =>
   have z:=T 0 f0 rfl;have B:=T 1 f1 rfl;rw [hf0.1,hf0.2] at z;rw [hf1.1,hf1.2] at B;replace z:DataW.trod _ P w 0 (fun _=>true) false n f0.type [c0]=some y0:=z;replace B:DataW.trod _ P w 0 (fun _=>true) false n f1.type [c1]=some y1:=B;obtain⟨z0,H,d0,_⟩:=DataW.trod_int h0 z;obtain⟨z1,I,d1,_⟩:=DataW.trod_int h1 B;rw [G] at r;simp only [List.map_cons,List.map_nil,DataW.agg.injEq,List.cons.injEq,and_true] at r;obtain⟨J,K⟩:=r;rw [d0] at J;rw [d1] at K;simp only [DataW.lit.injEq,Lit.int.injEq,true_and] at J K;replace H:c0=.int .i64 z0:=by simpa using H
   replace I:c1=.int .i64 z1:=by simpa using I
   have U:=y 0 (by simp);have V:=y 1 (by simp);rw [Go.Addr.add_add] at U V;refine⟨?_,?_⟩
   ·rw [<- J,<- H]; simpa using U
   ·rw [<- K,<- I]; simpa using V
 obtain⟨R,o,sR⟩:=a;refine⟨some ⟨R,o,sR⟩,cap,?_,fun _=>⟨_,rfl,fun j u hj=>?_⟩⟩
 ·rw [World.var?_cell M s 0,<- Array.getElem?_toList,hcs,v];rfl
 ·have a2:j<l.length * 2:=by
   have:=(List.getElem?_eq_some_iff.1 hj).1
   rwa [Y1] at this
  have d:=Yj l (j / 2) (by omega);have f:=k (j / 2) (by omega);by_cases W:j % 2=0
  ·have e:j / 2 * 2=j:=by omega
   rw [e] at d f;rw [f.1,<- d.1,hj]
  ·have e:j / 2 * 2+1=j:=by omega
   rw [e] at d f;rw [f.2,<- d.2,hj]
theorem gOrd : Tryz.prog.globalNamed "portolan/inflate.order" = some 6 := by kernel_rfl
theorem tOrd:(Tryz.prog.globals[6]?).map (·.type)=some 187:=by kernel_rfl
theorem gLen : Tryz.prog.globalNamed "portolan/inflate.lengths" = some 7 := by kernel_rfl
theorem tLen:(Tryz.prog.globals[7]?).map (·.type)=some 244:=by kernel_rfl
theorem gAwy : Tryz.prog.globalNamed "portolan/inflate.away" = some 5 := by kernel_rfl
theorem tAwy:(Tryz.prog.globals[5]?).map (·.type)=some 244:=by kernel_rfl
def ordZ:List Int:=PI.orderT.map fun n:Nat=>(n:Int)
open Go.ChangeShapes Go.WideShapes Go.ChangeAt Go.RowKit Go.Lib
theorem Yo {P:Program} {w:World} {name:String} {k:IntKind} {zs:List Int} {g:Nat} {t e:TypeId} {n:Nat}
  (hg:P.globalNamed name=some g) (hy:(P.globals[g]?).map (·.type)=some t) (ht:P.underlying t=some (.array n e)) (he:P.underlying e=some (.int k)) (hce:P.cellsOf e=1) (hct:P.cellsOf t=n)
  (h:VarReads P w name (Lib.tabData k zs)):Lib.TabIs P w name k zs:=by
 obtain⟨j,l,m,d,p,b,c,a,f⟩:=h;obtain rfl:=Option.some.inj (hg.symm.trans b);obtain rfl:=Option.some.inj (hy.symm.trans c);have i:=Lib.cells_of_tab ht he hce hct f;unfold Lib.TabIs;rw [a,<- i]
theorem gDOrd : Tryz.prog.globalNamed "portolan/deflate.order" = some 2 := by kernel_rfl
theorem tDOrd:(Tryz.prog.globals[2]?).map (·.type)=some 187:=by kernel_rfl
theorem gDLen : Tryz.prog.globalNamed "portolan/deflate.longs" = some 0 := by kernel_rfl
theorem tDLen:(Tryz.prog.globals[0]?).map (·.type)=some 104:=by kernel_rfl
theorem gDAwy : Tryz.prog.globalNamed "portolan/deflate.fars" = some 1 := by kernel_rfl
theorem tDAwy:(Tryz.prog.globals[1]?).map (·.type)=some 104:=by kernel_rfl
theorem YR {W : World} (ho : VarReads Tryz.prog W "portolan/deflate.order" (Lib.tabData .i64 ordZ)) (hl : VarReads Tryz.prog W "portolan/deflate.longs" (pairData PD.longT)) (ha : VarReads Tryz.prog W "portolan/deflate.fars" (pairData PI.awayT)) : ∃ DL DF dl df, DTabs DL DF dl df W := by
 have hT:=Yo (k:=.i64) (zs:=ordZ) gDOrd tDOrd Tryz.underlying187 Tryz.underlying3 (by kernel_rfl) (by kernel_rfl) ho;obtain⟨TL,cl,e1,e2⟩:=ZB gDLen tDLen Tryz.underlying104 Tryz.underlying101 (by kernel_rfl) Tryz.underlying3 Tryz.underlying3 ⟨rfl,by kernel_rfl⟩ ⟨rfl,by kernel_rfl⟩ (by decide) hl;obtain⟨TA,ca,e3,e4⟩:=ZB gDAwy tDAwy Tryz.underlying104 Tryz.underlying101 (by kernel_rfl) Tryz.underlying3 Tryz.underlying3 ⟨rfl,by kernel_rfl⟩ ⟨rfl,by kernel_rfl⟩ (by decide) ha;refine⟨TL,TA,cl,ca,e1,e2,e3,e4,fun i hi=>?_⟩;have:=hT.cell gDOrd i (by simpa [ordZ,PI.orderT] using hi);rw [this];have:∀i,i<19->ordZ.getD i 0=((PI.orderT.getD i 0:Nat):Int):=by decide
 rw [this i hi]
theorem YS {W : World} (ho : VarReads Tryz.prog W "portolan/inflate.order" (Lib.tabData .i64 ordZ)) (hl : VarReads Tryz.prog W "portolan/inflate.lengths" (pairData PI.lengthsT)) (ha : VarReads Tryz.prog W "portolan/inflate.away" (pairData PI.awayT)) : ∃ TL TA cl ca, Tabs TL TA cl ca W := by
 have hT:=Yo (k:=.i64) (zs:=ordZ) gOrd tOrd Tryz.underlying187 Tryz.underlying3 (by kernel_rfl) (by kernel_rfl) ho;obtain⟨TL,cl,e1,e2⟩:=ZB gLen tLen Tryz.underlying244 Tryz.underlying264 (by kernel_rfl) Tryz.underlying3 Tryz.underlying3 ⟨rfl,by kernel_rfl⟩ ⟨rfl,by kernel_rfl⟩ (by decide) hl;obtain⟨TA,ca,e3,e4⟩:=ZB gAwy tAwy Tryz.underlying244 Tryz.underlying264 (by kernel_rfl) Tryz.underlying3 Tryz.underlying3 ⟨rfl,by kernel_rfl⟩ ⟨rfl,by kernel_rfl⟩ (by decide) ha;refine⟨TL,TA,cl,ca,e1,e2,e3,e4,fun i hi=>?_⟩;have:=hT.cell gOrd i (by simpa [ordZ,PI.orderT] using hi);rw [this];have:∀i,i<19->ordZ.getD i 0=((PI.orderT.getD i 0:Nat):Int):=by decide
 rw [this i hi]
end Go.Proofs.YtnjpnmpemhldcaaGreatDoor

