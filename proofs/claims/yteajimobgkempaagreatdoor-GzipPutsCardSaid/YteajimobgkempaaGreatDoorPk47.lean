/- A pack. -/
import Derived.LaidMore
import Derived.Lib.LaidU8
import Derived.Stop.Joined
import Derived.Stop.LaidErr
import Derived.Test.YteajimobgkempaaGreatDoorRows
import Derived.Test.YteajimobgkempaaGreatDoorPk45
import Derived.Test.YteajimobgkempaaGreatDoorPk46
set_option linter.all false
set_option maxRecDepth 100000
set_option maxHeartbeats 8000000
namespace Go.Proofs.YteajimobgkempaaGreatDoor
variable {w0 w:World} {L:List Pr}
open Go.RowKit
namespace PD
theorem defl_le2 (b:List UInt8) (h:b.length<=10000):(defl b).length<=72000:=by
 have a:=stD_le (PM.Cut b 64) b (defl_mays b) (many (PM.Cut b 64));have c:(PM.Cut b 64).length<=b.length:=PM.cut_length b 64 0;have d:many (PM.Cut b 64)<=20:=by unfold many; omega
 rw [defl_len];unfold deflN bitsD;omega
end PD
theorem UQ (h:PG.Hd) (ho:PG.Ok h):(PG.lay h).length<=200000:=by
 obtain⟨_,c,_,a,b⟩:=ho;have a:=a.1;have b:=b.1;have d:(PG.exW h).length<=65537:=by unfold PG.exW; split; rw [List.length_append,PG.low_len]; omega; simp
 have e:(PG.txW h.flags 8 h.name).length<=65536:=by unfold PG.txW; split; rw [List.length_append,List.length_singleton]; omega; simp
 have f:(PG.txW h.flags 16 h.note).length<=65536:=by unfold PG.txW; split; rw [List.length_append,List.length_singleton]; omega; simp
 have g:(PG.suW h.flags (PG.lay0 h)).length<=2:=by unfold PG.suW; split; rw [PG.low_len]; exact Nat.le_refl _; simp
 unfold PG.lay;rw [List.length_append];have i:(PG.lay0 h).length<=10+65537+65536+65536:=by
  unfold PG.lay0;simp only [List.length_append,PG.low_len,List.length_cons,List.length_nil];omega
 omega
theorem UR (h:PG.Hd) (B0:Option Addr) (n c:Nat) (BA:Option Addr) (nb cb:Nat) (H:Sp w0 L w) (hn:n=h.extra.length) (hm1:h.name.length<=maxLen) (hm2:h.note.length<=maxLen) (hno:¬ PG.Ok h) :
  Calls Tryz.prog 18 #[.agg (hdV h (.slice B0 n c)).toArray,.slice BA nb cb] w fun e w'=>e=.returned (.tuple #[.slice none 0 0,.int .i64 1])/\Sp w0 L w':=by
 have b:decide (PG.Ok h)=false:=decide_eq_false hno;have a:=H.newBk [.int .u8 h.flags.toNat,.int .u8 h.level.toNat,.int .u8 h.system.toNat,.int .u32 h.time,.slice B0 n c,.string (strOf h.name),.string (strOf h.note)] 45;have i:(w.alloc (.cells #[.int .u8 h.flags.toNat,.int .u8 h.level.toNat,.int .u8 h.system.toNat,.int .u32 h.time,.slice B0 n c,.string (strOf h.name),.string (strOf h.note)] 45)).cell? ⟨w.heap.size,0,none⟩=some (.int .u8 h.flags.toNat):=a.cell 0 rfl 0;have j:(w.alloc (.cells #[.int .u8 h.flags.toNat,.int .u8 h.level.toNat,.int .u8 h.system.toNat,.int .u32 h.time,.slice B0 n c,.string (strOf h.name),.string (strOf h.note)] 45)).cell? ⟨w.heap.size,1,none⟩=some (.int .u8 h.level.toNat):=a.cell 0 rfl 1;have k:(w.alloc (.cells #[.int .u8 h.flags.toNat,.int .u8 h.level.toNat,.int .u8 h.system.toNat,.int .u32 h.time,.slice B0 n c,.string (strOf h.name),.string (strOf h.note)] 45)).cell? ⟨w.heap.size,2,none⟩=some (.int .u8 h.system.toNat):=a.cell 0 rfl 2;have l:(w.alloc (.cells #[.int .u8 h.flags.toNat,.int .u8 h.level.toNat,.int .u8 h.system.toNat,.int .u32 h.time,.slice B0 n c,.string (strOf h.name),.string (strOf h.note)] 45)).cell? ⟨w.heap.size,3,none⟩=some (.int .u32 h.time):=a.cell 0 rfl 3;have m:(w.alloc (.cells #[.int .u8 h.flags.toNat,.int .u8 h.level.toNat,.int .u8 h.system.toNat,.int .u32 h.time,.slice B0 n c,.string (strOf h.name),.string (strOf h.note)] 45)).cell? ⟨w.heap.size,4,none⟩=some (.slice B0 n c):=a.cell 0 rfl 4;have o:(w.alloc (.cells #[.int .u8 h.flags.toNat,.int .u8 h.level.toNat,.int .u8 h.system.toNat,.int .u32 h.time,.slice B0 n c,.string (strOf h.name),.string (strOf h.note)] 45)).cell? ⟨w.heap.size,5,none⟩=some (.string (strOf h.name)):=a.cell 0 rfl 5;have p:(w.alloc (.cells #[.int .u8 h.flags.toNat,.int .u8 h.level.toNat,.int .u8 h.system.toNat,.int .u32 h.time,.slice B0 n c,.string (strOf h.name),.string (strOf h.note)] 45)).cell? ⟨w.heap.size,6,none⟩=some (.string (strOf h.note)):=a.cell 0 rfl 6;have f:=hid (X3 h B0 n c hn a hm1 hm2);clear a hn hm1 hm2 hno;unfold hdV;go_enter Tryz.func18,Tryz.ntmps18
 go_wp2_with fail
 refine f.out.mono ?_;rintro _ w1 ⟨rfl,d⟩;clear f i j k l m o p;generalize w.heap.size=g at d ⊢;have d:Sp w0 (Bk g 45 (hdV h (.slice B0 n c))::L) w1:=d;rw [b];clear b;go_wp2_with fail
 go_ret2;exact⟨rfl,d.tail⟩
theorem Ua (h:PG.Hd) (B0:Option Addr) (n c:Nat) (BA:Option Addr) (nb cb:Nat) (H:Sp w0 L w) (hn:n=h.extra.length) (hok:PG.Ok h) (ht:h.time<4294967296) (hbx:Ent L fun w=>Byt w (.slice B0 n c) h.extra) (hct:Ent L CrcTab) {TL TF:Option Addr} {cl cf:Nat} (hT:Ent L (DTabs TL TF cl cf)) (b:List UInt8) (hnb:nb=b.length) (hnm:nb<=10000) (hcb:nb<=cb) (hcm:cb<=maxLen) (hb:Ent L fun w=>Byt w (.slice BA nb cb) b) :
  Calls Tryz.prog 18 #[.agg (hdV h (.slice B0 n c)).toArray,.slice BA nb cb] w fun e w'=>∃v,e=.returned (.tuple #[v,.int .i64 0])/\Sp w0 (Row 5 1 v (PG.put h b).length (cells8 (PG.put h b))::L) w':=by
 have r:h.name.length<=maxLen:=by have:=hok.2.2.2.1.1; unfold maxLen; omega
 have s:h.note.length<=maxLen:=by have:=hok.2.2.2.2.1; unfold maxLen; omega
 have j:decide (PG.Ok h)=true:=decide_eq_true hok;have y1:¬ (nb:Int) > 16777216:=by omega
 have HT:=hid ht;have t:=hid hct;have O:=hid hbx;have Q:=hid hT;have d:=hid hnb;have HB:=hid hb;have f:=hid hok;have HN:=hid hn.symm;have R:=hid hcb;have S:=hid hcm;have i:=H.newBk [.int .u8 h.flags.toNat,.int .u8 h.level.toNat,.int .u8 h.system.toNat,.int .u32 h.time,.slice B0 n c,.string (strOf h.name),.string (strOf h.note)] 45;have T:(w.alloc (.cells #[.int .u8 h.flags.toNat,.int .u8 h.level.toNat,.int .u8 h.system.toNat,.int .u32 h.time,.slice B0 n c,.string (strOf h.name),.string (strOf h.note)] 45)).cell? ⟨w.heap.size,0,none⟩=some (.int .u8 h.flags.toNat):=i.cell 0 rfl 0;have U:(w.alloc (.cells #[.int .u8 h.flags.toNat,.int .u8 h.level.toNat,.int .u8 h.system.toNat,.int .u32 h.time,.slice B0 n c,.string (strOf h.name),.string (strOf h.note)] 45)).cell? ⟨w.heap.size,1,none⟩=some (.int .u8 h.level.toNat):=i.cell 0 rfl 1;have V:(w.alloc (.cells #[.int .u8 h.flags.toNat,.int .u8 h.level.toNat,.int .u8 h.system.toNat,.int .u32 h.time,.slice B0 n c,.string (strOf h.name),.string (strOf h.note)] 45)).cell? ⟨w.heap.size,2,none⟩=some (.int .u8 h.system.toNat):=i.cell 0 rfl 2;have W:(w.alloc (.cells #[.int .u8 h.flags.toNat,.int .u8 h.level.toNat,.int .u8 h.system.toNat,.int .u32 h.time,.slice B0 n c,.string (strOf h.name),.string (strOf h.note)] 45)).cell? ⟨w.heap.size,3,none⟩=some (.int .u32 h.time):=i.cell 0 rfl 3;have X:(w.alloc (.cells #[.int .u8 h.flags.toNat,.int .u8 h.level.toNat,.int .u8 h.system.toNat,.int .u32 h.time,.slice B0 n c,.string (strOf h.name),.string (strOf h.note)] 45)).cell? ⟨w.heap.size,4,none⟩=some (.slice B0 n c):=i.cell 0 rfl 4;have Z:(w.alloc (.cells #[.int .u8 h.flags.toNat,.int .u8 h.level.toNat,.int .u8 h.system.toNat,.int .u32 h.time,.slice B0 n c,.string (strOf h.name),.string (strOf h.note)] 45)).cell? ⟨w.heap.size,5,none⟩=some (.string (strOf h.name)):=i.cell 0 rfl 5;have c6:(w.alloc (.cells #[.int .u8 h.flags.toNat,.int .u8 h.level.toNat,.int .u8 h.system.toNat,.int .u32 h.time,.slice B0 n c,.string (strOf h.name),.string (strOf h.note)] 45)).cell? ⟨w.heap.size,6,none⟩=some (.string (strOf h.note)):=i.cell 0 rfl 6;have HM:=hid (X3 h B0 n c hn i r s);clear i hok hcm hcb hct hbx hT hnb hb H ht r s hn;unfold hdV;go_enter Tryz.func18,Tryz.ntmps18
 go_wp2_with fail
 refine HM.out.mono ?_;rintro _ w1 ⟨rfl,u⟩;clear HM T U V W X Z c6;generalize w.heap.size=g at u ⊢;have u:Sp w0 (Bk g 45 (hdV h (.slice B0 n c))::L) w1:=u;rw [j];clear j;have G:=hid (TC BA nb cb b u (fun _ _ q=>Q.out _ _ q.tail) d.out (by omega) R.out S.out (fun _ _ q=>HB.out _ _ q.tail));have x:=PD.defl_le2 b (by rw [<- d.out]; exact hnm);obtain⟨P,hP⟩:=exq (PD.defl b);rw [hP] at G x;have HP:=hid hP;obtain⟨I,k⟩:=exq P.length;rw [k] at G x;have y:=hid k;clear hP k;go_wp2_with fail
 refine G.out.mono ?_;rintro _ l ⟨v2,rfl,a⟩;obtain⟨A2,d2,rfl,_,_⟩:=Row.form a 0 rfl;clear G u;have T:l.cell? ⟨g,0,none⟩=some (.int .u8 h.flags.toNat):=a.cell 1 rfl 0;have U:l.cell? ⟨g,1,none⟩=some (.int .u8 h.level.toNat):=a.cell 1 rfl 1;have V:l.cell? ⟨g,2,none⟩=some (.int .u8 h.system.toNat):=a.cell 1 rfl 2;have W:l.cell? ⟨g,3,none⟩=some (.int .u32 h.time):=a.cell 1 rfl 3;have X:l.cell? ⟨g,4,none⟩=some (.slice B0 n c):=a.cell 1 rfl 4;have Z:l.cell? ⟨g,5,none⟩=some (.string (strOf h.name)):=a.cell 1 rfl 5;have c6:l.cell? ⟨g,6,none⟩=some (.string (strOf h.note)):=a.cell 1 rfl 6;have J:=hid (TE h B0 n c a HN.out (fun _ _ q=>O.out _ _ q.tail2) HT.out (fun _ _ q=>t.out _ _ q.tail2) (by have:=f.out.2.1; rw [HN.out] at this; exact this) f.out.2.2.2.1.1 f.out.2.2.2.2.1);have A:=UQ h f.out;obtain⟨Y,hY⟩:=exq (PG.lay h);rw [hY] at J A;have HY:=hid hY;obtain⟨K,m⟩:=exq Y.length;rw [m] at J A;have B:=hid m;clear hY m;go_wp2_with fail
 refine J.out.mono ?_;rintro _ w3 ⟨v3,rfl,M⟩;obtain⟨A3,d3,rfl,_,_⟩:=Row.form M 0 rfl;clear J a T U V W X Z c6;have o:=M.newBk [.slice BA nb cb] 24;have C:=hid (Vi o 0 rfl (HB.out _ _ (o.pick 4 [])) (t.out _ _ (o.pick 4 [])) (by rw [<- d.out]; omega));clear o;have K9:=M;clear M;go_wp2_with fail
 refine C.out.mono ?_;rintro _ w4 ⟨rfl,o⟩;clear C K9;have D:=PCrc.of_lt b;obtain⟨z,N⟩:=exq (PCrc.of b);rw [N] at D;rw [N];have HZ:=hid N;clear N;have E:=hid (YH z 4 D (by decide) (o.pick 3 [1,2]));clear o;go_wp2_with fail
 refine E.out.mono ?_;rintro _ w5 ⟨v5,rfl,K5⟩;obtain⟨A5,d5,rfl,_,_⟩:=Row.form K5 0 rfl;clear E;have E:=hid (YH nb 4 (by omega) (by decide) K5);clear K5;go_wp2_with fail
 refine E.out.mono ?_;rintro _ w6 ⟨v6,rfl,K6⟩;obtain⟨A6,d6,rfl,_,_⟩:=Row.form K6 0 rfl;clear E;have K7:=K6.newBk [.slice A3 K d3,.slice A2 I d2,.slice A5 4 d5,.slice A6 4 d6] 24;have F:=hid (W4 ⟨w6.heap.size,0,none⟩ 4 4 [⟨A3,K,d3,cells8 Y⟩,⟨A2,I,d2,cells8 P⟩,⟨A5,4,d5,cells8 (PG.low z 4)⟩,⟨A6,4,d6,cells8 (PG.low nb 4)⟩] K7 rfl (fun _ _ q=>Rd.of_blk (q.blk 0 rfl)) (by
  intro q p;rcases List.mem_cons.1 p with rfl | p
  ·exact⟨by rw [Zh,B.out],fun _ _ q=>rowRd q 3 rfl,Zf _⟩
  rcases List.mem_cons.1 p with rfl | p
  ·exact⟨by rw [Zh,y.out],fun _ _ q=>rowRd q 4 rfl,Zf _⟩
  rcases List.mem_cons.1 p with rfl | p
  ·exact⟨by rw [Zh,PG.low_len],fun _ _ q=>rowRd q 2 rfl,Zf _⟩
  rw [List.mem_singleton.1 p];exact⟨by rw [Zh,PG.low_len],fun _ _ q=>rowRd q 1 rfl,Zf _⟩) (by show K+(I+(4+(4+0)))<=1000000; omega) (by decide))
 clear K6 K7;go_wp2_with fail
 refine F.out.mono ?_;rintro _ w7 ⟨v7,rfl,K8⟩;clear F;have e1:PG.put h b=Y++(P++(PG.low z 4++PG.low nb 4)):=by
  unfold PG.put PG.tailW;rw [HY.out,HP.out,HZ.out,<- d.out]
 have KZ:Hid (Sp w0 (Row 5 1 v7 (PG.put h b).length (cells8 (PG.put h b))::L) w7):=by
  have e2:(PG.put h b).length=K+(I+(4+(4+0))):=by
   rw [e1]; simp only [List.length_append,PG.low_len,B.out,y.out]
  have e3:cells8 (PG.put h b)=cells8 Y++(cells8 P++(cells8 (PG.low z 4)++(cells8 (PG.low nb 4)++[]))):=by
   rw [e1,Zd,Zd,Zd,List.append_nil]
  rw [e2,e3];exact hid (K8.pick 7 [0])
 clear K8 e1;go_wp2_with fail
 go_ret2;exact⟨_,rfl,KZ.out⟩
namespace PG
def beg3 (B:List UInt8):Nat:=if B.length<=3 then 4 else if 32<=(B.getD 3 0).toNat then 5 else 0
def beg2 (B:List UInt8):Nat:=if B.length<=2 then 4 else if B.getD 2 0≠8 then 5 else beg3 B
def beg1 (B:List UInt8):Nat:=if B.length<=1 then 4 else if B.getD 1 0≠139 then 5 else beg2 B
def begF (B:List UInt8):Nat->Nat
 | 0=>begin_ B
 | 1=>beg1 B
 | 2=>beg2 B
 | 3=>beg3 B
 | _=>0
def mg (k:Nat):UInt8:=[31,139,8].getD k 0
theorem begF_short {B:List UInt8} {k:Nat} (hk:k<4) (h:B.length<=k):begF B k=4:=by
 have:k=0∨k=1∨k=2∨k=3:=by omega
 rcases this with rfl | rfl | rfl | rfl
 ·show begin_ B=4; unfold begin_; rw [if_pos h]
 ·show beg1 B=4; unfold beg1; rw [if_pos h]
 ·show beg2 B=4; unfold beg2; rw [if_pos h]
 ·show beg3 B=4; unfold beg3; rw [if_pos h]
theorem begF_bad {B:List UInt8} {k:Nat} (hk:k<3) (h:¬ B.length<=k) (hb:B.getD k 0≠mg k):begF B k=5:=by
 have:k=0∨k=1∨k=2:=by omega
 rcases this with rfl | rfl | rfl
 ·replace hb:B.getD 0 0≠31:=hb;show begin_ B=5; unfold begin_; rw [if_neg h,if_pos hb]
 ·replace hb:B.getD 1 0≠139:=hb;show beg1 B=5; unfold beg1; rw [if_neg h,if_pos hb]
 ·replace hb:B.getD 2 0≠8:=hb;show beg2 B=5; unfold beg2; rw [if_neg h,if_pos hb]
theorem begF_next {B:List UInt8} {k:Nat} (hk:k<3) (h:¬ B.length<=k) (hb:B.getD k 0=mg k):begF B k=begF B (k+1):=by
 have:k=0∨k=1∨k=2:=by omega
 rcases this with rfl | rfl | rfl
 ·show begin_ B=beg1 B; unfold begin_ beg1 beg2 beg3; rw [if_neg h,if_neg (fun q=>q hb)]
 ·show beg1 B=beg2 B; rw [beg1,if_neg h,if_neg (fun q=>q hb)]
 ·show beg2 B=beg3 B; rw [beg2,if_neg h,if_neg (fun q=>q hb)]
end PG
theorem Ub (BA:Option Addr) (n c:Nat) (B:List UInt8) (H:Sp w0 L w) (hn:n=B.length) (hb:Ent L fun w=>Byt w (.slice BA n c) B) :
  Calls Tryz.prog 105 #[.slice BA n c] w fun e w'=>e=.returned (.int .i64 (PG.begin_ B:Int))/\Sp w0 L w':=by
 obtain⟨T,v⟩:=exq (PG.begin_ B);rw [v];have d:Hid (PG.begF B 0=T):=hid v;have s:=hid hn.symm;have G:=hid hb;clear v hn hb;go_enter Tryz.func105,Tryz.ntmps105
 go_wp2_with fail
 go_loopw [4] (fun kv wr=>∃k:Nat,kv=.int .i64 k/\k<=4/\Hid (PG.begF B k=T)/\Sp w0 L wr) (fun kv _=>4 - (intOf kv).toNat)
 case atStart=>exact⟨0,rfl,by decide,d,H⟩
 case round =>
  clear H d;obtain⟨k,rfl,M,d,H⟩:=hrel;by_cases y:k=4
  ·subst y;have f:T=0:=d.out.symm;have b:=hid f;clear f;go_wp2_with fail
   go_ret;exact⟨congrArg (fun t:Nat=>Ending.returned (.int .i64 t)) b.out.symm,H⟩
  ·have N:(k:Int)<4:=by omega
   by_cases u:n<=k
   ·have I:(k:Int)≥(n:Int):=by omega
    have f:T=4:=by rw [<- d.out]; exact PG.begF_short (by omega) (by rw [s.out]; exact u)
    have b:=hid f;clear f u y;go_wp2_with fail
    go_ret;exact⟨congrArg (fun t:Nat=>Ending.returned (.int .i64 t)) b.out.symm,H⟩
   ·have I:¬ (k:Int)≥(n:Int):=by omega
    have j:(k:Int)<(n:Int):=by omega
    obtain⟨x,z⟩:=exq (B.getD k 0);obtain⟨O,P,e,D,_,_⟩:=G.out _ _ H;injection e with e1 e2 e3
    subst e1 e3;clear e2;obtain⟨m,rfl,l⟩:=D.at8 (k:=k) (by rw [s.out]; omega);have o:k<B.length:=by rw [s.out]; omega
    have E:B[k]'o=x:=by rw [<- z,List.getD_eq_getElem?_getD,List.getElem?_eq_getElem o]; rfl
    rw [E] at l;clear E o;have A:=UInt8.toNat_lt x;have r : ¬ B.length<=k:=by rw [s.out]; exact u
    have g:=hid r;have h:=hid z;clear D z r u y;have C:k=0∨k=1∨k=2∨k=3:=by omega
    rcases C with rfl | rfl | rfl | rfl
    ·replace l:wr.cell? m=some (.int .u8 x.toNat):=by
      have:=l;rw [Addr.add] at this;exact this
     have J:0<n:=by omega
     have K:¬ n=0:=by omega
     have F:∀q,((⟨#[31,139,8]⟩:ByteArray)[0]'q).toNat=31:=fun _=>rfl;by_cases a:x=31
     ·have p:(x.toNat:Int)=31:=by rw [a]; rfl
      have i:Hid (PG.begF B 1=T):=by rw [<- PG.begF_next (by decide) g.out (by rw [h.out,a]; rfl),d.out]; exact hid rfl
      clear a d h g;go_wp2_with fail
      go_quiet (fail)
      go_wp2_with fail
      go_roundw
      case rel=>exact⟨1,by go_num,by decide,i,H.drewN _⟩
      case measure=>simp [intOf]
     ·have p:¬ (x.toNat:Int)=31:=fun q=>a (UInt8.toNat_inj.1 (by show x.toNat=31; omega));have f:T=5:=by rw [<- d.out]; exact PG.begF_bad (by decide) g.out (by rw [h.out]; exact a)
      have b:=hid f;clear f a d h g;go_wp2_with fail
      go_quiet (fail)
      go_wp2_with fail
      go_ret;exact⟨congrArg (fun t:Nat=>Ending.returned (.int .i64 t)) b.out.symm,H.drewN _⟩
    ·replace l:wr.cell? ⟨m.block,m.off+1,none⟩=some (.int .u8 x.toNat):=by
      have:=l;rw [Addr.add] at this;exact this
     replace j:(1:Int)<(n:Int):=j
     skip
     have F:∀q,((⟨#[31,139,8]⟩:ByteArray)[1]'q).toNat=139:=fun _=>rfl;by_cases a:x=139
     ·have p:(x.toNat:Int)=139:=by rw [a]; rfl
      have i:Hid (PG.begF B 2=T):=by rw [<- PG.begF_next (by decide) g.out (by rw [h.out,a]; rfl),d.out]; exact hid rfl
      clear a d h g;go_wp2_with fail
      go_quiet (fail)
      go_wp2_with fail
      go_roundw
      case rel=>exact⟨2,by go_num,by decide,i,H.drewN _⟩
      case measure=>simp [intOf]
     ·have p:¬ (x.toNat:Int)=139:=fun q=>a (UInt8.toNat_inj.1 (by show x.toNat=139; omega));have f:T=5:=by rw [<- d.out]; exact PG.begF_bad (by decide) g.out (by rw [h.out]; exact a)
      have b:=hid f;clear f a d h g;go_wp2_with fail
      go_quiet (fail)
      go_wp2_with fail
      go_ret;exact⟨congrArg (fun t:Nat=>Ending.returned (.int .i64 t)) b.out.symm,H.drewN _⟩
    ·replace l:wr.cell? ⟨m.block,m.off+2,none⟩=some (.int .u8 x.toNat):=by
      have:=l;rw [Addr.add] at this;exact this
     replace j:(2:Int)<(n:Int):=j
     skip
     have F:∀q,((⟨#[31,139,8]⟩:ByteArray)[2]'q).toNat=8:=fun _=>rfl;by_cases a:x=8
     ·have p:(x.toNat:Int)=8:=by rw [a]; rfl
      have i:Hid (PG.begF B 3=T):=by rw [<- PG.begF_next (by decide) g.out (by rw [h.out,a]; rfl),d.out]; exact hid rfl
      clear a d h g;go_wp2_with fail
      go_quiet (fail)
      go_wp2_with fail
      go_roundw
      case rel=>exact⟨3,by go_num,by decide,i,H.drewN _⟩
      case measure=>simp [intOf]
     ·have p:¬ (x.toNat:Int)=8:=fun q=>a (UInt8.toNat_inj.1 (by show x.toNat=8; omega));have f:T=5:=by rw [<- d.out]; exact PG.begF_bad (by decide) g.out (by rw [h.out]; exact a)
      have b:=hid f;clear f a d h g;go_wp2_with fail
      go_quiet (fail)
      go_wp2_with fail
      go_ret;exact⟨congrArg (fun t:Nat=>Ending.returned (.int .i64 t)) b.out.symm,H.drewN _⟩
    ·replace l:wr.cell? ⟨m.block,m.off+3,none⟩=some (.int .u8 x.toNat):=by
      have:=l;rw [Addr.add] at this;exact this
     replace j:(3:Int)<(n:Int):=j;by_cases a:32<=x.toNat
     ·have p:(x.toNat:Int)≥32:=by omega
      have f:T=5:=by rw [<- d.out]; show PG.beg3 B=5; unfold PG.beg3; rw [if_neg g.out,if_pos (by rw [h.out]; exact a)]
      have b:=hid f;clear f a d h g;go_wp2_with fail
      go_quiet (fail)
      go_wp2_with fail
      go_ret;exact⟨congrArg (fun t:Nat=>Ending.returned (.int .i64 t)) b.out.symm,H.drewN _⟩
     ·have p:¬ (x.toNat:Int)≥32:=by omega
      have i:Hid (PG.begF B 4=T):=by
       rw [<- d.out];show Hid (0=PG.beg3 B);unfold PG.beg3;rw [if_neg g.out,if_neg (by rw [h.out]; exact a)];exact hid rfl
      clear a d h g;go_wp2_with fail
      go_quiet (fail)
      go_wp2_with fail
      go_roundw
      case rel=>exact⟨4,by go_num,by decide,i,H.drewN _⟩
      case measure=>simp [intOf]
namespace PD
theorem row_nil:stream (PM.Cut [] 64) []=[3,0]:=by decide +kernel
end PD
structure Tabs (TL TA:Option Addr) (cl ca:Nat) (w:World):Prop where
 long:w.cell? ⟨7,0,none⟩=some (.slice TL 28 cl)
 longs:Rd w TL (cellsP PI.lengthsT)
 far:w.cell? ⟨5,0,none⟩=some (.slice TA 30 ca)
 fars:Rd w TA (cellsP PI.awayT)
 order:∀i,i<19->w.cell? ⟨6,i,none⟩=some (.int .i64 (PI.orderT.getD i 0:Nat))
theorem Tabs.heap {TL TA:Option Addr} {cl ca:Nat} {W w:World} (h:Tabs TL TA cl ca W) (hs:∀b,b<W.heap.size->w.heap[b]?=W.heap[b]?):Tabs TL TA cl ca w:=by
 have a:∀(p:Addr) u,W.cell? p=some u->w.cell? p=some u:=fun p u hp=>by
  rw [<- hp]; exact World.cell?_of_block (hs p.block (Zr hp))
 exact⟨a _ _ h.long,h.longs.keep fun p u _ hp=>by rw [hp]; exact a _ _ hp,a _ _ h.far,h.fars.keep fun p u _ hp=>by rw [hp]; exact a _ _ hp,fun i hi=>a _ _ (h.order i hi)⟩
open Go.ChangeShapes Go.WideShapes Go.ChangeAt Go.RowKit Go.Lib
def pairData (l:List (Nat × Nat)):DataW Unit:=.slice (l.map fun x=>.agg [.lit (.int .i64 x.1),.lit (.int .i64 x.2)]) []
theorem ZL {P:Program} {w:World} {name:String} {g:Nat} {t e:TypeId} {f0 f1:Field} {l:List (Nat × Nat)} (hn:P.globalNamed name=some g) (hy:(P.globals[g]?).map (·.type)=some t)
  (ht:P.underlying t=some (.slice e)) (he:P.underlying e=some (.struct #[f0,f1])) (hc:P.cellsOf e=2) (h0:P.underlying f0.type=some (.int .i64)) (h1:P.underlying f1.type=some (.int .i64))
  (hf0:f0.offset=0/\P.cellsOf f0.type=1) (hf1:f1.offset=1/\P.cellsOf f1.type=1) (hl:0<l.length) (h:VarReads P w name (pairData l)) :
  ∃A c,w.cell? ⟨g,0,none⟩=some (.slice A l.length c)/\Rd w A (cellsP l):=by
 obtain⟨g',t',cs,L,p,M,C,s,X⟩:=h;obtain rfl:=Option.some.inj (hn.symm.trans M);obtain rfl:=Option.some.inj (hy.symm.trans C);rcases DataW.trod_slice ht X with ⟨_,hx⟩ | ⟨a,len,cap,el,rs,m,rfl,hcs,hx,_,hlc,_,hel,helem,hsp,_⟩
 ·cases hx
 have N:=congrArg Prod.fst hx;simp only [pairData,DataW.slice.injEq] at N;obtain⟨O,eR⟩:=N;have v:len=l.length:=by
  have:=congrArg List.length O;simp at this;omega
 have k:∀i,i<l.length->w.cell? (a.add (i * 2))=some (.int .i64 ((l.getD i (0,0)).1:Nat))/\w.cell? (a.add (i * 2+1))=some (.int .i64 ((l.getD i (0,0)).2:Nat)):=by
  intro i Q;have D:=helem i (by omega);rw [hc] at D;obtain⟨b,S⟩:∃b,el[i]?=some b:=⟨el[i]'(by omega),List.getElem?_eq_getElem (by omega)⟩;rw [S] at D;obtain⟨Y,E,F⟩:=Option.bind_eq_some_iff.1 D;obtain⟨Z,n,_,G,x,q,T⟩:=DataW.trod_struct he F;have r:b.1=.agg [.lit (.int .i64 ((l.getD i (0,0)).1:Nat)),.lit (.int .i64 ((l.getD i (0,0)).2:Nat))]:=by
   have:=congrArg (·[i]?) O;simp [S,Q,List.getD] at this;have e2:l.getD i (0,0)=l[i]:=by simp [List.getD,List.getElem?_eq_getElem Q]
   rw [e2];exact this.symm
  rw [hc] at x;obtain⟨_,_,y⟩:=World.cells?_some E
  match Y,x,Z,q with
  | [c0,c1],_,[y0,y1],_ =>
   have z:=T 0 f0 rfl;have B:=T 1 f1 rfl;rw [hf0.1,hf0.2] at z;rw [hf1.1,hf1.2] at B;replace z:DataW.trod _ P w 0 (fun _=>true) false n f0.type [c0]=some y0:=z;replace B:DataW.trod _ P w 0 (fun _=>true) false n f1.type [c1]=some y1:=B;obtain⟨z0,H,d0,_⟩:=DataW.trod_int h0 z;obtain⟨z1,I,d1,_⟩:=DataW.trod_int h1 B;rw [G] at r;simp only [List.map_cons,List.map_nil,DataW.agg.injEq,List.cons.injEq,and_true] at r;obtain⟨J,K⟩:=r;rw [d0] at J;rw [d1] at K;simp only [DataW.lit.injEq,Lit.int.injEq,true_and] at J K;replace H:c0=.int .i64 z0:=by simpa using H
   replace I:c1=.int .i64 z1:=by simpa using I
   have U:=y 0 (by simp);have V:=y 1 (by simp);rw [Go.Addr.add_add] at U V;refine⟨?_,?_⟩
   ·rw [<- J,<- H]; simpa using U
   ·rw [<- K,<- I]; simpa using V
 obtain⟨R,o,sR⟩:=a;refine⟨some ⟨R,o,sR⟩,cap,?_,fun _=>⟨_,rfl,fun j u hj=>?_⟩⟩
 ·rw [World.var?_cell M s 0,<- Array.getElem?_toList,hcs,v];rfl
 ·have a2:j<l.length * 2:=by
   have:=(List.getElem?_eq_some_iff.1 hj).1
   rwa [Xa] at this
  have d:=Yt l (j / 2) (by omega);have f:=k (j / 2) (by omega);by_cases W:j % 2=0
  ·have e:j / 2 * 2=j:=by omega
   rw [e] at d f;rw [f.1,<- d.1,hj]
  ·have e:j / 2 * 2+1=j:=by omega
   rw [e] at d f;rw [f.2,<- d.2,hj]
theorem gOrd : Tryz.prog.globalNamed "portolan/inflate.order" = some 6 := by kernel_rfl
theorem tOrd:(Tryz.prog.globals[6]?).map (·.type)=some 147:=by kernel_rfl
theorem gLen : Tryz.prog.globalNamed "portolan/inflate.lengths" = some 7 := by kernel_rfl
theorem tLen:(Tryz.prog.globals[7]?).map (·.type)=some 245:=by kernel_rfl
theorem gAwy : Tryz.prog.globalNamed "portolan/inflate.away" = some 5 := by kernel_rfl
theorem tAwy:(Tryz.prog.globals[5]?).map (·.type)=some 245:=by kernel_rfl
def ordZ:List Int:=PI.orderT.map fun n:Nat=>(n:Int)
open Go.ChangeShapes Go.WideShapes Go.ChangeAt Go.RowKit Go.Lib
theorem YC {P:Program} {w:World} {name:String} {k:IntKind} {zs:List Int} {g:Nat} {t e:TypeId} {n:Nat}
  (hg:P.globalNamed name=some g) (hy:(P.globals[g]?).map (·.type)=some t) (ht:P.underlying t=some (.array n e)) (he:P.underlying e=some (.int k)) (hce:P.cellsOf e=1) (hct:P.cellsOf t=n)
  (h:VarReads P w name (Lib.tabData k zs)):Lib.TabIs P w name k zs:=by
 obtain⟨j,l,m,d,p,b,c,a,f⟩:=h;obtain rfl:=Option.some.inj (hg.symm.trans b);obtain rfl:=Option.some.inj (hy.symm.trans c);have i:=Lib.cells_of_tab ht he hce hct f;unfold Lib.TabIs;rw [a,<- i]
theorem gDOrd : Tryz.prog.globalNamed "portolan/deflate.order" = some 2 := by kernel_rfl
theorem tDOrd:(Tryz.prog.globals[2]?).map (·.type)=some 147:=by kernel_rfl
theorem gDLen : Tryz.prog.globalNamed "portolan/deflate.longs" = some 0 := by kernel_rfl
theorem tDLen:(Tryz.prog.globals[0]?).map (·.type)=some 71:=by kernel_rfl
theorem gDAwy : Tryz.prog.globalNamed "portolan/deflate.fars" = some 1 := by kernel_rfl
theorem tDAwy:(Tryz.prog.globals[1]?).map (·.type)=some 71:=by kernel_rfl
theorem YZ {W : World} (ho : VarReads Tryz.prog W "portolan/deflate.order" (Lib.tabData .i64 ordZ)) (hl : VarReads Tryz.prog W "portolan/deflate.longs" (pairData PD.longT)) (ha : VarReads Tryz.prog W "portolan/deflate.fars" (pairData PI.awayT)) : ∃ DL DF dl df, DTabs DL DF dl df W := by
 have hT:=YC (k:=.i64) (zs:=ordZ) gDOrd tDOrd Tryz.underlying147 Tryz.underlying3 (by kernel_rfl) (by kernel_rfl) ho;obtain⟨TL,cl,e1,e2⟩:=ZL gDLen tDLen Tryz.underlying71 Tryz.underlying68 (by kernel_rfl) Tryz.underlying3 Tryz.underlying3 ⟨rfl,by kernel_rfl⟩ ⟨rfl,by kernel_rfl⟩ (by decide) hl;obtain⟨TA,ca,e3,e4⟩:=ZL gDAwy tDAwy Tryz.underlying71 Tryz.underlying68 (by kernel_rfl) Tryz.underlying3 Tryz.underlying3 ⟨rfl,by kernel_rfl⟩ ⟨rfl,by kernel_rfl⟩ (by decide) ha;refine⟨TL,TA,cl,ca,e1,e2,e3,e4,fun i hi=>?_⟩;have:=hT.cell gDOrd i (by simpa [ordZ,PI.orderT] using hi);rw [this];have:∀i,i<19->ordZ.getD i 0=((PI.orderT.getD i 0:Nat):Int):=by decide
 rw [this i hi]
theorem Y0 {W : World} (ho : VarReads Tryz.prog W "portolan/inflate.order" (Lib.tabData .i64 ordZ)) (hl : VarReads Tryz.prog W "portolan/inflate.lengths" (pairData PI.lengthsT)) (ha : VarReads Tryz.prog W "portolan/inflate.away" (pairData PI.awayT)) : ∃ TL TA cl ca, Tabs TL TA cl ca W := by
 have hT:=YC (k:=.i64) (zs:=ordZ) gOrd tOrd Tryz.underlying147 Tryz.underlying3 (by kernel_rfl) (by kernel_rfl) ho;obtain⟨TL,cl,e1,e2⟩:=ZL gLen tLen Tryz.underlying245 Tryz.underlying257 (by kernel_rfl) Tryz.underlying3 Tryz.underlying3 ⟨rfl,by kernel_rfl⟩ ⟨rfl,by kernel_rfl⟩ (by decide) hl;obtain⟨TA,ca,e3,e4⟩:=ZL gAwy tAwy Tryz.underlying245 Tryz.underlying257 (by kernel_rfl) Tryz.underlying3 Tryz.underlying3 ⟨rfl,by kernel_rfl⟩ ⟨rfl,by kernel_rfl⟩ (by decide) ha;refine⟨TL,TA,cl,ca,e1,e2,e3,e4,fun i hi=>?_⟩;have:=hT.cell gOrd i (by simpa [ordZ,PI.orderT] using hi);rw [this];have:∀i,i<19->ordZ.getD i 0=((PI.orderT.getD i 0:Nat):Int):=by decide
 rw [this i hi]
open Go.ChangeShapes Go.WideShapes Go.ChangeAt Go.RowKit
def tabZ:List Int:=PCrc.tab.map fun n:Nat=>(n:Int)
theorem gTab : Tryz.prog.globalNamed "portolan/crc.table" = some 4 := by kernel_rfl
theorem tTab:(Tryz.prog.globals[4]?).map (·.type)=some 222:=by kernel_rfl
theorem W5 {W : World} {rest : List (String × DataW Unit)} (h : laidMet Tryz.prog (("portolan/crc.table", Rows.laid_portolan_crc_table) :: rest) W) : CrcTab W := by
 have hT:=Lib.tabIs_of_head (k:=.u32) (zs:=tabZ) gTab tTab Tryz.underlying222 Tryz.underlying43 (by kernel_rfl) (by kernel_rfl) h;intro i hi;have:=hT.cell gTab i (by simpa [tabZ,PCrc.tab] using hi);rw [this];have:∀i,i<16->tabZ.getD i 0=((PCrc.tab.getD i 0:Nat):Int):=by decide
 rw [this i hi]
def pg0:PG.Hd:=⟨0,0,0,0,[],[],[]⟩
theorem US:PG.put pg0 []=[31,139,8,0,0,0,0,0,0,0,3,0,0,0,0,0,0,0,0,0]:=by
 unfold PG.put;rw [show PD.defl []=[3,0] from PD.row_nil];decide +kernel
theorem TX:PG.Ok pg0:=by decide
theorem Uc (BA:Option Addr) (n c:Nat) (B:List UInt8) (z:Nat) (hz:PG.begin_ B=z) (hz0:¬ z=0) (H:Sp w0 L w) (hb:Ent L fun w=>Byt w (.slice BA n c) B) (hn:n=B.length) :
  Calls Tryz.prog 73 #[.slice BA n c] w fun e w'=>e=.returned (.tuple #[.agg #[.int .u8 0,.int .u8 0,.int .u8 0,.int .u32 0,.slice none 0 0,.string ⟨#[]⟩,.string ⟨#[]⟩],.int .i64 0,.int .i64 z])/\Sp w0 L w':=by
 have h:=(H.newBk [.slice BA n c] 24).newBk [.int .u8 0,.int .u8 0,.int .u8 0,.int .u32 0,.slice none 0 0,.string ⟨#[]⟩,.string ⟨#[]⟩] 45;have i:(w.alloc (.cells #[.slice BA n c] 24)).heap.size=w.heap.size+1:=Array.size_push _;rw [i] at h;have k:((w.alloc (.cells #[.slice BA n c] 24)).alloc (.cells #[.int .u8 0,.int .u8 0,.int .u8 0,.int .u32 0,.slice none 0 0,.string ⟨#[]⟩,.string ⟨#[]⟩] 45)).cell? ⟨w.heap.size,0,none⟩=some (.slice BA n c):=h.cell 1 rfl 0;have f:=Ub BA n c B h hn (fun _ _ q=>hb _ _ q.tail2);rw [hz] at f;replace f:=hid f;have l:¬ (z:Int)=0:=by omega
 clear hz hb hn h H hz0;go_enter Tryz.func73,Tryz.ntmps73
 go_wp2_with fail
 refine f.out.mono ?_;rintro _ b ⟨rfl,a⟩;clear f i k;obtain⟨d,g⟩:=exq (w.heap.size+1);rw [g] at a;rw [g];clear g;generalize w.heap.size=gb at a ⊢;have m:b.cell? ⟨d,0,none⟩=some (.int .u8 0):=a.cell 0 rfl 0;have o:b.frozen? ⟨d,0,none⟩=false:=a.frozen 0 rfl 0;have p:b.cell? ⟨d,1,none⟩=some (.int .u8 0):=a.cell 0 rfl 1;have r:b.frozen? ⟨d,1,none⟩=false:=a.frozen 0 rfl 1;have s:b.cell? ⟨d,2,none⟩=some (.int .u8 0):=a.cell 0 rfl 2;have t:b.frozen? ⟨d,2,none⟩=false:=a.frozen 0 rfl 2;have u:b.cell? ⟨d,3,none⟩=some (.int .u32 0):=a.cell 0 rfl 3;have v:b.frozen? ⟨d,3,none⟩=false:=a.frozen 0 rfl 3;have x:b.cell? ⟨d,4,none⟩=some (.slice none 0 0):=a.cell 0 rfl 4;have y:b.frozen? ⟨d,4,none⟩=false:=a.frozen 0 rfl 4;have A:b.cell? ⟨d,5,none⟩=some (.string ⟨#[]⟩):=a.cell 0 rfl 5;have C:b.frozen? ⟨d,5,none⟩=false:=a.frozen 0 rfl 5;have D:b.cell? ⟨d,6,none⟩=some (.string ⟨#[]⟩):=a.cell 0 rfl 6;have E:b.frozen? ⟨d,6,none⟩=false:=a.frozen 0 rfl 6;go_wp2_with fail
 have j:=(((((((a.set 0 (.int .u8 0)).set 1 (.int .u8 0)).set 2 (.int .u8 0)).set 3 (.int .u32 0)).set 4 (.slice none 0 0)).set 5 (.string ⟨#[]⟩)).set 6 (.string ⟨#[]⟩));refine bodyPost_ret (WG rfl _ rfl (ZQ j 0 rfl) Tryz.isAgg45 Tryz.sizeOf45) rfl ?_;exact⟨rfl,j.tail2⟩
theorem UT (BA:Option Addr) (n c:Nat) (B:List UInt8) (most:Nat) (z:Nat) (hz:PG.begin_ B=z) (hz0:¬ z=0) (H:Sp w0 L w) (hb:Ent L fun w=>Byt w (.slice BA n c) B) (hn:n=B.length) :
  Calls Tryz.prog 44 #[.slice BA n c,.int .i64 most] w fun e w'=>e=.returned (.tuple #[.agg #[.int .u8 0,.int .u8 0,.int .u8 0,.int .u32 0,.slice none 0 0,.string ⟨#[]⟩,.string ⟨#[]⟩],.slice none 0 0,.int .i64 0,.int .i64 z])/\Sp w0 L w':=by
 have f:=H.newBk [.int .u8 0,.int .u8 0,.int .u8 0,.int .u32 0,.slice none 0 0,.string ⟨#[]⟩,.string ⟨#[]⟩] 45;have g:=hid (Uc BA n c B z hz hz0 f (fun _ _ q=>hb _ _ q.tail) hn);have A:¬ (z:Int)=0:=by omega
 clear hz hz0 hb hn f H;go_enter Tryz.func44,Tryz.ntmps44
 go_wp2_with fail
 refine g.out.mono ?_;rintro _ d ⟨rfl,a⟩;clear g;generalize w.heap.size=gr at a ⊢;have h:d.cell? ⟨gr,0,none⟩=some (.int .u8 0):=a.cell 0 rfl 0;have i:d.frozen? ⟨gr,0,none⟩=false:=a.frozen 0 rfl 0;have j:d.cell? ⟨gr,1,none⟩=some (.int .u8 0):=a.cell 0 rfl 1;have k:d.frozen? ⟨gr,1,none⟩=false:=a.frozen 0 rfl 1;have l:d.cell? ⟨gr,2,none⟩=some (.int .u8 0):=a.cell 0 rfl 2;have m:d.frozen? ⟨gr,2,none⟩=false:=a.frozen 0 rfl 2;have o:d.cell? ⟨gr,3,none⟩=some (.int .u32 0):=a.cell 0 rfl 3;have p:d.frozen? ⟨gr,3,none⟩=false:=a.frozen 0 rfl 3;have r:d.cell? ⟨gr,4,none⟩=some (.slice none 0 0):=a.cell 0 rfl 4;have s:d.frozen? ⟨gr,4,none⟩=false:=a.frozen 0 rfl 4;have t:d.cell? ⟨gr,5,none⟩=some (.string ⟨#[]⟩):=a.cell 0 rfl 5;have u:d.frozen? ⟨gr,5,none⟩=false:=a.frozen 0 rfl 5;have v:d.cell? ⟨gr,6,none⟩=some (.string ⟨#[]⟩):=a.cell 0 rfl 6;have x:d.frozen? ⟨gr,6,none⟩=false:=a.frozen 0 rfl 6;go_upto_region 4 with (fail)
 have b:=(((((((a.set 0 (.int .u8 0)).set 1 (.int .u8 0)).set 2 (.int .u8 0)).set 3 (.int .u32 0)).set 4 (.slice none 0 0)).set 5 (.string ⟨#[]⟩)).set 6 (.string ⟨#[]⟩));clear h j l o r t v i k m p s u x;generalize World.setCell _ _ _=w2 at b ⊢;have h:w2.cell? ⟨gr,0,none⟩=some (.int .u8 0):=b.cell 0 rfl 0;have i:w2.frozen? ⟨gr,0,none⟩=false:=b.frozen 0 rfl 0;have j:w2.cell? ⟨gr,1,none⟩=some (.int .u8 0):=b.cell 0 rfl 1;have k:w2.frozen? ⟨gr,1,none⟩=false:=b.frozen 0 rfl 1;have l:w2.cell? ⟨gr,2,none⟩=some (.int .u8 0):=b.cell 0 rfl 2;have m:w2.frozen? ⟨gr,2,none⟩=false:=b.frozen 0 rfl 2;have o:w2.cell? ⟨gr,3,none⟩=some (.int .u32 0):=b.cell 0 rfl 3;have p:w2.frozen? ⟨gr,3,none⟩=false:=b.frozen 0 rfl 3;have r:w2.cell? ⟨gr,4,none⟩=some (.slice none 0 0):=b.cell 0 rfl 4;have s:w2.frozen? ⟨gr,4,none⟩=false:=b.frozen 0 rfl 4;have t:w2.cell? ⟨gr,5,none⟩=some (.string ⟨#[]⟩):=b.cell 0 rfl 5;have u:w2.frozen? ⟨gr,5,none⟩=false:=b.frozen 0 rfl 5;have v:w2.cell? ⟨gr,6,none⟩=some (.string ⟨#[]⟩):=b.cell 0 rfl 6;have x:w2.frozen? ⟨gr,6,none⟩=false:=b.frozen 0 rfl 6;go_wp2_with fail
 have y:=(((((((b.set 0 (.int .u8 0)).set 1 (.int .u8 0)).set 2 (.int .u8 0)).set 3 (.int .u32 0)).set 4 (.slice none 0 0)).set 5 (.string ⟨#[]⟩)).set 6 (.string ⟨#[]⟩));refine bodyPost_ret (WH rfl _ rfl (ZQ y 0 rfl) Tryz.isAgg45 Tryz.sizeOf45) rfl ?_;exact⟨rfl,y.tail⟩
theorem W6 {DL DF:Option Addr} {dl df:Nat} (H:Sp w0 L w) (hct:Ent L CrcTab) (hD:Ent L (DTabs DL DF dl df)) :
  Calls Tryz.prog 22 #[] w fun e w'=>e=.returned (.bool true)/\Sp w0 L w':=by
 have b:=Ua pg0 none 0 0 none 0 0 H rfl TX (by decide) (fun _ w _=>Byt.nil w) hct hD [] rfl (by decide) (Nat.le_refl _) (by decide) (fun _ w _=>Byt.nil w);rw [US] at b;have f:Hid (Calls Tryz.prog 18 #[.agg #[.int .u8 0,.int .u8 0,.int .u8 0,.int .u32 0,.slice none 0 0,.string ⟨#[]⟩,.string ⟨#[]⟩],.slice none 0 0] w fun e w'=>∃v,e=.returned (.tuple #[v,.int .i64 0])/\Sp w0 (Row 5 1 v 20 (cells8 [31,139,8,0,0,0,0,0,0,0,3,0,0,0,0,0,0,0,0,0])::L) w'):=hid b;clear b hct hD H;go_enter Tryz.func22,Tryz.ntmps22
 go_wp2_with fail
 refine f.out.mono ?_;rintro _ n ⟨s,rfl,c⟩;clear f;obtain⟨g,h,rfl,_,_⟩:=Row.form c 0 rfl;have i:=c.newBk [.int .u8 31,.int .u8 140] 5;have j:=UT (some ⟨n.heap.size,0,none⟩) 2 2 [31,140] 9 5 (by decide) (by decide) i (fun _ _ q=>⟨_,2,rfl,Rd.of_blk (q.blk 0 rfl),Nat.le_refl _,by decide⟩) rfl;have k:=hid j;clear j c i;go_wp2_with fail
 refine k.out.mono ?_;intro t o p;obtain⟨rfl,l⟩:_/\_:=p;clear k;have m:=hid l.tail;have d:=m.out.newBk [.int .u8 0,.int .u8 0,.int .u8 0,.int .u32 0,.slice none 0 0,.string ⟨#[]⟩,.string ⟨#[]⟩] 45;have a:Byt (o.alloc (.cells #[.int .u8 0,.int .u8 0,.int .u8 0,.int .u32 0,.slice none 0 0,.string ⟨#[]⟩,.string ⟨#[]⟩] 45)) (.slice g 20 h) [31,139,8,0,0,0,0,0,0,0,3,0,0,0,0,0,0,0,0,0]:=d.row_byt 1 rfl;have rs:=run_str (P:=Tryz.prog) _ 24 9 5 (.slice g 20 h) _ Tryz.underlying24 Tryz.underlying5 Tryz.underlying9 a
 have u:(strOf [31,139,8,0,0,0,0,0,0,0,3,0,0,0,0,0,0,0,0,0]).toList=[31,139,8,0,0,0,0,0,0,0,3,0,0,0,0,0,0,0,0,0]:=Zt _;have r:=hid (d.pick 2 []);clear a d l m;go_wp2_with fail
 go_ret;exact⟨rfl,r.out⟩
end Go.Proofs.YteajimobgkempaaGreatDoor

