/- A pack. -/
import Derived.Test.YtnjpnmpemhldcaaGreatDoorPk36
set_option linter.all false
set_option maxRecDepth 100000
set_option maxHeartbeats 8000000
namespace Go.Proofs.YtnjpnmpemhldcaaGreatDoor
variable {w0 w:World} {L:List Pr}
open Go.RowKit
namespace PD
theorem defl_le2 (b:List UInt8) (h:b.length<=10000):(defl b).length<=72000:=by
 have a:=stD_le (PM.Cut b 64) b (defl_mays b) (many (PM.Cut b 64));have c:(PM.Cut b 64).length<=b.length:=PM.cut_length b 64 0;have d:many (PM.Cut b 64)<=20:=by unfold many; omega
 rw [defl_len];unfold deflN bitsD;omega
end PD
theorem Wl (h:PG.Hd) (ho:PG.Ok h):(PG.lay h).length<=200000:=by
 obtain⟨_,c,_,a,b⟩:=ho;have a:=a.1;have b:=b.1;have d:(PG.exW h).length<=65537:=by unfold PG.exW; split; rw [List.length_append,PG.low_len]; omega; simp
 have e:(PG.txW h.flags 8 h.name).length<=65536:=by unfold PG.txW; split; rw [List.length_append,List.length_singleton]; omega; simp
 have f:(PG.txW h.flags 16 h.note).length<=65536:=by unfold PG.txW; split; rw [List.length_append,List.length_singleton]; omega; simp
 have g:(PG.suW h.flags (PG.lay0 h)).length<=2:=by unfold PG.suW; split; rw [PG.low_len]; exact Nat.le_refl _; simp
 unfold PG.lay;rw [List.length_append];have i:(PG.lay0 h).length<=10+65537+65536+65536:=by
  unfold PG.lay0;simp only [List.length_append,PG.low_len,List.length_cons,List.length_nil];omega
 omega
theorem UB (h:PG.Hd) (B0:Option Addr) (n c:Nat) (BA:Option Addr) (nb cb:Nat) (H:Sp w0 L w) (hn:n=h.extra.length) (hm1:h.name.length<=maxLen) (hm2:h.note.length<=maxLen) (hno:¬ PG.Ok h) :
  Calls Tryz.prog 9 #[.agg (hdV h (.slice B0 n c)).toArray,.slice BA nb cb] w fun e w'=>e=.returned (.tuple #[.slice none 0 0,.int .i64 1])/\Sp w0 L w':=by
 have b:decide (PG.Ok h)=false:=decide_eq_false hno;have a:=H.newBk [.int .u8 h.flags.toNat,.int .u8 h.level.toNat,.int .u8 h.system.toNat,.int .u32 h.time,.slice B0 n c,.string (strOf h.name),.string (strOf h.note)] 28;have i:(w.alloc (.cells #[.int .u8 h.flags.toNat,.int .u8 h.level.toNat,.int .u8 h.system.toNat,.int .u32 h.time,.slice B0 n c,.string (strOf h.name),.string (strOf h.note)] 28)).cell? ⟨w.heap.size,0,none⟩=some (.int .u8 h.flags.toNat):=a.cell 0 rfl 0;have j:(w.alloc (.cells #[.int .u8 h.flags.toNat,.int .u8 h.level.toNat,.int .u8 h.system.toNat,.int .u32 h.time,.slice B0 n c,.string (strOf h.name),.string (strOf h.note)] 28)).cell? ⟨w.heap.size,1,none⟩=some (.int .u8 h.level.toNat):=a.cell 0 rfl 1;have k:(w.alloc (.cells #[.int .u8 h.flags.toNat,.int .u8 h.level.toNat,.int .u8 h.system.toNat,.int .u32 h.time,.slice B0 n c,.string (strOf h.name),.string (strOf h.note)] 28)).cell? ⟨w.heap.size,2,none⟩=some (.int .u8 h.system.toNat):=a.cell 0 rfl 2;have l:(w.alloc (.cells #[.int .u8 h.flags.toNat,.int .u8 h.level.toNat,.int .u8 h.system.toNat,.int .u32 h.time,.slice B0 n c,.string (strOf h.name),.string (strOf h.note)] 28)).cell? ⟨w.heap.size,3,none⟩=some (.int .u32 h.time):=a.cell 0 rfl 3;have m:(w.alloc (.cells #[.int .u8 h.flags.toNat,.int .u8 h.level.toNat,.int .u8 h.system.toNat,.int .u32 h.time,.slice B0 n c,.string (strOf h.name),.string (strOf h.note)] 28)).cell? ⟨w.heap.size,4,none⟩=some (.slice B0 n c):=a.cell 0 rfl 4;have o:(w.alloc (.cells #[.int .u8 h.flags.toNat,.int .u8 h.level.toNat,.int .u8 h.system.toNat,.int .u32 h.time,.slice B0 n c,.string (strOf h.name),.string (strOf h.note)] 28)).cell? ⟨w.heap.size,5,none⟩=some (.string (strOf h.name)):=a.cell 0 rfl 5;have p:(w.alloc (.cells #[.int .u8 h.flags.toNat,.int .u8 h.level.toNat,.int .u8 h.system.toNat,.int .u32 h.time,.slice B0 n c,.string (strOf h.name),.string (strOf h.note)] 28)).cell? ⟨w.heap.size,6,none⟩=some (.string (strOf h.note)):=a.cell 0 rfl 6;have f:=hid (Y8 h B0 n c hn a hm1 hm2);clear a hn hm1 hm2 hno;unfold hdV;go_enter Tryz.func9,Tryz.ntmps9
 go_wp2_with fail
 refine f.out.mono ?_;rintro _ w1 ⟨rfl,d⟩;clear f i j k l m o p;generalize w.heap.size=g at d ⊢;have d:Sp w0 (Bk g 28 (hdV h (.slice B0 n c))::L) w1:=d;rw [b];clear b;go_wp2_with fail
 go_ret2;exact⟨rfl,d.tail⟩
theorem VP (h:PG.Hd) (B0:Option Addr) (n c:Nat) (BA:Option Addr) (nb cb:Nat) (H:Sp w0 L w) (hn:n=h.extra.length) (hok:PG.Ok h) (hnb:16777216<nb) :
  Calls Tryz.prog 9 #[.agg (hdV h (.slice B0 n c)).toArray,.slice BA nb cb] w fun e w'=>e=.returned (.tuple #[.slice none 0 0,.int .i64 3])/\Sp w0 L w':=by
 have d:h.name.length<=maxLen:=by have:=hok.2.2.2.1.1; unfold maxLen; omega
 have f:h.note.length<=maxLen:=by have:=hok.2.2.2.2.1; unfold maxLen; omega
 have b:decide (PG.Ok h)=true:=decide_eq_true hok;have s:(nb:Int) > 16777216:=by omega
 have a:=H.newBk [.int .u8 h.flags.toNat,.int .u8 h.level.toNat,.int .u8 h.system.toNat,.int .u32 h.time,.slice B0 n c,.string (strOf h.name),.string (strOf h.note)] 28;have k:(w.alloc (.cells #[.int .u8 h.flags.toNat,.int .u8 h.level.toNat,.int .u8 h.system.toNat,.int .u32 h.time,.slice B0 n c,.string (strOf h.name),.string (strOf h.note)] 28)).cell? ⟨w.heap.size,0,none⟩=some (.int .u8 h.flags.toNat):=a.cell 0 rfl 0;have l:(w.alloc (.cells #[.int .u8 h.flags.toNat,.int .u8 h.level.toNat,.int .u8 h.system.toNat,.int .u32 h.time,.slice B0 n c,.string (strOf h.name),.string (strOf h.note)] 28)).cell? ⟨w.heap.size,1,none⟩=some (.int .u8 h.level.toNat):=a.cell 0 rfl 1;have m:(w.alloc (.cells #[.int .u8 h.flags.toNat,.int .u8 h.level.toNat,.int .u8 h.system.toNat,.int .u32 h.time,.slice B0 n c,.string (strOf h.name),.string (strOf h.note)] 28)).cell? ⟨w.heap.size,2,none⟩=some (.int .u8 h.system.toNat):=a.cell 0 rfl 2;have o:(w.alloc (.cells #[.int .u8 h.flags.toNat,.int .u8 h.level.toNat,.int .u8 h.system.toNat,.int .u32 h.time,.slice B0 n c,.string (strOf h.name),.string (strOf h.note)] 28)).cell? ⟨w.heap.size,3,none⟩=some (.int .u32 h.time):=a.cell 0 rfl 3;have p:(w.alloc (.cells #[.int .u8 h.flags.toNat,.int .u8 h.level.toNat,.int .u8 h.system.toNat,.int .u32 h.time,.slice B0 n c,.string (strOf h.name),.string (strOf h.note)] 28)).cell? ⟨w.heap.size,4,none⟩=some (.slice B0 n c):=a.cell 0 rfl 4;have q:(w.alloc (.cells #[.int .u8 h.flags.toNat,.int .u8 h.level.toNat,.int .u8 h.system.toNat,.int .u32 h.time,.slice B0 n c,.string (strOf h.name),.string (strOf h.note)] 28)).cell? ⟨w.heap.size,5,none⟩=some (.string (strOf h.name)):=a.cell 0 rfl 5;have r:(w.alloc (.cells #[.int .u8 h.flags.toNat,.int .u8 h.level.toNat,.int .u8 h.system.toNat,.int .u32 h.time,.slice B0 n c,.string (strOf h.name),.string (strOf h.note)] 28)).cell? ⟨w.heap.size,6,none⟩=some (.string (strOf h.note)):=a.cell 0 rfl 6;have j:=hid (Y8 h B0 n c hn a d f);clear a hn d f hok;unfold hdV;go_enter Tryz.func9,Tryz.ntmps9
 go_wp2_with fail
 refine j.out.mono ?_;rintro _ w1 ⟨rfl,i⟩;clear j k l m o p q r;generalize w.heap.size=g at i ⊢;have i:Sp w0 (Bk g 28 (hdV h (.slice B0 n c))::L) w1:=i;rw [b];clear b;go_wp2_with fail
 go_ret2;exact⟨rfl,i.tail⟩
theorem VQ (h:PG.Hd) (B0:Option Addr) (n c:Nat) (BA:Option Addr) (nb cb:Nat) (H:Sp w0 L w) (hn:n=h.extra.length) (hok:PG.Ok h) (ht:h.time<4294967296) (hbx:Ent L fun w=>Byt w (.slice B0 n c) h.extra) (hct:Ent L CrcTab) {TL TF:Option Addr} {cl cf:Nat} (hT:Ent L (DTabs TL TF cl cf)) (b:List UInt8) (hnb:nb=b.length) (hnm:nb<=10000) (hcb:nb<=cb) (hcm:cb<=maxLen) (hb:Ent L fun w=>Byt w (.slice BA nb cb) b) :
  Calls Tryz.prog 9 #[.agg (hdV h (.slice B0 n c)).toArray,.slice BA nb cb] w fun e w'=>∃v,e=.returned (.tuple #[v,.int .i64 0])/\Sp w0 (Row 5 1 v (PG.put h b).length (cells8 (PG.put h b))::L) w':=by
 have r:h.name.length<=maxLen:=by have:=hok.2.2.2.1.1; unfold maxLen; omega
 have s:h.note.length<=maxLen:=by have:=hok.2.2.2.2.1; unfold maxLen; omega
 have j:decide (PG.Ok h)=true:=decide_eq_true hok;have y1:¬ (nb:Int) > 16777216:=by omega
 have HT:=hid ht;have t:=hid hct;have O:=hid hbx;have Q:=hid hT;have d:=hid hnb;have HB:=hid hb;have f:=hid hok;have HN:=hid hn.symm;have R:=hid hcb;have S:=hid hcm;have i:=H.newBk [.int .u8 h.flags.toNat,.int .u8 h.level.toNat,.int .u8 h.system.toNat,.int .u32 h.time,.slice B0 n c,.string (strOf h.name),.string (strOf h.note)] 28;have T:(w.alloc (.cells #[.int .u8 h.flags.toNat,.int .u8 h.level.toNat,.int .u8 h.system.toNat,.int .u32 h.time,.slice B0 n c,.string (strOf h.name),.string (strOf h.note)] 28)).cell? ⟨w.heap.size,0,none⟩=some (.int .u8 h.flags.toNat):=i.cell 0 rfl 0;have U:(w.alloc (.cells #[.int .u8 h.flags.toNat,.int .u8 h.level.toNat,.int .u8 h.system.toNat,.int .u32 h.time,.slice B0 n c,.string (strOf h.name),.string (strOf h.note)] 28)).cell? ⟨w.heap.size,1,none⟩=some (.int .u8 h.level.toNat):=i.cell 0 rfl 1;have V:(w.alloc (.cells #[.int .u8 h.flags.toNat,.int .u8 h.level.toNat,.int .u8 h.system.toNat,.int .u32 h.time,.slice B0 n c,.string (strOf h.name),.string (strOf h.note)] 28)).cell? ⟨w.heap.size,2,none⟩=some (.int .u8 h.system.toNat):=i.cell 0 rfl 2;have W:(w.alloc (.cells #[.int .u8 h.flags.toNat,.int .u8 h.level.toNat,.int .u8 h.system.toNat,.int .u32 h.time,.slice B0 n c,.string (strOf h.name),.string (strOf h.note)] 28)).cell? ⟨w.heap.size,3,none⟩=some (.int .u32 h.time):=i.cell 0 rfl 3;have X:(w.alloc (.cells #[.int .u8 h.flags.toNat,.int .u8 h.level.toNat,.int .u8 h.system.toNat,.int .u32 h.time,.slice B0 n c,.string (strOf h.name),.string (strOf h.note)] 28)).cell? ⟨w.heap.size,4,none⟩=some (.slice B0 n c):=i.cell 0 rfl 4;have Z:(w.alloc (.cells #[.int .u8 h.flags.toNat,.int .u8 h.level.toNat,.int .u8 h.system.toNat,.int .u32 h.time,.slice B0 n c,.string (strOf h.name),.string (strOf h.note)] 28)).cell? ⟨w.heap.size,5,none⟩=some (.string (strOf h.name)):=i.cell 0 rfl 5;have c6:(w.alloc (.cells #[.int .u8 h.flags.toNat,.int .u8 h.level.toNat,.int .u8 h.system.toNat,.int .u32 h.time,.slice B0 n c,.string (strOf h.name),.string (strOf h.note)] 28)).cell? ⟨w.heap.size,6,none⟩=some (.string (strOf h.note)):=i.cell 0 rfl 6;have HM:=hid (Y8 h B0 n c hn i r s);clear i hok hcm hcb hct hbx hT hnb hb H ht r s hn;unfold hdV;go_enter Tryz.func9,Tryz.ntmps9
 go_wp2_with fail
 refine HM.out.mono ?_;rintro _ w1 ⟨rfl,u⟩;clear HM T U V W X Z c6;generalize w.heap.size=g at u ⊢;have u:Sp w0 (Bk g 28 (hdV h (.slice B0 n c))::L) w1:=u;rw [j];clear j;have G:=hid (Tz BA nb cb b u (fun _ _ q=>Q.out _ _ q.tail) d.out (by omega) R.out S.out (fun _ _ q=>HB.out _ _ q.tail));have x:=PD.defl_le2 b (by rw [<- d.out]; exact hnm);obtain⟨P,hP⟩:=exq (PD.defl b);rw [hP] at G x;have HP:=hid hP;obtain⟨I,k⟩:=exq P.length;rw [k] at G x;have y:=hid k;clear hP k;go_wp2_with fail
 refine G.out.mono ?_;rintro _ l ⟨v2,rfl,a⟩;obtain⟨A2,d2,rfl,_,_⟩:=Row.form a 0 rfl;clear G u;have T:l.cell? ⟨g,0,none⟩=some (.int .u8 h.flags.toNat):=a.cell 1 rfl 0;have U:l.cell? ⟨g,1,none⟩=some (.int .u8 h.level.toNat):=a.cell 1 rfl 1;have V:l.cell? ⟨g,2,none⟩=some (.int .u8 h.system.toNat):=a.cell 1 rfl 2;have W:l.cell? ⟨g,3,none⟩=some (.int .u32 h.time):=a.cell 1 rfl 3;have X:l.cell? ⟨g,4,none⟩=some (.slice B0 n c):=a.cell 1 rfl 4;have Z:l.cell? ⟨g,5,none⟩=some (.string (strOf h.name)):=a.cell 1 rfl 5;have c6:l.cell? ⟨g,6,none⟩=some (.string (strOf h.note)):=a.cell 1 rfl 6;have J:=hid (Tb h B0 n c a HN.out (fun _ _ q=>O.out _ _ q.tail2) HT.out (fun _ _ q=>t.out _ _ q.tail2) (by have:=f.out.2.1; rw [HN.out] at this; exact this) f.out.2.2.2.1.1 f.out.2.2.2.2.1);have A:=Wl h f.out;obtain⟨Y,hY⟩:=exq (PG.lay h);rw [hY] at J A;have HY:=hid hY;obtain⟨K,m⟩:=exq Y.length;rw [m] at J A;have B:=hid m;clear hY m;go_wp2_with fail
 refine J.out.mono ?_;rintro _ w3 ⟨v3,rfl,M⟩;obtain⟨A3,d3,rfl,_,_⟩:=Row.form M 0 rfl;clear J a T U V W X Z c6;have o:=M.newBk [.slice BA nb cb] 23;have C:=hid (Xa o 0 rfl (HB.out _ _ (o.pick 4 [])) (t.out _ _ (o.pick 4 [])) (by rw [<- d.out]; omega));clear o;have K9:=M;clear M;go_wp2_with fail
 refine C.out.mono ?_;rintro _ w4 ⟨rfl,o⟩;clear C K9;have D:=PCrc.of_lt b;obtain⟨z,N⟩:=exq (PCrc.of b);rw [N] at D;rw [N];have HZ:=hid N;clear N;have E:=hid (Yu z 4 D (by decide) (o.pick 3 [1,2]));clear o;go_wp2_with fail
 refine E.out.mono ?_;rintro _ w5 ⟨v5,rfl,K5⟩;obtain⟨A5,d5,rfl,_,_⟩:=Row.form K5 0 rfl;clear E;have E:=hid (Yu nb 4 (by omega) (by decide) K5);clear K5;go_wp2_with fail
 refine E.out.mono ?_;rintro _ w6 ⟨v6,rfl,K6⟩;obtain⟨A6,d6,rfl,_,_⟩:=Row.form K6 0 rfl;clear E;have K7:=K6.newBk [.slice A3 K d3,.slice A2 I d2,.slice A5 4 d5,.slice A6 4 d6] 23;have F:=hid (Wx ⟨w6.heap.size,0,none⟩ 4 4 [⟨A3,K,d3,cells8 Y⟩,⟨A2,I,d2,cells8 P⟩,⟨A5,4,d5,cells8 (PG.low z 4)⟩,⟨A6,4,d6,cells8 (PG.low nb 4)⟩] K7 rfl (fun _ _ q=>Rd.of_blk (q.blk 0 rfl)) (by
  intro q p;rcases List.mem_cons.1 p with rfl | p
  ·exact⟨by rw [Zp,B.out],fun _ _ q=>rowRd q 3 rfl,Zg _⟩
  rcases List.mem_cons.1 p with rfl | p
  ·exact⟨by rw [Zp,y.out],fun _ _ q=>rowRd q 4 rfl,Zg _⟩
  rcases List.mem_cons.1 p with rfl | p
  ·exact⟨by rw [Zp,PG.low_len],fun _ _ q=>rowRd q 2 rfl,Zg _⟩
  rw [List.mem_singleton.1 p];exact⟨by rw [Zp,PG.low_len],fun _ _ q=>rowRd q 1 rfl,Zg _⟩) (by show K+(I+(4+(4+0)))<=1000000; omega) (by decide))
 clear K6 K7;go_wp2_with fail
 refine F.out.mono ?_;rintro _ w7 ⟨v7,rfl,K8⟩;clear F;have e1:PG.put h b=Y++(P++(PG.low z 4++PG.low nb 4)):=by
  unfold PG.put PG.tailW;rw [HY.out,HP.out,HZ.out,<- d.out]
 have KZ:Hid (Sp w0 (Row 5 1 v7 (PG.put h b).length (cells8 (PG.put h b))::L) w7):=by
  have e2:(PG.put h b).length=K+(I+(4+(4+0))):=by
   rw [e1]; simp only [List.length_append,PG.low_len,B.out,y.out]
  have e3:cells8 (PG.put h b)=cells8 Y++(cells8 P++(cells8 (PG.low z 4)++(cells8 (PG.low nb 4)++[]))):=by
   rw [e1,Zf,Zf,Zf,List.append_nil]
  rw [e2,e3];exact hid (K8.pick 7 [0])
 clear K8 e1;go_wp2_with fail
 go_ret2;exact⟨_,rfl,KZ.out⟩
namespace PG
def beg3 (B:List UInt8):Nat:=if B.length<=3 then 4 else if 32<=(B.getD 3 0).toNat then 5 else 0
def beg2 (B:List UInt8):Nat:=if B.length<=2 then 4 else if B.getD 2 0≠8 then 5 else beg3 B
def beg1 (B:List UInt8):Nat:=if B.length<=1 then 4 else if B.getD 1 0≠139 then 5 else beg2 B
def begF (B:List UInt8):Nat->Nat
 | 0=>begin_ B
 | 1=>beg1 B
 | 2=>beg2 B
 | 3=>beg3 B
 | _=>0
def mg (k:Nat):UInt8:=[31,139,8].getD k 0
theorem begF_short {B:List UInt8} {k:Nat} (hk:k<4) (h:B.length<=k):begF B k=4:=by
 have:k=0∨k=1∨k=2∨k=3:=by omega
 rcases this with rfl | rfl | rfl | rfl
 ·show begin_ B=4; unfold begin_; rw [if_pos h]
 ·show beg1 B=4; unfold beg1; rw [if_pos h]
 ·show beg2 B=4; unfold beg2; rw [if_pos h]
 ·show beg3 B=4; unfold beg3; rw [if_pos h]
theorem begF_bad {B:List UInt8} {k:Nat} (hk:k<3) (h:¬ B.length<=k) (hb:B.getD k 0≠mg k):begF B k=5:=by
 have:k=0∨k=1∨k=2:=by omega
 rcases this with rfl | rfl | rfl
 ·replace hb:B.getD 0 0≠31:=hb;show begin_ B=5; unfold begin_; rw [if_neg h,if_pos hb]
 ·replace hb:B.getD 1 0≠139:=hb;show beg1 B=5; unfold beg1; rw [if_neg h,if_pos hb]
 ·replace hb:B.getD 2 0≠8:=hb;show beg2 B=5; unfold beg2; rw [if_neg h,if_pos hb]
theorem begF_next {B:List UInt8} {k:Nat} (hk:k<3) (h:¬ B.length<=k) (hb:B.getD k 0=mg k):begF B k=begF B (k+1):=by
 have:k=0∨k=1∨k=2:=by omega
 rcases this with rfl | rfl | rfl
 ·show begin_ B=beg1 B; unfold begin_ beg1 beg2 beg3; rw [if_neg h,if_neg (fun q=>q hb)]
 ·show beg1 B=beg2 B; rw [beg1,if_neg h,if_neg (fun q=>q hb)]
 ·show beg2 B=beg3 B; rw [beg2,if_neg h,if_neg (fun q=>q hb)]
end PG
theorem VS (BA:Option Addr) (n c:Nat) (B:List UInt8) (H:Sp w0 L w) (hn:n=B.length) (hb:Ent L fun w=>Byt w (.slice BA n c) B) :
  Calls Tryz.prog 61 #[.slice BA n c] w fun e w'=>e=.returned (.int .i64 (PG.begin_ B:Int))/\Sp w0 L w':=by
 obtain⟨T,v⟩:=exq (PG.begin_ B);rw [v];have d:Hid (PG.begF B 0=T):=hid v;have s:=hid hn.symm;have G:=hid hb;clear v hn hb;go_enter Tryz.func61,Tryz.ntmps61
 go_wp2_with fail
 go_loopw [4] (fun kv wr=>∃k:Nat,kv=.int .i64 k/\k<=4/\Hid (PG.begF B k=T)/\Sp w0 L wr) (fun kv _=>4 - (intOf kv).toNat)
 case atStart=>exact⟨0,rfl,by decide,d,H⟩
 case round =>
  clear H d;obtain⟨k,rfl,M,d,H⟩:=hrel;by_cases y:k=4
  ·subst y;have f:T=0:=d.out.symm;have b:=hid f;clear f;go_wp2_with fail
   go_ret;exact⟨congrArg (fun t:Nat=>Ending.returned (.int .i64 t)) b.out.symm,H⟩
  ·have N:(k:Int)<4:=by omega
   by_cases u:n<=k
   ·have I:(k:Int)≥(n:Int):=by omega
    have f:T=4:=by rw [<- d.out]; exact PG.begF_short (by omega) (by rw [s.out]; exact u)
    have b:=hid f;clear f u y;go_wp2_with fail
    go_ret;exact⟨congrArg (fun t:Nat=>Ending.returned (.int .i64 t)) b.out.symm,H⟩
   ·have I:¬ (k:Int)≥(n:Int):=by omega
    have j:(k:Int)<(n:Int):=by omega
    obtain⟨x,z⟩:=exq (B.getD k 0);obtain⟨O,P,e,D,_,_⟩:=G.out _ _ H;injection e with e1 e2 e3
    subst e1 e3;clear e2;obtain⟨m,rfl,l⟩:=D.at8 (k:=k) (by rw [s.out]; omega);have o:k<B.length:=by rw [s.out]; omega
    have E:B[k]'o=x:=by rw [<- z,List.getD_eq_getElem?_getD,List.getElem?_eq_getElem o]; rfl
    rw [E] at l;clear E o;have A:=UInt8.toNat_lt x;have r : ¬ B.length<=k:=by rw [s.out]; exact u
    have g:=hid r;have h:=hid z;clear D z r u y;have C:k=0∨k=1∨k=2∨k=3:=by omega
    rcases C with rfl | rfl | rfl | rfl
    ·replace l:wr.cell? m=some (.int .u8 x.toNat):=by
      have:=l;rw [Addr.add] at this;exact this
     have J:0<n:=by omega
     have K:¬ n=0:=by omega
     have F:∀q,((⟨#[31,139,8]⟩:ByteArray)[0]'q).toNat=31:=fun _=>rfl;by_cases a:x=31
     ·have p:(x.toNat:Int)=31:=by rw [a]; rfl
      have i:Hid (PG.begF B 1=T):=by rw [<- PG.begF_next (by decide) g.out (by rw [h.out,a]; rfl),d.out]; exact hid rfl
      clear a d h g;go_wp2_with fail
      go_quiet (fail)
      go_wp2_with fail
      go_roundw
      case rel=>exact⟨1,by go_num,by decide,i,H.drewN _⟩
      case measure=>simp [intOf]
     ·have p:¬ (x.toNat:Int)=31:=fun q=>a (UInt8.toNat_inj.1 (by show x.toNat=31; omega));have f:T=5:=by rw [<- d.out]; exact PG.begF_bad (by decide) g.out (by rw [h.out]; exact a)
      have b:=hid f;clear f a d h g;go_wp2_with fail
      go_quiet (fail)
      go_wp2_with fail
      go_ret;exact⟨congrArg (fun t:Nat=>Ending.returned (.int .i64 t)) b.out.symm,H.drewN _⟩
    ·replace l:wr.cell? ⟨m.block,m.off+1,none⟩=some (.int .u8 x.toNat):=by
      have:=l;rw [Addr.add] at this;exact this
     replace j:(1:Int)<(n:Int):=j
     skip
     have F:∀q,((⟨#[31,139,8]⟩:ByteArray)[1]'q).toNat=139:=fun _=>rfl;by_cases a:x=139
     ·have p:(x.toNat:Int)=139:=by rw [a]; rfl
      have i:Hid (PG.begF B 2=T):=by rw [<- PG.begF_next (by decide) g.out (by rw [h.out,a]; rfl),d.out]; exact hid rfl
      clear a d h g;go_wp2_with fail
      go_quiet (fail)
      go_wp2_with fail
      go_roundw
      case rel=>exact⟨2,by go_num,by decide,i,H.drewN _⟩
      case measure=>simp [intOf]
     ·have p:¬ (x.toNat:Int)=139:=fun q=>a (UInt8.toNat_inj.1 (by show x.toNat=139; omega));have f:T=5:=by rw [<- d.out]; exact PG.begF_bad (by decide) g.out (by rw [h.out]; exact a)
      have b:=hid f;clear f a d h g;go_wp2_with fail
      go_quiet (fail)
      go_wp2_with fail
      go_ret;exact⟨congrArg (fun t:Nat=>Ending.returned (.int .i64 t)) b.out.symm,H.drewN _⟩
    ·replace l:wr.cell? ⟨m.block,m.off+2,none⟩=some (.int .u8 x.toNat):=by
      have:=l;rw [Addr.add] at this;exact this
     replace j:(2:Int)<(n:Int):=j
     skip
     have F:∀q,((⟨#[31,139,8]⟩:ByteArray)[2]'q).toNat=8:=fun _=>rfl;by_cases a:x=8
     ·have p:(x.toNat:Int)=8:=by rw [a]; rfl
      have i:Hid (PG.begF B 3=T):=by rw [<- PG.begF_next (by decide) g.out (by rw [h.out,a]; rfl),d.out]; exact hid rfl
      clear a d h g;go_wp2_with fail
      go_quiet (fail)
      go_wp2_with fail
      go_roundw
      case rel=>exact⟨3,by go_num,by decide,i,H.drewN _⟩
      case measure=>simp [intOf]
     ·have p:¬ (x.toNat:Int)=8:=fun q=>a (UInt8.toNat_inj.1 (by show x.toNat=8; omega));have f:T=5:=by rw [<- d.out]; exact PG.begF_bad (by decide) g.out (by rw [h.out]; exact a)
      have b:=hid f;clear f a d h g;go_wp2_with fail
      go_quiet (fail)
      go_wp2_with fail
      go_ret;exact⟨congrArg (fun t:Nat=>Ending.returned (.int .i64 t)) b.out.symm,H.drewN _⟩
    ·replace l:wr.cell? ⟨m.block,m.off+3,none⟩=some (.int .u8 x.toNat):=by
      have:=l;rw [Addr.add] at this;exact this
     replace j:(3:Int)<(n:Int):=j;by_cases a:32<=x.toNat
     ·have p:(x.toNat:Int)≥32:=by omega
      have f:T=5:=by rw [<- d.out]; show PG.beg3 B=5; unfold PG.beg3; rw [if_neg g.out,if_pos (by rw [h.out]; exact a)]
      have b:=hid f;clear f a d h g;go_wp2_with fail
      go_quiet (fail)
      go_wp2_with fail
      go_ret;exact⟨congrArg (fun t:Nat=>Ending.returned (.int .i64 t)) b.out.symm,H.drewN _⟩
     ·have p:¬ (x.toNat:Int)≥32:=by omega
      have i:Hid (PG.begF B 4=T):=by
       rw [<- d.out];show Hid (0=PG.beg3 B);unfold PG.beg3;rw [if_neg g.out,if_neg (by rw [h.out]; exact a)];exact hid rfl
      clear a d h g;go_wp2_with fail
      go_quiet (fail)
      go_wp2_with fail
      go_roundw
      case rel=>exact⟨4,by go_num,by decide,i,H.drewN _⟩
      case measure=>simp [intOf]
def Nx (BA:Option Addr) (n c:Nat) (B l:List UInt8) (v:Value):Pr:=fun h=>(∃a m,a+m<=n/\v=.slice (subZ BA c a 1) m (c - a)/\l=(B.drop a).take m)∨Row 5 1 v l.length (cells8 l) h
theorem Sp.orL {φ:Prop} {A:Pr} (H:Sp w0 L w) (h:φ):Sp w0 ((fun p=>φ∨A p)::L) w:=by
 obtain⟨a,c,d,own,e⟩:=H;refine⟨a,c,d,fun b=>own b+1,fun i C hi=>?_⟩
 match i with
 | 0 =>
  obtain rfl:(fun p=>φ∨A p)=C:=by simpa using hi
  exact .inl h
 | i+1=>exact cast (congrArg C (ZE fun b=>by omega)) (e i C (by simpa using hi))
theorem Sp.orR {φ:Prop} {A:Pr} (H:Sp w0 (A::L) w):Sp w0 ((fun p=>φ∨A p)::L) w:=H.imp fun _ h=>.inr h
theorem Sp.orE {φ:Prop} {A:Pr} (H:Sp w0 ((fun p=>φ∨A p)::L) w):φ∨Sp w0 (A::L) w:=by
 obtain⟨b,c,d,own,a⟩:=H;rcases a 0 _ rfl with h | h
 ·exact .inl h
 ·refine .inr ⟨b,c,d,own,fun i C hi=>?_⟩
  match i with
  | 0 =>
   obtain rfl:A=C:=by simpa using hi
   exact h
  | i+1=>exact a (i+1) C (by simpa using hi)
theorem Nx.byt {BA:Option Addr} {n c:Nat} {B l:List UInt8} {v:Value} (H:Sp w0 (Nx BA n c B l v::L) w) (hb:Ent L fun w=>Byt w (.slice BA n c) B):Byt w v l:=by
 have b:=hb _ _ H.tail;rcases Sp.orE H with ⟨a,m,h1,rfl,rfl⟩ | H
 ·have d:n=B.length:=by obtain⟨f,g,e,_⟩:=b; injection e
  exact(b.dropZ a (by omega)).take m (by rw [List.length_drop]; omega)
 ·exact H.row_byt 0 rfl
theorem ZO (B:List UInt8) (s:PG.S) (m:Nat) (h:s.at_<=B.length):(PG.next B s m).2.at_<=B.length:=by
 unfold PG.next;split
 ·exact h
 ·rename_i q
  show s.at_+m<=B.length;have:¬ B.length - s.at_<m:=fun k=>q (.inr k);omega
theorem Y3 (ga gs gb:Nat) (BA:Option Addr) (n c:Nat) (a many:Nat) (H:Sp w0 (Bk ga 3 [.int .i64 a]::Bk gs 4 [.bool false]::L) w) (hgb:Ent L fun w=>w.cell? ⟨gb,0,none⟩=some (.slice BA n c)) (ha:a<=n) (hle:¬ n - a<many) (hnm:n<=1000000000) (hcn:n<=c) :
  Calls Tryz.prog 62 #[.int .i64 many,.pointer (some ⟨gs,0,none⟩),.pointer (some ⟨gb,0,none⟩),.pointer (some ⟨ga,0,none⟩)] w fun e w'=>e=.returned (.slice (subZ BA c a 1) many (c - a))/\Sp w0 (Bk ga 3 [.int .i64 ((a+many:Nat):Int)]::Bk gs 4 [.bool false]::L) w':=by
 have p:w.cell? ⟨ga,0,none⟩=some (.int .i64 a):=H.cell 0 rfl 0;have q:w.cell? ⟨gs,0,none⟩=some (.bool false):=H.cell 1 rfl 0;have r:w.cell? ⟨gb,0,none⟩=some (.slice BA n c):=hgb _ _ H.tail2;have s:w.frozen? ⟨ga,0,none⟩=false:=H.frozen 0 rfl 0;have t:w.frozen? ⟨gs,0,none⟩=false:=H.frozen 1 rfl 0;have k:=hid hgb;clear hgb;obtain⟨b,d⟩:=exq (a+many);rw [d];have u:¬ (many:Int) > (n:Int) - (a:Int):=by omega
 have v:(a:Int)+(many:Int)=(b:Int):=by omega
 have x:(b:Int) - (many:Int)=(a:Int):=by omega
 have y:(a:Int)<=(b:Int):=by omega
 have z:(b:Int)<=(c:Int):=by omega
 have A:(a:Int)<=(c:Int):=by omega
 have g:b - a=many:=by omega
 have l:=hid g;have o:=hid d;have h:=(H.swap.set 0 (.bool false)).swap;have B:(w.setCell ⟨gs,0,none⟩ (.bool false)).cell? ⟨ga,0,none⟩=some (.int .i64 a):=h.cell 0 rfl 0;have C:(w.setCell ⟨gs,0,none⟩ (.bool false)).cell? ⟨gs,0,none⟩=some (.bool false):=h.cell 1 rfl 0;have D:(w.setCell ⟨gs,0,none⟩ (.bool false)).frozen? ⟨ga,0,none⟩=false:=h.frozen 0 rfl 0;have f:=h.set 0 (.int .i64 b);have E:((w.setCell ⟨gs,0,none⟩ (.bool false)).setCell ⟨ga,0,none⟩ (.int .i64 b)).cell? ⟨ga,0,none⟩=some (.int .i64 b):=f.cell 0 rfl 0;have F:((w.setCell ⟨gs,0,none⟩ (.bool false)).setCell ⟨ga,0,none⟩ (.int .i64 b)).cell? ⟨gb,0,none⟩=some (.slice BA n c):=k.out _ _ f.tail2;replace f:=hid f;clear h;clear hle g d;by_cases i:c=a
 ·subst i;have j:Value.slice (subZ BA c c 1) many (c - c)=.slice BA (b - c) 0:=by unfold subZ; rw [if_pos rfl,l.out,Nat.sub_self]
  rw [j];clear j;go_enter Tryz.func62,Tryz.ntmps62
  go_wp2_with fail
  go_ret;exact⟨rfl,f.out⟩
 ·have m:¬ (c:Int)=(a:Int):=by omega
  have j:Value.slice (subZ BA c a 1) many (c - a)=.slice (BA.map (·.add a)) (b - a) (c - a):=by unfold subZ; rw [if_neg i,l.out,Nat.mul_one]
  rw [j];clear j;go_enter Tryz.func62,Tryz.ntmps62
  go_wp2_with fail
  go_ret;exact⟨rfl,f.out⟩
theorem ZS (ga gs gb:Nat) (BA:Option Addr) (n c:Nat) (B:List UInt8) (s:PG.S) (many:Nat) (H:Sp w0 (Bk ga 3 [.int .i64 s.at_]::Bk gs 4 [.bool s.short]::L) w) (hgb:Ent L fun w=>w.cell? ⟨gb,0,none⟩=some (.slice BA n c)) (hn:B.length=n) (ha:s.at_<=n) (hm:many<=1000000000) (hnm:n<=1000000000) (hcn:n<=c) (hcm:c<=maxLen) :
  Calls Tryz.prog 62 #[.int .i64 many,.pointer (some ⟨gs,0,none⟩),.pointer (some ⟨gb,0,none⟩),.pointer (some ⟨ga,0,none⟩)] w fun e w'=>∃v,e=.returned v/\Sp w0 (Nx BA n c B (PG.next B s many).1 v::Bk ga 3 [.int .i64 ((PG.next B s many).2.at_:Int)]::Bk gs 4 [.bool (PG.next B s many).2.short]::L) w':=by
 obtain⟨a,j⟩:=s;simp only at H ha ⊢;have J:=hid H;have x:=hid hgb;obtain⟨D,E,l,m,o⟩:=info_parts info8;have O:w.cell? ⟨ga,0,none⟩=some (.int .i64 a):=H.cell 0 rfl 0;have P:w.cell? ⟨gs,0,none⟩=some (.bool j):=H.cell 1 rfl 0;have Q:w.cell? ⟨gb,0,none⟩=some (.slice BA n c):=hgb _ _ H.tail2;have R:w.frozen? ⟨ga,0,none⟩=false:=H.frozen 0 rfl 0;have S:w.frozen? ⟨gs,0,none⟩=false:=H.frozen 1 rfl 0;have F:=hid hn;have K:=hid hcm;obtain⟨r,y⟩:=exq (PG.next B ⟨a,j⟩ many);rw [y];have G:=hid y;have M:=hid hgb;clear y hn hcm hgb;by_cases b:j=true∨n - a<many
 ·have f:r=(List.replicate (min many 4) 0,⟨a,true⟩):=by
   rw [<- G.out];unfold PG.next;rw [if_pos (by rw [F.out]; exact b)]
  have p:=hid f;have k:=hid ((H.swap.set 0 (.bool true)).swap);obtain⟨d,t⟩:=exq (min many 4);have T:min (many:Int) 4=(d:Int):=by omega
  have I:d<=4:=by omega
  have g:=hid t;clear f t;cases j with
  | true =>
   clear b;go_enter Tryz.func62,Tryz.ntmps62
   go_wp2_with (at_make; refine Zk rfl _ _ _ rfl 5 D (.int .u8 0) Tryz.underlying23 E l m rfl d rfl rfl (by rw [o]; omega) (by unfold maxLen; omega) k.out ?_)
   intro z w3 u;have i:Sp w0 (Nx BA n c B r.1 (.slice (some z) d d)::Bk ga 3 [.int .i64 r.2.at_]::Bk gs 4 [.bool r.2.short]::L) w3:=by
    rw [p.out];refine Sp.orR ?_;have e:cells8 (List.replicate (min many 4) 0)=List.replicate d (.int .u8 0):=by rw [g.out]; unfold cells8; rw [List.map_replicate]; rfl
    rw [e,List.length_replicate,g.out];exact u
   replace i:=hid i;clear u k H;go_wp2_with fail
   go_ret;exact⟨_,rfl,i.out⟩
  | false =>
   have N:n - a<many:=by
    rcases b with h | h
    ·cases h
    ·exact h
   have U:(many:Int) > (n:Int) - (a:Int):=by omega
   clear b;go_enter Tryz.func62,Tryz.ntmps62
   go_wp2_with (at_make; refine Zk rfl _ _ _ rfl 5 D (.int .u8 0) Tryz.underlying23 E l m rfl d rfl rfl (by rw [o]; omega) (by unfold maxLen; omega) k.out ?_)
   intro z w3 u;have i:Sp w0 (Nx BA n c B r.1 (.slice (some z) d d)::Bk ga 3 [.int .i64 r.2.at_]::Bk gs 4 [.bool r.2.short]::L) w3:=by
    rw [p.out];refine Sp.orR ?_;have e:cells8 (List.replicate (min many 4) 0)=List.replicate d (.int .u8 0):=by rw [g.out]; unfold cells8; rw [List.map_replicate]; rfl
    rw [e,List.length_replicate,g.out];exact u
   replace i:=hid i;clear u k H;go_wp2_with fail
   go_ret;exact⟨_,rfl,i.out⟩
 ·have A:¬ n - a<many:=fun q=>b (.inr q);have C:j=false:=by cases j; rfl; exact absurd (.inl rfl) b
  subst C;have f:r=((B.drop a).take many,⟨a+many,false⟩):=by
   rw [<- G.out];unfold PG.next;rw [if_neg (by rw [F.out]; exact b)]
  refine(Y3 ga gs gb BA n c a many J.out x.out ha A hnm hcn).mono ?_;rintro _ V ⟨rfl,k⟩;refine⟨_,rfl,?_⟩;rw [f];exact Sp.orL k ⟨a,many,by omega,rfl,rfl⟩
theorem Yr (B:List UInt8) (s:PG.S) (m:Nat):(PG.next B s m).1.length<=m:=by
 unfold PG.next;split
 ·rw [List.length_replicate]; omega
 ·rw [List.length_take]; omega
theorem XK (B:List UInt8) (s:PG.S) (m:Nat) (h:s.at_<=B.length) (hm:m<=4):(PG.next B s m).1.length=m:=by
 unfold PG.next;split
 ·rw [List.length_replicate]; omega
 ·rename_i q
  have:¬ B.length - s.at_<m:=fun k=>q (.inr k);rw [List.length_take,List.length_drop]; omega
theorem YH (B:List UInt8) (s:PG.S) (m:Nat) (h:s.short=true∨B.length - s.at_<m):PG.next B s m=(List.replicate (min m 4) 0,⟨s.at_,true⟩):=by unfold PG.next; rw [if_pos h]
theorem VT (B:List UInt8) (a m:Nat) (h:¬ B.length - a<m):PG.next B ⟨a,false⟩ m=((B.drop a).take m,⟨a+m,false⟩):=by
 unfold PG.next;rw [if_neg (by rintro(q | q); cases q; exact h q)]
def Dead (ga gs n a m:Nat):Pr:=Ex fun b:{ b:Bool // b=true∨n - a<m }=>Star (Bk ga 3 [.int .i64 a]) (Bk gs 4 [.bool b.1])
theorem Y4 (ga gs gb:Nat) (BA:Option Addr) (n c:Nat) (B:List UInt8) (a many:Nat) (H:Sp w0 (Dead ga gs n a many::L) w) (hgb:Ent L fun w=>w.cell? ⟨gb,0,none⟩=some (.slice BA n c)) (hn:B.length=n) (ha:a<=n) (hm:many<=1000000000) (hnm:n<=1000000000) (hcn:n<=c) (hcm:c<=maxLen) :
  Calls Tryz.prog 62 #[.int .i64 many,.pointer (some ⟨gs,0,none⟩),.pointer (some ⟨gb,0,none⟩),.pointer (some ⟨ga,0,none⟩)] w fun e w'=>∃v,e=.returned v/\Sp w0 (Nx BA n c B (List.replicate (min many 4) 0) v::Bk ga 3 [.int .i64 a]::Bk gs 4 [.bool true]::L) w':=by
 obtain⟨⟨b,d⟩,H⟩:=H.unex;have h:=ZS ga gs gb BA n c B ⟨a,b⟩ many H.unstar hgb hn ha hm hnm hcn hcm;rw [YH B ⟨a,b⟩ many (by rw [hn]; exact d)] at h;exact h
theorem Dead.shut {ga gs n a m:Nat} {b:Bool} (h:b=true∨n - a<m) (H:Sp w0 (Bk ga 3 [.int .i64 a]::Bk gs 4 [.bool b]::L) w):Sp w0 (Dead ga gs n a m::L) w:=H.star.ex (⟨b,h⟩:{ b:Bool // b=true∨n - a<m })
theorem Nx.form {BA:Option Addr} {n c:Nat} {B l:List UInt8} {v:Value} (H:Sp w0 (Nx BA n c B l v::L) w) (hb:Ent L fun w=>Byt w (.slice BA n c) B):∃A d,v=.slice A l.length d/\l.length<=d/\d<=maxLen/\Rd w A (cells8 l):=by
 obtain⟨A,d,e,a,b,f⟩:=Nx.byt H hb;exact⟨A,d,e,b,f,a⟩
end Go.Proofs.YtnjpnmpemhldcaaGreatDoor

