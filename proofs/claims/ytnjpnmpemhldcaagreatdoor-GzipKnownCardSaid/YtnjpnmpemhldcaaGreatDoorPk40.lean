/- A pack. -/
import Derived.Test.YtnjpnmpemhldcaaGreatDoorPk23
set_option linter.all false
set_option maxRecDepth 100000
set_option maxHeartbeats 8000000
namespace Go.Proofs.YtnjpnmpemhldcaaGreatDoor
variable {w0 w:World} {L:List Pr}
open Go.RowKit
def pan (e:Nat):List PanicEntry:=[{ v:=.iface 32 (.int .i64 e),recovered:=false }]
def XpB (gx gr:Nat) (vo:Value) (most:Nat) (vb:Value):Pr:=Bk gx 128 [.pointer (some ⟨gr,0,none⟩),vo,.int .i64 most,vb]
namespace PI
theorem numAt_peek (l:List UInt8) (a k:Nat) (h:a+k<=8 * l.length):numAt (PBits.ofB l) a k=PBits.peek l a k:=by
 unfold numAt PBits.peek;rw [PBits.num_mid _ _ _ (by rw [PBits.ofB_length]; exact h),PBits.num_ofB]
theorem numAt_small (B:List Bool) (a k K:Nat) (h:k<=K):numAt B a k<2 ^ K:=Nat.lt_of_lt_of_le (numAt_lt B a k) (Nat.pow_le_pow_right (by omega) h)
end PI
theorem XY (w:World):Calls Tryz.prog 154 #[.int .i64 0] w fun e w'=>e=.returned (.tuple #[])/\w=w':=by
 go_enter Tryz.func154,Tryz.ntmps154
 go_wp2;go_end0;exact⟨rfl,rfl⟩
theorem VX (c:Nat) (hc:c≠0) (w:World):Calls Tryz.prog 154 #[.int .i64 c] w fun e w'=>e=.panicked (pan c)/\w=w':=by
 have h:¬ (c:Int)=0:=by omega
 have a:((c:Int) != 0)=true:=by simpa using hc
 go_enter Tryz.func154,Tryz.ntmps154
 go_wp2;exact⟨rfl,rfl,rfl⟩
theorem Zu (gx gr:Nat) (l:List UInt8) (most at_ k:Nat) (vo vb:Value) (H:Sp w0 (Rr gr l at_::XpB gx gr vo most vb::L) w) (ha:at_<=8 * l.length) (hk:k<=57) (hl:l.length<=100000000) :
  Calls Tryz.prog 132 #[.pointer (some ⟨gx,0,none⟩),.int .i64 k] w fun e w' =>
   match PI.number (PBits.ofB l) at_ k with
   | .error c=>e=.panicked (pan c)/\Sp w0 L w'
   | .ok r=>e=.returned (.int .i64 r.2)/\Sp w0 (Rr gr l r.1::XpB gx gr vo most vb::L) w':=by
 have j:w.cell? ⟨gx,0,none⟩=some (.pointer (some ⟨gr,0,none⟩)):=H.cell 1 rfl 0;cases hr:PI.number (PBits.ofB l) at_ k with
 | error c =>
  obtain⟨rfl,a⟩:=PI.number_err hr;rw [PBits.ofB_length] at a;show Calls _ _ _ _ fun e w'=>e=.panicked (pan 4)/\Sp w0 L w';go_enter Tryz.func132,Tryz.ntmps132
  go_wp2_with fail
  refine(XF gr l at_ k H ha a hk (by omega)).mono ?_;rintro _ d ⟨rfl,hK⟩;have f:=hK.sep H;go_wp2_with fail
  refine(VX 4 (by decide) d).mono ?_;rintro _ h ⟨rfl,rfl⟩;go_wp2;exact⟨rfl,rfl,f.tail2⟩
 | ok r =>
  obtain⟨rfl,b⟩:=PI.number_ok hr;rw [PBits.ofB_length] at b;show Calls _ _ _ _ fun e w'=>e=.returned (.int .i64 (PI.numAt (PBits.ofB l) at_ k:Nat))/\Sp w0 (Rr gr l (at_+k)::XpB gx gr vo most vb::L) w';rw [PI.numAt_peek l at_ k b];have a:=PI.numAt_small (PBits.ofB l) at_ k 57 hk;rw [PI.numAt_peek l at_ k b] at a;obtain⟨v,g⟩:=exq (PBits.peek l at_ k);rw [g] at a ⊢;have i:=hid g;clear g hr;go_enter Tryz.func132,Tryz.ntmps132
  go_wp2_with fail
  refine(UU gr l at_ k H b hk (by omega)).mono ?_;rintro _ d ⟨rfl,f⟩;rw [i.out];go_wp2_with fail
  refine(XY d).mono ?_;rintro _ h ⟨rfl,rfl⟩;go_wp2;go_ret;exact⟨rfl,f⟩
theorem Ys (gx gr most n c many:Nat) (A:Option Addr) (vb:Value) (H:Sp w0 (XpB gx gr (.slice A n c) most vb::L) w) (hn:n<=most) (hm:most<=4611686018427387904) (hk:many<=4611686018427387904) :
  Calls Tryz.prog 157 #[.pointer (some ⟨gx,0,none⟩),.int .i64 many] w fun e w'=>(e=if most - n<many then .panicked (pan 22) else .returned (.tuple #[]))/\Keep w w':=by
 have d:w.cell? ⟨gx,1,none⟩=some (.slice A n c):=H.cell 0 rfl 1;have f:w.cell? ⟨gx,2,none⟩=some (.int .i64 most):=H.cell 0 rfl 2;clear H;by_cases h:most - n<many
 ·rw [if_pos h];have a:(many:Int) > (most:Int) - (n:Int):=by omega
  have b:decide (most - n<many)=true:=by simpa using h
  go_enter Tryz.func157,Tryz.ntmps157
  go_wp2;go_quiet (fail)
  go_wp2;exact⟨rfl,rfl,Keep.drewN _ _⟩
 ·rw [if_neg h];have a:¬ (many:Int) > (most:Int) - (n:Int):=by omega
  have b:decide (most - n<many)=false:=by simpa using h
  go_enter Tryz.func157,Tryz.ntmps157
  go_wp2;go_quiet (fail)
  go_wp2;go_end0;exact⟨rfl,Keep.drewN _ _⟩
def FeedX (gv gx gr:Nat) (l:List UInt8) (vo vb:Value) (most at_:Nat):Pr:=Star (Rr gr l at_) (Star (XpB gx gr vo most vb) (Bk gv 122 [.pointer (some ⟨gx,0,none⟩)]))
theorem Z6 {gv gx gr:Nat} {l:List UInt8} {vo vb:Value} {most at_:Nat} (H:Sp w0 (FeedX gv gx gr l vo vb most at_::L) w) :
  Sp w0 (Rr gr l at_::XpB gx gr vo most vb::Bk gv 122 [.pointer (some ⟨gx,0,none⟩)]::L) w:=by
 have a:=H.unstar.swap.unstar;exact a.pick 3 [2,0,1]
theorem Yl {gv gx gr:Nat} {l:List UInt8} {vo vb:Value} {most at_:Nat} (H:Sp w0 (Rr gr l at_::XpB gx gr vo most vb::Bk gv 122 [.pointer (some ⟨gx,0,none⟩)]::L) w) :
  Sp w0 (FeedX gv gx gr l vo vb most at_::L) w:=(Sp.star (H.pick 3 [1,2,0])).swap.star
theorem PI.bit_num {B:List Bool} {a:Nat} {b:Bool} (h:B[a]?=some b):PI.number B a 1=.ok (a+1,bitV b):=by
 obtain⟨c,d⟩:=List.getElem?_eq_some_iff.1 h;unfold PI.number PI.numAt;rw [if_pos (by omega)];congr 2;rw [List.drop_eq_getElem_cons c,d];cases b <;> simp [PBits.num,bitV]
theorem TE (gv gx gr:Nat) (l:List UInt8) (vo vb:Value) (most at_:Nat) (b:Bool) (H:Sp w0 (FeedX gv gx gr l vo vb most at_::L) w) (hl:l.length<=100000000) (h:(PBits.ofB l)[at_]?=some b) :
  Calls Tryz.prog 175 #[.pointer (some ⟨gv,0,none⟩)] w fun e w'=>e=.returned (.tuple #[.int .u32 (bitV b:Int),.int .i64 0])/\Sp w0 (FeedX gv gx gr l vo vb most (at_+1)::L) w':=by
 have c:=Z6 H;have k:w.cell? ⟨gv,0,none⟩=some (.pointer (some ⟨gx,0,none⟩)):=c.cell 2 rfl 0;have m:w.cell? ⟨gx,0,none⟩=some (.pointer (some ⟨gr,0,none⟩)):=c.cell 1 rfl 0;have d:=PI.bit_num h;obtain⟨f,a⟩:=PI.number_ok d;rw [PBits.ofB_length] at a;have g:PBits.peek l at_ 1=bitV b:=by
  rw [<- PI.numAt_peek l at_ 1 a];exact(congrArg Prod.snd f).symm
 have i:=hid g;have n:bitV b<=1:=by unfold bitV; split <;> omega
 clear f g d h H;go_enter Tryz.func175,Tryz.ntmps175
 go_wp2_with fail
 refine(UU gr l at_ 1 c a (by omega) (by omega)).mono ?_;rintro _ o ⟨rfl,j⟩;rw [i.out];go_wp2_with fail
 go_ret2;exact⟨rfl,Yl j⟩
theorem UE (gv gx gr:Nat) (l:List UInt8) (vo vb:Value) (most at_:Nat) (H:Sp w0 (FeedX gv gx gr l vo vb most at_::L) w) (hl:l.length<=100000000) (h:at_=8 * l.length) :
  Calls Tryz.prog 175 #[.pointer (some ⟨gv,0,none⟩)] w fun e w'=>e=.returned (.tuple #[.int .u32 0,.int .i64 4])/\Sp w0 (FeedX gv gx gr l vo vb most at_::L) w':=by
 have a:=Z6 H;have c:w.cell? ⟨gv,0,none⟩=some (.pointer (some ⟨gx,0,none⟩)):=a.cell 2 rfl 0;have d:w.cell? ⟨gx,0,none⟩=some (.pointer (some ⟨gr,0,none⟩)):=a.cell 1 rfl 0;clear H;go_enter Tryz.func175,Tryz.ntmps175
 go_wp2_with fail
 refine(XF gr l at_ 1 a (by omega) (by omega) (by omega) (by omega)).mono ?_;rintro _ f ⟨rfl,hK⟩;have b:=hK.sep a;go_wp2_with fail
 go_ret2;exact⟨rfl,Yl b⟩
theorem Wn (gb gv gx gr:Nat) (by_:List UInt8) (vo vb:Value) (most:Nat) (vr:Value) (m:List Nat) (mo:Nat) (n at_:Nat) (l:List Bool) (H:Sp w0 (FeedX gv gx gr by_ vo vb most at_::Row 3 1 vr (PH.rows m).length (cellsN (PH.rows m))::BkB gb m vr (mo:Int)::L) w) (hn:n=l.length) (hb:l=PBits.ofB by_) (hl:n<=800000000) (ha:at_<=n) (hmo:mo<=15) (hs:PH.sum m<=32768) (hm:m.length<=1024) :
  Calls Tryz.prog 176 #[.pointer (some ⟨gb,0,none⟩),.func (.func 175) #[] #[.pointer (some ⟨gv,0,none⟩)]] w fun e w' =>
   e=.returned (.tuple #[.int .i64 ((PH.nextFrom m (l.drop at_) mo 0).2.2:Int),.int .i64 (PH.nextFrom m (l.drop at_) mo 0).2.1])/\Sp w0 (FeedX gv gx gr by_ vo vb most (at_+(PH.nextFrom m (l.drop at_) mo 0).1)::Row 3 1 vr (PH.rows m).length (cellsN (PH.rows m))::BkB gb m vr (mo:Int)::L) w':=by
 obtain⟨T,hT⟩:=exq (PH.nextFrom m (l.drop at_) mo 0);rw [hT];have Z:=hid hT;have O:=hid hn;have HB:=hid hb;have HS:=hid hs;clear hT hn hb hs;go_enter Tryz.func176,Tryz.ntmps176
 go_wp2_with fail
 go_loopw [6,7,8,9] (fun c6 c7 c8 c9 wr=>∃i:Nat,c6=.int .i64 (PH.numb ((l.drop at_).take i):Int)/\c7=.int .i64 ((PH.fst m i+PH.tal m i:Nat):Int)/\c8=.int .i64 ((PH.rowsB m i).length:Int)/\c9=.int .i64 ((i+1:Nat):Int)/\i<=mo/\at_+i<=n/\PH.fst m i+PH.tal m i<=PH.numb ((l.drop at_).take i)/\PH.nextFrom m (l.drop at_) (mo - i) i=T/\Sp w0 (FeedX gv gx gr by_ vo vb most (at_+i)::Row 3 1 vr (PH.rows m).length (cellsN (PH.rows m))::BkB gb m vr (mo:Int)::L) wr) (fun _ _ _ c9 _=>mo+1 - (intOf c9).toNat)
 case atStart=>exact⟨0,rfl,rfl,rfl,rfl,Nat.zero_le _,ha,Nat.zero_le _,Z.out,H⟩
 case round =>
  obtain⟨i,rfl,rfl,rfl,rfl,hi,a8,a0,o,J⟩:=hrel;obtain⟨C,K⟩:=exq (PH.numb ((l.drop at_).take i));obtain⟨F,M⟩:=exq (PH.fst m i+PH.tal m i);obtain⟨R,Q⟩:=exq ((PH.rowsB m i).length);obtain⟨P,z⟩:=exq ((PH.rows m).length);have a9:C<32768:=by
   have:=PH.numb_lt ((l.drop at_).take i);have h2:2 ^ ((l.drop at_).take i).length<=2 ^ 15:=Nat.pow_le_pow_right (by omega) (by rw [List.length_take]; omega);omega
  rw [K,M] at a0;rw [K,M,Q];obtain⟨VR,cR,rfl,_,_⟩:=Row.form J 1 rfl;rw [z] at J;rw [z] at ⊢;obtain⟨a1,a2,_,_,d⟩:=BkB.get J 2 rfl;have e1:((i+1:Nat):Int)=(i:Int)+1:=by omega
  rw [e1];by_cases b0:i<mo
  ·have k1:(i:Int)+1<=(mo:Int):=by omega
   by_cases a3:at_+i<n
   ·have hg:∃b,l[at_+i]?=some b:=⟨l[at_+i]'(by rw [<- O.out]; exact a3),List.getElem?_eq_getElem _⟩;obtain⟨b,S⟩:=hg;have G:=hid S;have a4:=hid o;have HC:=hid K;have U:=hid M;have V:=hid Q;have A:=hid z;have ct:=hid (d (i+1) (by omega));clear S o K M Q z d H Z;go_wp2_with fail
    refine(TE gv gx gr by_ vo vb most (at_+i) b J (by have:=O.out; rw [HB.out,PBits.ofB_length] at this; omega) (by rw [<- HB.out]; exact G.out)).mono ?_;rintro _ w1 ⟨rfl,B⟩;obtain⟨a1,a2,_,_,d⟩:=BkB.get B 2 rfl;have ct:=d (i+1) (by omega);obtain⟨t,N⟩:=exq (PH.tal m (i+1));rw [N] at ct;have p:=hid N;have b1:t<=1024:=by rw [<- N]; exact Nat.le_trans (PH.tal_le m _) hm
    have b2:R<=15360:=by
     rw [<- V.out];exact Nat.le_trans (PH.rowsB_len m i) (Nat.mul_le_mul (by omega:i<=15) hm)
    have a:=PH.next_on m l at_ i (mo - (i+1)) C F b G.out HC.out U.out;rw [show mo - (i+1)+1=mo - i by omega,a4.out,N,V.out] at a;have u:=hid (PH.numb_take l at_ i b G.out);have W:R+t<=(PH.rows m).length:=by
     rw [<- V.out,<- N,<- PH.rowsB_tal];exact PH.rowsB_mono m (i+1) 15 (by omega)
    have r:=hid W;rw [HC.out] at u;have X:∀q,q<(PH.rows m).length->∃ad,VR=some ad/\w1.cell? (ad.add q)=some (.int .i64 ((PH.rows m).getD q 0:Int)):=by
     intro q D;obtain⟨A9,c9,e9,a5,_,_⟩:=B.row_rd 1 rfl;injection e9 with e9
     subst e9;obtain⟨ad,ea,hc⟩:=a5.at_ (k:=q) (by simpa [cellsN] using D);refine⟨ad,ea,?_⟩;rw [hc];simp [cellsN,List.getD_eq_getElem?_getD,List.getElem?_eq_getElem D]
    have s:=hid X;have hz:=or_zero C (by omega);have ho:=Ti C (by omega);clear d N W X;have q1:bits .and .u32 1 1=1:=by decide +kernel
    have q2:bits .and .u32 0 1=0:=by decide +kernel
    cases b
    ·rw [show bitV false=0 from rfl] at a;rw [show((bitV false:Nat):Int)=0 from rfl];by_cases hit:2 * C+0<2 * F+t
     ·rw [if_pos hit] at a;obtain⟨h,f⟩:=exq (2 * C+0 - 2 * F);rw [f] at a;have kv:(C:Int) * 2 - (F:Int) * 2=(h:Int):=by omega
      obtain⟨q,v⟩:=exq (R+h);rw [v] at a;have kq:(R:Int)+(h:Int)=(q:Int):=by omega
      have D:q<(PH.rows m).length:=by have:=r.out; omega
      have I:=s.out q D;have k4:(h:Int)<(t:Int):=by omega
      have k6:(q:Int)<(P:Int):=by rw [<- A.out]; omega
      obtain⟨y,Y⟩:=exq ((PH.rows m).getD q 0);obtain⟨ad,rfl,j⟩:=I;rw [Y] at j a;have c:=hid a;clear a;clear Y f v D s r;go_wp2_with fail
      rw [c.out];go_ret2;exact⟨rfl,by rw [A.out]; exact B⟩
     ·rw [if_neg hit] at a;have c:=hid a;clear a;obtain⟨h,f⟩:=exq (2 * C+0 - 2 * F);have kv:(C:Int) * 2 - (F:Int) * 2=(h:Int):=by omega
      have k4:¬ (h:Int)<(t:Int):=by omega
      have x:=hid hit;clear hit f s r;go_wp2_with fail
      have hit:=x.out;clear x;go_roundw
      case rel =>
       refine⟨i+1,?_,?_,?_,by go_num,by omega,by omega,?_,c.out.symm,B⟩
       ·rw [u.out]; exact congrArg (Value.int .i64) (by simp [bitV]; omega)
       ·rw [PH.fst_next,U.out,p.out]; exact congrArg (Value.int .i64) (by omega)
       ·rw [PH.rowsB_tal,V.out,p.out]; exact congrArg (Value.int .i64) (by omega)
       ·rw [PH.fst_next,U.out,p.out,u.out]; have a6:bitV false=0:=rfl; have a7:bitV true=1:=rfl; omega
      case measure=>first | (simp [intOf]; omega) | simp [intOf]
    ·rw [show bitV true=1 from rfl] at a;rw [show((bitV true:Nat):Int)=1 from rfl];by_cases hit:2 * C+1<2 * F+t
     ·rw [if_pos hit] at a;obtain⟨h,f⟩:=exq (2 * C+1 - 2 * F);rw [f] at a;have kv:(C:Int) * 2+1 - (F:Int) * 2=(h:Int):=by omega
      obtain⟨q,v⟩:=exq (R+h);rw [v] at a;have kq:(R:Int)+(h:Int)=(q:Int):=by omega
      have D:q<(PH.rows m).length:=by have:=r.out; omega
      have I:=s.out q D;have k4:(h:Int)<(t:Int):=by omega
      have k6:(q:Int)<(P:Int):=by rw [<- A.out]; omega
      obtain⟨y,Y⟩:=exq ((PH.rows m).getD q 0);obtain⟨ad,rfl,j⟩:=I;rw [Y] at j a;have c:=hid a;clear a;clear Y f v D s r;go_wp2_with fail
      rw [c.out];go_ret2;exact⟨rfl,by rw [A.out]; exact B⟩
     ·rw [if_neg hit] at a;have c:=hid a;clear a;obtain⟨h,f⟩:=exq (2 * C+1 - 2 * F);have kv:(C:Int) * 2+1 - (F:Int) * 2=(h:Int):=by omega
      have k4:¬ (h:Int)<(t:Int):=by omega
      have x:=hid hit;clear hit f s r;go_wp2_with fail
      have hit:=x.out;clear x;go_roundw
      case rel =>
       refine⟨i+1,?_,?_,?_,by go_num,by omega,by omega,?_,c.out.symm,B⟩
       ·rw [u.out]; exact congrArg (Value.int .i64) (by simp [bitV]; omega)
       ·rw [PH.fst_next,U.out,p.out]; exact congrArg (Value.int .i64) (by omega)
       ·rw [PH.rowsB_tal,V.out,p.out]; exact congrArg (Value.int .i64) (by omega)
       ·rw [PH.fst_next,U.out,p.out,u.out]; have a6:bitV false=0:=rfl; have a7:bitV true=1:=rfl; omega
      case measure=>first | (simp [intOf]; omega) | simp [intOf]
   ·have g:T=(i,4,0):=by
     rw [<- o,show mo - i=mo - (i+1)+1 by omega,PH.nextFrom,if_pos (by rw [List.length_drop,<- O.out]; omega)]
    have c:=hid g;have A:=hid z;have E:at_+i=n:=by omega
    have HE:=hid E;clear o g K M Q z d H Z E;go_wp2_with fail
    refine(UE gv gx gr by_ vo vb most (at_+i) J (by have:=O.out; rw [HB.out,PBits.ofB_length] at this; omega) (by have:=O.out; rw [HB.out,PBits.ofB_length] at this; have:=HE.out; omega)).mono ?_;rintro _ w1 ⟨rfl,B⟩;go_wp2_with fail
    rw [c.out];go_ret2;exact⟨rfl,by rw [A.out]; exact B⟩
  ·have k1:¬ (i:Int)+1<=(mo:Int):=by omega
   have g:T=(i,20,0):=by rw [<- o,show mo - i=0 by omega]; rfl
   have c:=hid g;have A:=hid z;clear o g K M Q z d H Z;go_wp2_with fail
   rw [c.out];go_ret2;exact⟨rfl,by rw [A.out]; exact J⟩
def Bok (gb:Nat) (m:List Nat):Pr:=Ex fun vr:Value=>Star (Row 3 1 vr (PH.rows m).length (cellsN (PH.rows m))) (BkB gb m vr (PI.mostN m:Int))
theorem Z7 (gx gr gb:Nat) (l:List UInt8) (most at_:Nat) (vo vb:Value) (m:List Nat) (H:Sp w0 (Rr gr l at_::XpB gx gr vo most vb::Bok gb m::L) w) (ha:at_<=8 * l.length) (hl:l.length<=100000000) (hs:PH.sum m<=32768) (hm:m.length<=1024) :
  Calls Tryz.prog 159 #[.pointer (some ⟨gx,0,none⟩),.pointer (some ⟨gb,0,none⟩)] w fun e w' =>
   match PI.sign (PBits.ofB l) m at_ with
   | .error c=>e=.panicked (pan c)/\Sp w0 L w'
   | .ok r=>e=.returned (.int .i64 r.2)/\Sp w0 (Rr gr l r.1::XpB gx gr vo most vb::Bok gb m::L) w':=by
 have A:∀(fn:Fn) (first cap:Array Value) (w:World),(Instr.makeFunc fn first cap).run Tryz.prog w=.ok (.func fn first cap) w:=fun _ _ _ _=>rfl;have k:=PI.next_facts m ((PBits.ofB l).drop at_) (PI.mostN m) (PI.mostN_le m);obtain⟨T,i⟩:=exq (PH.nextFrom m ((PBits.ofB l).drop at_) (PI.mostN m) 0);rw [i] at k;have a:PI.sign (PBits.ofB l) m at_=if T.2.1=0 then .ok (at_+T.1,T.2.2) else .error T.2.1.toNat:=by unfold PI.sign; rw [i]
 rw [a];have j:=hid i;have n:=hid k.2;obtain⟨o,H⟩:=(H.pick 3 [2,0,1]).unex;replace H:=H.unstar.pick 4 [2,3,0,1];have x:=Yl ((H.newBk [.pointer (some ⟨gx,0,none⟩)] 122).pick 5 [1,2,0,3,4]);clear i k a;have y:=hid hl;have z:=hid ha;by_cases d:T.2.1=0
 ·rw [if_pos d];show Calls _ _ _ _ fun e w'=>e=.returned (.int .i64 T.2.2)/\Sp w0 (Rr gr l (at_+T.1)::XpB gx gr vo most vb::Bok gb m::L) w';have b:=Wn gb w.heap.size gx gr l vo vb most o m (PI.mostN m) (8 * l.length) at_ (PBits.ofB l) x (PBits.ofB_length l).symm rfl (by have:=y.out; omega) z.out (PI.mostN_le m) hs hm;rw [j.out,d] at b;obtain⟨t,f⟩:=exq T.2.2;obtain⟨q,a⟩:=exq (at_+T.1);rw [f,a] at b;rw [f,a];clear d f a j n;have p:=hid b;clear b;go_enter Tryz.func159,Tryz.ntmps159
  go_wp2_with fail
  refine p.out.mono ?_;rintro _ w1 ⟨rfl,s⟩;have u:=(Z6 s).pick 5 [0,1,3,4];go_wp2_with fail
  refine(XY w1).mono ?_;rintro _ B ⟨rfl,rfl⟩;go_wp2;go_ret;have C:Sp w0 (Bok gb m::Rr gr l q::XpB gx gr vo most vb::L) w1:=Sp.ex o (u.pick 4 [2,3,0,1]).star;exact⟨rfl,C.pick 3 [1,2,0]⟩
 ·rw [if_neg d];have g:∃c:Nat,T.2.1=(c:Int)/\c≠0:=by
   rcases n.out with h | h | h
   ·exact absurd h.1 d
   ·exact⟨4,h,by decide⟩
   ·exact⟨20,h,by decide⟩
  obtain⟨c,g,v⟩:=g;have b:=Wn gb w.heap.size gx gr l vo vb most o m (PI.mostN m) (8 * l.length) at_ (PBits.ofB l) x (PBits.ofB_length l).symm rfl (by have:=y.out; omega) z.out (PI.mostN_le m) hs hm;rw [j.out,g] at b;rw [g,show((c:Int)).toNat=c from rfl];show Calls _ _ _ _ fun e w'=>e=.panicked (pan c)/\Sp w0 L w';obtain⟨t,f⟩:=exq T.2.2;obtain⟨q,a⟩:=exq (at_+T.1);rw [f,a] at b;clear g d j n f a;have p:=hid b;clear b;go_enter Tryz.func159,Tryz.ntmps159
  go_wp2_with fail
  refine p.out.mono ?_;rintro _ w1 ⟨rfl,s⟩;have u:=(Z6 s).pick 5 [0,1,3,4];go_wp2_with fail
  refine(VX c v w1).mono ?_;rintro _ B ⟨rfl,rfl⟩;go_wp2;exact⟨rfl,rfl,u.pick 4 []⟩
theorem VY (gx gr:Nat) (l:List UInt8) (most at_ s:Nat) (vo vb:Value) (TA:Option Addr) (n c:Nat) (t:List (Nat × Nat)) (H:Sp w0 (Rr gr l at_::XpB gx gr vo most vb::L) w) (ha:at_<=8 * l.length) (hl:l.length<=100000000)
  (hT:Ent L fun w=>Rd w TA (cellsP t)) (hn:n=t.length) (ht:∀p ∈ t,p.1<=100000/\p.2<=13) (hs:s<=1000000) :
  Calls Tryz.prog 161 #[.pointer (some ⟨gx,0,none⟩),.int .i64 s,.slice TA n c] w fun e w' =>
   match PI.count (PBits.ofB l) t s at_ with
   | .error c=>e=.panicked (pan c)/\Sp w0 L w'
   | .ok r=>e=.returned (.int .i64 r.2)/\Sp w0 (Rr gr l r.1::XpB gx gr vo most vb::L) w':=by
 by_cases o:s<t.length
 ·have y:∀w,Rd w TA (cellsP t)->∃ad,TA=some ad/\w.cell? (ad.add (s * 2))=some (.int .i64 ((t.getD s (0,0)).1:Int))/\w.cell? ⟨(ad.add (s * 2)).block,(ad.add (s * 2)).off+1,none⟩=some (.int .i64 ((t.getD s (0,0)).2:Int)):=fun w h=>rdP h o;obtain⟨ad,rfl,_,_⟩:=y w (hT _ _ H.tail2);have m:Ent L fun w=>w.cell? (ad.add (s * 2))=some (.int .i64 ((t.getD s (0,0)).1:Int))/\w.cell? ⟨(ad.add (s * 2)).block,(ad.add (s * 2)).off+1,none⟩=some (.int .i64 ((t.getD s (0,0)).2:Int)):=fun w0 w H=>by
   obtain⟨Y,e,h⟩:=y w (hT _ _ H);injection e with e
   rw [e]; exact h
  have v:t.getD s (0,0) ∈ t:=by
   rw [List.getD_eq_getElem?_getD,List.getElem?_eq_getElem o];exact List.getElem_mem o
  have F:=ht _ v;have G:PI.count (PBits.ofB l) t s at_=(PI.number (PBits.ofB l) at_ (t.getD s (0,0)).2).bind fun r=>.ok (r.1,(t.getD s (0,0)).1+r.2):=by unfold PI.count; rw [if_pos o]
  rw [G];obtain⟨⟨f,k⟩,B⟩:∃p,t.getD s (0,0)=p:=⟨_,rfl⟩;rw [B] at m F ⊢;have I:=hid m;have q:k<=57:=by have:=F.2; simp only at this; omega
  have Z:=F.1;simp only at Z;have sn:(s:Int)<(n:Int):=by omega
  have M:¬ (s:Int)≥(n:Int):=by omega
  clear m y v hT G B F ht hn o;show Calls _ _ _ _ fun e w'=>match (PI.number (PBits.ofB l) at_ k).bind fun r=>.ok (r.1,f+r.2) with
   | .error c=>e=.panicked (pan c)/\Sp w0 L w'
   | .ok r=>e=.returned (.int .i64 r.2)/\Sp w0 (Rr gr l r.1::XpB gx gr vo most vb::L) w'
  cases hr:PI.number (PBits.ofB l) at_ k with
  | error e =>
   have N:=hid hr;show Calls _ _ _ _ fun e' w'=>e'=.panicked (pan e)/\Sp w0 L w';clear hr;go_enter Tryz.func161,Tryz.ntmps161
   go_wp2_with fail
   refine Zb (L:=L) [some (.slice (some ad) n c),some (.int .i64 s),some (.pointer (some (ad.add (s * 2)))),some (.pointer (some (ad.add (s * 2)))),some (.int .i64 f),some (.pointer (some ⟨gx,0,none⟩)),some (.slice (some ad) n c),some (.int .i64 s),some (.pointer (some (ad.add (s * 2)))),some (.pointer (some ⟨(ad.add (s * 2)).block,(ad.add (s * 2)).off+1,none⟩)),some (.int .i64 k),none,none,none] (fun ix vx=>match ix with | 11=>(fun _=>False) vx | _=>True) (fun _ _=>[]) (fun ix=>match ix with | 11=>[Rr gr l at_,XpB gx gr vo most vb] | _=>[]) 14 25
    [some 12,some 13,some 14,some 15,some 16,some 17,some 18,some 19,some 20,some 21,some 22,some 23,some 24,some 6]
    [[],[],[0,1],[2],[3],[],[],[],[6,7],[8],[9],[5,10],[4,11],[12,11,0,1,2,3,4,5,6,7,8,9,10,11,12]]
    [[],[],[0,1],[0,1,2],[0,1,2,3],[],[],[],[6,7],[6,7,8],[6,7,8,9],[5,6,7,8,9,10],[0,1,2,3,4,5,6,7,8,9,10,11],[0,1,2,3,4,5,6,7,8,9,10,11,12]]
    [[],[],[],[],[],[],[],[],[],[],[],[],[],[]] [[],[],[],[],[],[],[],[],[],[],[],[],[],[]] [(0,.pointer (some ⟨gx,0,none⟩)),(1,.int .i64 s),(2,.slice (some ad) n c)]
    (by kernel_rfl) rfl (by decide) (by rfl) (by decide +kernel) rfl rfl (by simp) (H) ?hstep ?hend
   case hstep =>
    refine⟨?p0,⟨?p1,⟨?p2,⟨?p3,⟨?p4,⟨?p5,⟨?p6,⟨?p7,⟨?p8,⟨?p9,⟨?p10,⟨?p11,⟨?p12,⟨?p13,trivial⟩⟩⟩⟩⟩⟩⟩⟩⟩⟩⟩⟩⟩⟩
    case p0 | p1 | p2 | p3 | p5 | p6 | p7 | p8 | p9 =>
     intro x wx A g b i d j H K hK;replace hK:=hid hK;clear d j b;repeat (obtain⟨_,i⟩:=i)
     refine so ?_;go_step;exact hK.out _ _ rfl H
    case p4 =>
     intro x wx A g b i d j H K a;have O:=tq d 3;have hK:=hid a;clear a i d b;have u:wx.cell? (ad.add (s * 2))=some (.int .i64 f)/\wx.cell? ⟨(ad.add (s * 2)).block,(ad.add (s * 2)).off+1,none⟩=some (.int .i64 k):=j (fun w=>w.cell? (ad.add (s * 2))=some (.int .i64 f)/\w.cell? ⟨(ad.add (s * 2)).block,(ad.add (s * 2)).off+1,none⟩=some (.int .i64 k)) I.out _ _ H;have P:=u.1;clear u;refine so ?_;go_step;exact hK.out _ _ rfl H
    case p10 =>
     intro x wx A g b i d j H K a;have Q:=tq d 9;have hK:=hid a;clear a i d b;have u:wx.cell? (ad.add (s * 2))=some (.int .i64 f)/\wx.cell? ⟨(ad.add (s * 2)).block,(ad.add (s * 2)).off+1,none⟩=some (.int .i64 k):=j (fun w=>w.cell? (ad.add (s * 2))=some (.int .i64 f)/\w.cell? ⟨(ad.add (s * 2)).block,(ad.add (s * 2)).off+1,none⟩=some (.int .i64 k)) I.out _ _ H;have P:=u.2;clear u;refine so ?_;go_step;exact hK.out _ _ rfl H
    case p11 =>
     intro x wx A g b i d j H K a;replace b:=hid b;have R:=tq d 5;have S:=tq d 10;replace H:Sp w0 (_::_::g) wx:=H;have hK:=hid a;clear a i d;refine so ?_;go_wp2_with fail
     have z:=Zu gx gr l most at_ k vo vb H (by omega) q (by omega);rw [N.out] at z;refine z.mono ?_;clear z;rintro _ w9 ⟨rfl,T⟩;go_wp2;exact⟨b.out,rfl,T.sub j⟩
    case p12 =>
     intro x wx A g b i d j H K a;have a0:=tq d 4;have a1:False:=(d 11 (by decide)).1;have a2:=(d 11 (by decide)).2 23 rfl;have hK:=hid a;clear a i b;exact((d 11 (by decide)).1:False).elim
    case p13 =>
     intro x wx A g b i d j H K a;have a3:True:=(d 12 (by decide)).1;have a4:=(d 12 (by decide)).2 24 rfl;have hK:=hid a;clear a i b;exact((d 11 (by decide)).1:False).elim
   case hend =>
    intro x wx A C d H;replace H:Sp w0 (L) wx:=H;have U:False:=d 11 (by decide);clear d;simp only [putAll,Act.put,List.setIfInBounds_toArray,List.set_cons_succ,List.set_cons_zero,Nat.reduceAdd] at C;subst C;exact U.elim
  | ok r =>
   obtain⟨V,a5⟩:=PI.number_ok hr;subst V;have hv:=PI.numAt_small (PBits.ofB l) at_ k 57 q;obtain⟨J,D⟩:=exq (PI.numAt (PBits.ofB l) at_ k);rw [D] at hr hv ⊢;have N:=hid hr;obtain⟨fv,E⟩:=exq (f+J);show Calls _ _ _ _ fun e w'=>e=.returned (.int .i64 ((f+J:Nat):Int))/\Sp w0 (Rr gr l (at_+k)::XpB gx gr vo most vb::L) w';rw [E];have e3:(f:Int)+(J:Int)=(fv:Int):=by omega
   have X:fv<9000000000000000000:=by omega
   clear hr D E;go_enter Tryz.func161,Tryz.ntmps161
   go_wp2_with fail
   refine Zb (L:=L) [some (.slice (some ad) n c),some (.int .i64 s),some (.pointer (some (ad.add (s * 2)))),some (.pointer (some (ad.add (s * 2)))),some (.int .i64 f),some (.pointer (some ⟨gx,0,none⟩)),some (.slice (some ad) n c),some (.int .i64 s),some (.pointer (some (ad.add (s * 2)))),some (.pointer (some ⟨(ad.add (s * 2)).block,(ad.add (s * 2)).off+1,none⟩)),some (.int .i64 k),some (.int .i64 J),some (.int .i64 fv),some (.int .i64 fv)] (fun _ _=>True) (fun ix vx=>match ix with | 11=>(fun _=>[Rr gr l (at_+k),XpB gx gr vo most vb]) vx | _=>[]) (fun ix=>match ix with | 11=>[Rr gr l at_,XpB gx gr vo most vb] | _=>[]) 14 25
    [some 12,some 13,some 14,some 15,some 16,some 17,some 18,some 19,some 20,some 21,some 22,some 23,some 24,some 6]
    [[],[],[0,1],[2],[3],[],[],[],[6,7],[8],[9],[5,10],[4,11],[12,11,0,1,2,3,4,5,6,7,8,9,10,11,12]]
    [[],[],[0,1],[0,1,2],[0,1,2,3],[],[],[],[6,7],[6,7,8],[6,7,8,9],[5,6,7,8,9,10],[0,1,2,3,4,5,6,7,8,9,10,11],[0,1,2,3,4,5,6,7,8,9,10,11,12]]
    [[],[],[],[],[],[],[],[],[],[],[],[],[],[]] [[],[],[],[],[],[],[],[],[],[],[],[],[],[]] [(0,.pointer (some ⟨gx,0,none⟩)),(1,.int .i64 s),(2,.slice (some ad) n c)]
    (by kernel_rfl) rfl (by decide) (by rfl) (by decide +kernel) rfl rfl (by simp) (H) ?hstep ?hend
   case hstep =>
    refine⟨?p0,⟨?p1,⟨?p2,⟨?p3,⟨?p4,⟨?p5,⟨?p6,⟨?p7,⟨?p8,⟨?p9,⟨?p10,⟨?p11,⟨?p12,⟨?p13,trivial⟩⟩⟩⟩⟩⟩⟩⟩⟩⟩⟩⟩⟩⟩
    case p0 | p1 | p2 | p3 | p5 | p6 | p7 | p8 | p9 | p12 | p13 =>
     intro x wx A g b i d j H K hK;replace hK:=hid hK;clear d j b;repeat (obtain⟨_,i⟩:=i)
     refine so ?_;go_step;exact hK.out _ _ rfl H
    case p4 =>
     intro x wx A g b i d j H K a;have O:=tq d 3;have hK:=hid a;clear a i d b;have u:wx.cell? (ad.add (s * 2))=some (.int .i64 f)/\wx.cell? ⟨(ad.add (s * 2)).block,(ad.add (s * 2)).off+1,none⟩=some (.int .i64 k):=j (fun w=>w.cell? (ad.add (s * 2))=some (.int .i64 f)/\w.cell? ⟨(ad.add (s * 2)).block,(ad.add (s * 2)).off+1,none⟩=some (.int .i64 k)) I.out _ _ H;have P:=u.1;clear u;refine so ?_;go_step;exact hK.out _ _ rfl H
    case p10 =>
     intro x wx A g b i d j H K a;have Q:=tq d 9;have hK:=hid a;clear a i d b;have u:wx.cell? (ad.add (s * 2))=some (.int .i64 f)/\wx.cell? ⟨(ad.add (s * 2)).block,(ad.add (s * 2)).off+1,none⟩=some (.int .i64 k):=j (fun w=>w.cell? (ad.add (s * 2))=some (.int .i64 f)/\w.cell? ⟨(ad.add (s * 2)).block,(ad.add (s * 2)).off+1,none⟩=some (.int .i64 k)) I.out _ _ H;have P:=u.2;clear u;refine so ?_;go_step;exact hK.out _ _ rfl H
    case p11 =>
     intro x wx A g b i d j H K a;have R:=tq d 5;have S:=tq d 10;replace H:Sp w0 (_::_::g) wx:=H;have hK:=hid a;clear a i d j b;refine so ?_;go_wp2_with fail
     have z:=Zu gx gr l most at_ k vo vb H (by omega) q (by omega);rw [N.out] at z;refine z.mono ?_;clear z;rintro _ w9 ⟨rfl,T⟩;exact hK.out _ _ rfl T
   case hend =>
    intro x wx A C d H;replace H:Sp w0 (_::_::L) wx:=H;have W:x 13=.int .i64 fv:=d 13 (by decide);clear d;simp only [putAll,Act.put,List.setIfInBounds_toArray,List.set_cons_succ,List.set_cons_zero,Nat.reduceAdd] at C;subst C;rw [W];go_wp2;go_ret;exact⟨rfl,H⟩
 ·have G:PI.count (PBits.ofB l) t s at_=.error 20:=by unfold PI.count; rw [if_neg o]
  rw [G];have M:(s:Int)≥(n:Int):=by omega
  show Calls _ _ _ _ fun e w'=>e=.panicked (pan 20)/\Sp w0 L w';clear hT;go_enter Tryz.func161,Tryz.ntmps161
  go_wp2;exact⟨rfl,rfl,H.tail2⟩
structure Tabs (TL TA:Option Addr) (cl ca:Nat) (w:World):Prop where
 long:w.cell? ⟨7,0,none⟩=some (.slice TL 28 cl)
 longs:Rd w TL (cellsP PI.lengthsT)
 far:w.cell? ⟨5,0,none⟩=some (.slice TA 30 ca)
 fars:Rd w TA (cellsP PI.awayT)
 order:∀i,i<19->w.cell? ⟨6,i,none⟩=some (.int .i64 (PI.orderT.getD i 0:Nat))
theorem Tabs.heap {TL TA:Option Addr} {cl ca:Nat} {W w:World} (h:Tabs TL TA cl ca W) (hs:∀b,b<W.heap.size->w.heap[b]?=W.heap[b]?):Tabs TL TA cl ca w:=by
 have a:∀(p:Addr) u,W.cell? p=some u->w.cell? p=some u:=fun p u hp=>by
  rw [<- hp]; exact World.cell?_of_block (hs p.block (Zt hp))
 exact⟨a _ _ h.long,h.longs.keep fun p u _ hp=>by rw [hp]; exact a _ _ hp,a _ _ h.far,h.fars.keep fun p u _ hp=>by rw [hp]; exact a _ _ hp,fun i hi=>a _ _ (h.order i hi)⟩
theorem YJ:∀p ∈ PI.lengthsT,p.1<=100000/\p.2<=13:=by decide
theorem Xt:∀p ∈ PI.awayT,p.1<=100000/\p.2<=13:=by decide
theorem TG (gx gr:Nat) (l:List UInt8) (most at_ s:Nat) (vo vb:Value) (TL TA:Option Addr) (cl ca:Nat) (H:Sp w0 (Rr gr l at_::XpB gx gr vo most vb::L) w) (ha:at_<=8 * l.length) (hl:l.length<=100000000)
  (hT:Ent L (Tabs TL TA cl ca)) (hs:s<=1000000) :
  Calls Tryz.prog 160 #[.pointer (some ⟨gx,0,none⟩),.int .i64 s] w fun e w' =>
   match PI.length (PBits.ofB l) s at_ with
   | .error c=>e=.panicked (pan c)/\Sp w0 L w'
   | .ok r=>e=.returned (.int .i64 r.2)/\Sp w0 (Rr gr l r.1::XpB gx gr vo most vb::L) w':=by
 by_cases a:s=28
 ·subst a;show Calls _ _ _ _ fun e w'=>e=.returned (.int .i64 258)/\Sp w0 (Rr gr l at_::XpB gx gr vo most vb::L) w';clear hT;go_enter Tryz.func160,Tryz.ntmps160
  go_wp2;go_ret;exact⟨rfl,H⟩
 ·have f:PI.length (PBits.ofB l) s at_=PI.count (PBits.ofB l) PI.lengthsT s at_:=by unfold PI.length; rw [if_neg a]
  rw [f];have m:¬ (s:Int)=28:=by omega
  have n:=(hT _ _ H.tail2).long;have g:=VY gx gr l most at_ s vo vb TL 28 cl PI.lengthsT H ha hl (fun w0 w h=>(hT w0 w h).longs) rfl YJ hs;have b:=hid g;clear g hT f;cases hr:PI.count (PBits.ofB l) PI.lengthsT s at_ with
  | error c =>
   rw [hr] at b;show Calls _ _ _ _ fun e w'=>e=.panicked (pan c)/\Sp w0 L w';clear hr;go_enter Tryz.func160,Tryz.ntmps160
   go_wp2_with fail
   refine b.out.mono ?_;rintro _ i ⟨rfl,d⟩;go_wp2;exact⟨rfl,rfl,d⟩
  | ok r =>
   rw [hr] at b;obtain⟨j,k⟩:=r;show Calls _ _ _ _ fun e w'=>e=.returned (.int .i64 k)/\Sp w0 (Rr gr l j::XpB gx gr vo most vb::L) w';clear hr;go_enter Tryz.func160,Tryz.ntmps160
   go_wp2_with fail
   refine b.out.mono ?_;rintro _ i ⟨rfl,d⟩;go_wp2_with fail
   go_ret;exact⟨rfl,d⟩
end Go.Proofs.YtnjpnmpemhldcaaGreatDoor

