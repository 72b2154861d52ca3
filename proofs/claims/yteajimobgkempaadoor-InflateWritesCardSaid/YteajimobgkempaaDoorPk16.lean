/- A pack. -/
import Derived.Test.YteajimobgkempaaDoorPk15
set_option linter.all false
set_option maxRecDepth 100000
set_option maxHeartbeats 8000000
namespace Go.Proofs.YteajimobgkempaaDoor
variable {w0 w:World} {L:List Pr}
open Go.RowKit
def SmB (g:Nat) (V:Value) (at_:Nat) (O:Value) (most:Nat) (bl:Value) (e:Nat):Pr:=Bk g 68 [V,.int .i64 at_,O,.int .i64 most,bl,.int .i64 e]
def DvEnd (w0:World) (L:List Pr) (g:Nat) (V O:Value) (most:Nat) (bl:Value) (T:Except Nat (Nat × Nat)) (e:Ending) (w' : World):Prop :=
 match T with
 | .ok r=>e=.returned (.int .i64 r.2)/\Sp w0 (SmB g V r.1 O most bl 0::L) w'
 | .error er=>er≠0/\∃a,e=.returned (.int .i64 0)/\Sp w0 (SmB g V a O most bl er::L) w'
theorem DvEnd.yes {w0 w' : World} {g:Nat} {V O:Value} {most:Nat} {bl:Value} {T:Except Nat (Nat × Nat)} {a x:Nat} (h:T=.ok (a,x)) (H:Sp w0 (SmB g V a O most bl 0::L) w'):DvEnd w0 L g V O most bl T (.returned (.int .i64 x)) w':=by
 subst h; exact⟨rfl,H⟩
theorem DvEnd.no {w0 w' : World} {g:Nat} {V O:Value} {most:Nat} {bl:Value} {T:Except Nat (Nat × Nat)} {a c:Nat} (h:T=.error c) (hc:c≠0) (H:Sp w0 (SmB g V a O most bl c::L) w'):DvEnd w0 L g V O most bl T (.returned (.int .i64 0)) w':=by
 subst h; exact⟨hc,a,rfl,H⟩
theorem DvEnd.got {w0 w' : World} {g:Nat} {V O:Value} {most:Nat} {bl:Value} {T:Except Nat (Nat × Nat)} {r:Nat × Nat} {e:Ending} (h:T=.ok r) (k:DvEnd w0 L g V O most bl T e w'):e=.returned (.int .i64 r.2)/\Sp w0 (SmB g V r.1 O most bl 0::L) w':=by
 subst h; exact k
theorem DvEnd.bad {w0 w' : World} {g:Nat} {V O:Value} {most:Nat} {bl:Value} {T:Except Nat (Nat × Nat)} {c:Nat} {e:Ending} (h:T=.error c) (k:DvEnd w0 L g V O most bl T e w'):c≠0/\∃a,e=.returned (.int .i64 0)/\Sp w0 (SmB g V a O most bl c::L) w':=by
 subst h; exact k
theorem Xu {w:World} {A:Option Addr} {n c:Nat} {l:List UInt8} (h:Byt w (.slice A n c) l):Rd w A (cells8 l):=by
 obtain⟨a,b,e,r,_,_⟩:=h;injection e with e _ _
 subst e;exact r
namespace PBits
theorem bitsOf_get (n k i:Nat) (h:i<k):(bitsOf n k)[i]?=some (n.testBit i):=by
 induction k generalizing n i with
 | zero=>omega
 | succ k ih =>
  cases i with
  | zero=>rw [bitsOf,List.getElem?_cons_zero,Nat.testBit_zero]; congr 1
  | succ i=>rw [bitsOf,List.getElem?_cons_succ,ih (n / 2) i (by omega),Nat.testBit_succ]
theorem ofB_get (l:List UInt8) (a:Nat) (h:a<8 * l.length):(ofB l)[a]?=some ((l.getD (a / 8) 0).toNat.testBit (a % 8)):=by
 induction l generalizing a with
 | nil=>simp at h
 | cons c l ih =>
  rw [ofB];by_cases b:a<8
  ·rw [List.getElem?_append_left (by rw [bitsOf_length]; exact b),bitsOf_get _ _ _ b,show a / 8=0 by omega,show a % 8=a by omega];rfl
  ·rw [List.getElem?_append_right (by rw [bitsOf_length]; omega),bitsOf_length,ih (a - 8) (by simp at h; omega),show(a - 8) % 8=a % 8 by omega,show a / 8=(a - 8) / 8+1 by omega];rfl
end PBits
namespace PI
theorem numAt_succ (B:List Bool) (a i:Nat) (h:a+i+1<=B.length):numAt B a (i+1)=numAt B a i+2 ^ i * numAt B (a+i) 1:=by
 unfold numAt;rw [List.take_add,PBits.num_append,List.length_take,List.length_drop,Nat.min_eq_left (by omega),List.drop_drop]
theorem numAt_one (l:List UInt8) (a:Nat) (h:a<8 * l.length):numAt (PBits.ofB l) a 1=(l.getD (a / 8) 0).toNat / 2 ^ (a % 8) % 2:=by
 have c:=PBits.ofB_get l a h;have d:a<(PBits.ofB l).length:=by rw [PBits.ofB_length]; exact h
 rw [List.getElem?_eq_getElem d] at c;have e:(PBits.ofB l).drop a=(PBits.ofB l)[a]::(PBits.ofB l).drop (a+1):=List.drop_eq_getElem_cons d;unfold numAt;rw [e,Option.some.inj c];show Bool.toNat _+2 * 0=_;rw [Nat.testBit_eq_decide_div_mod_eq];generalize (l.getD (a / 8) 0).toNat / 2 ^ (a % 8)=x;by_cases b:x % 2=1
 ·rw [decide_eq_true b,b]; rfl
 ·rw [decide_eq_false b];show 0+0=_;omega
theorem number_one {l:List UInt8} {a:Nat} (h:a<8 * l.length):number (PBits.ofB l) a 1=.ok (a+1,(l.getD (a / 8) 0).toNat / 2 ^ (a % 8) % 2):=by
 unfold number;rw [if_pos (by rw [PBits.ofB_length]; omega),numAt_one l a h]
theorem number_none {l:List UInt8} {a k:Nat} (h:8 * l.length<a+k):number (PBits.ofB l) a k=.error 4:=by
 unfold number;rw [if_neg (by rw [PBits.ofB_length]; omega)]
end PI
theorem vfail_ok (g:Nat) (V:Value) (at_:Nat) (O:Value) (most:Nat) (bl:Value) (c:Nat) (H:Sp w0 (SmB g V at_ O most bl 0::L) w) :
  Calls Tryd.prog 43 #[.pointer (some ⟨g,0,none⟩),.int .i64 c] w fun e w'=>e=.returned (.tuple #[])/\Sp w0 (SmB g V at_ O most bl c::L) w':=by
 have b:w.cell? ⟨g,5,none⟩=some (.int .i64 0):=H.cell 0 rfl 5;have d:w.frozen? ⟨g,5,none⟩=false:=H.frozen 0 rfl 5;have a:=hid (H.set 5 (.int .i64 c));clear H;go_enter Tryd.func43,Tryd.ntmps43
 go_wp2_with fail
 go_end0;exact⟨rfl,a.out⟩
theorem Zx (g:Nat) (V:Value) (at_:Nat) (O:Value) (most:Nat) (bl:Value) (c d:Nat) (hd:d≠0) (H:Sp w0 (SmB g V at_ O most bl d::L) w) :
  Calls Tryd.prog 43 #[.pointer (some ⟨g,0,none⟩),.int .i64 c] w fun e w'=>e=.returned (.tuple #[])/\Sp w0 (SmB g V at_ O most bl d::L) w':=by
 have b:w.cell? ⟨g,5,none⟩=some (.int .i64 d):=H.cell 0 rfl 5;have f:((d:Int) == 0)=false:=by rw [beq_eq_false_iff_ne]; omega
 have a:=hid H;clear H;go_enter Tryd.func43,Tryd.ntmps43
 go_wp2_with fail
 go_end0;exact⟨rfl,a.out⟩
theorem YZ (g:Nat) (V:Value) (at_:Nat) (O:Value) (most:Nat) (bl:Value) (d:Nat) (hd:d≠0) (H:Sp w0 (SmB g V at_ O most bl d::L) w) :
  Calls Tryd.prog 64 #[.pointer (some ⟨g,0,none⟩)] w fun e w'=>e=.returned (.int .i64 0)/\Sp w0 (SmB g V at_ O most bl d::L) w':=by
 have c:w.cell? ⟨g,5,none⟩=some (.int .i64 d):=H.cell 0 rfl 5;have f:((d:Int) != 0)=true:=by simp; omega
 have a : ¬ (d:Int)=0:=by omega
 have b:=hid H;clear H;go_enter Tryd.func64,Tryd.ntmps64
 go_wp2_with fail
 go_ret;exact⟨rfl,b.out⟩
theorem We (g:Nat) (A:Option Addr) (n c:Nat) (B:List UInt8) (at_:Nat) (O:Value) (most:Nat) (bl:Value) (H:Sp w0 (SmB g (.slice A n c) at_ O most bl 0::L) w) (hn:n=B.length) (hnm:n<=1000000) (hat:at_<=9000000) (hb:Ent L fun w=>Byt w (.slice A n c) B) :
  Calls Tryd.prog 64 #[.pointer (some ⟨g,0,none⟩)] w (DvEnd w0 L g (.slice A n c) O most bl (PI.number (PBits.ofB B) at_ 1)):=by
 have E:w.cell? ⟨g,0,none⟩=some (.slice A n c):=H.cell 0 rfl 0;have y:w.cell? ⟨g,1,none⟩=some (.int .i64 at_):=H.cell 0 rfl 1;have K:w.cell? ⟨g,5,none⟩=some (.int .i64 0):=H.cell 0 rfl 5;have f:=hid H;have HN:=hid hn;obtain⟨T,o⟩:=exq (PI.number (PBits.ofB B) at_ 1);rw [o];by_cases S:at_<8 * n
 ·have U:¬ (at_:Int)≥8 * (n:Int):=by omega
  have j:=PI.number_one (l:=B) (a:=at_) (by omega);rw [o] at j;obtain⟨q,M⟩:=exq (at_ / 8);obtain⟨r,N⟩:=exq (at_ % 8);rw [M,N] at j;obtain⟨z,rfl,p⟩:=(Xu (hb _ _ H.tail)).at8 (k:=q) (by omega);obtain⟨x,C⟩:∃x:UInt8,B[q]'(by omega)=x:=⟨_,rfl⟩;rw [C] at p;have s:(B.getD q 0)=x:=by rw [List.getD_eq_getElem?_getD,List.getElem?_eq_getElem (by omega),C]; rfl
  rw [s] at j;obtain⟨xn,m⟩:=exq x.toNat;have F:xn<256:=by rw [<- m]; exact x.toNat_lt
  rw [m] at p j;have D:=hid j;have V:Hid (Ent (SmB g (.slice (some z) n c) at_ O most bl 0::L) fun w=>w.cell? (z.add q)=some (.int .u8 xn)):=hid fun w0 w h=>by
   obtain⟨W,e,G⟩:=(Xu (hb _ _ h.tail)).at8 (k:=q) (by omega);injection e with e
   subst e;rw [G,C,m]
  clear j o hb hn s H p C m;have y1:(at_:Int) / 8=(q:Int):=by omega
  have y2:(at_:Int) % 8=(r:Int):=by omega
  have y3:(q:Int)<(n:Int):=by omega
  have X:r<=7:=by omega
  clear N M;go_enter Tryd.func64,Tryd.ntmps64
  go_wp2_with fail
  go_quiet (fail)
  have b:=f.out.drewN nq;generalize w.drewN nq=wq at b ⊢;have E:wq.cell? ⟨g,0,none⟩=some (.slice (some z) n c):=b.cell 0 rfl 0;have y:wq.cell? ⟨g,1,none⟩=some (.int .i64 at_):=b.cell 0 rfl 1;have p:=V.out _ _ b;replace f:=hid b;clear b;go_wp2_with fail
  go_quiet (fail)
  have b:=f.out.drewN nq;generalize wq.drewN nq=wp at b ⊢;clear f E y p K;go_wp2_with fail
  replace f:=hid b;clear b;go_loopw [3,4] (fun cv iv wr=>∃i:Nat,iv=.int .i64 i/\cv=.int .i64 ((xn / 2 ^ i:Nat):Int)/\i<=r/\Sp w0 (SmB g (.slice (some z) n c) at_ O most bl 0::L) wr) (fun _ iv _=>r - (intOf iv).toNat)
  case atStart=>exact⟨0,rfl,by simp,Nat.zero_le _,f.out⟩
  case round =>
   clear f;obtain⟨i,rfl,rfl,Y,b⟩:=hrel;have y:wr.cell? ⟨g,1,none⟩=some (.int .i64 at_):=b.cell 0 rfl 1;have z1:wr.frozen? ⟨g,1,none⟩=false:=b.frozen 0 rfl 1;have I:xn / 2 ^ i<=xn:=Nat.div_le_self _ _;obtain⟨d,t⟩:=exq (xn / 2 ^ i);rw [t] at I ⊢;by_cases P:i<r
   ·have Z:(i:Int)<(r:Int):=by omega
    have u:xn / 2 ^ (i+1)=d / 2:=by rw [Nat.pow_succ,<- Nat.div_div_eq_div_mul,t]
    have f:=hid b;have J:=hid u;clear b t u;go_wp2_with fail
    go_roundw
    case rel=>exact⟨i+1,by go_num,by rw [J.out]; go_num,by omega,f.out⟩
    case measure=>first | (simp [intOf]; omega) | simp [intOf]
   ·have Z:¬ (i:Int)<(r:Int):=by omega
    obtain rfl:i=r:=by omega
    rw [t] at D;have v:=b.set 1 (.int .i64 ((at_+1:Nat):Int));have Q:(at_:Int)+1=((at_+1:Nat):Int):=by omega
    rw [<- Q] at v;have f:=hid v;clear b v t Q;go_wp2_with fail
    go_ret;have e2:((d:Int) % 2)=((d % 2:Nat):Int):=by omega
    first | rw [e2] | skip
    exact DvEnd.yes D.out f.out
 ·have U:(at_:Int)≥8 * (n:Int):=by omega
  have j:=PI.number_none (l:=B) (a:=at_) (k:=1) (by omega);rw [o] at j;have D:=hid j;clear j o hb hn H;go_enter Tryd.func64,Tryd.ntmps64
  go_wp2_with fail
  go_quiet (fail)
  have b:=f.out.drewN nq;generalize w.drewN nq=wq at b ⊢;have R:=hid (vfail_ok g (.slice A n c) at_ O most bl 4 b);clear f b E y K;go_wp2_with fail
  refine R.out.mono ?_;rintro _ w2 ⟨rfl,v⟩;clear R;go_wp2_with fail
  go_ret;exact DvEnd.no D.out (by decide) v
theorem vnumber_dead (g:Nat) (V:Value) (at_:Nat) (O:Value) (most:Nat) (bl:Value) (k d:Nat) (hd:d≠0) (hk:k<=16) (H:Sp w0 (SmB g V at_ O most bl d::L) w) :
  Calls Tryd.prog 38 #[.pointer (some ⟨g,0,none⟩),.int .i64 k] w fun e w'=>e=.returned (.int .i64 0)/\Sp w0 (SmB g V at_ O most bl d::L) w':=by
 have p:w.cell? ⟨g,5,none⟩=some (.int .i64 d):=H.cell 0 rfl 5;have q:((d:Int) == 0)=false:=by rw [beq_eq_false_iff_ne]; omega
 have j : ¬ (d:Int)=0:=by omega
 have r:=hid hd;have c:=hid H;clear H hd;go_enter Tryd.func38,Tryd.ntmps38
 go_wp2_with fail
 go_quiet (fail)
 have a:=c.out.drewN nq;generalize w.drewN nq=wq at a ⊢;clear c p;replace c:=hid a;clear a;go_wp2_with fail
 go_loopw [5,6,7] (fun nv bv iv wr=>∃i:Nat,iv=.int .i64 i/\nv=.int .i64 0/\bv=.int .i64 ((2 ^ i:Nat):Int)/\i<=k/\Sp w0 (SmB g V at_ O most bl d::L) wr) (fun _ _ iv _=>k - (intOf iv).toNat)
 case atStart=>exact⟨0,rfl,rfl,rfl,Nat.zero_le _,c.out⟩
 case round =>
  clear c q j;obtain⟨i,rfl,rfl,rfl,s,a⟩:=hrel;have l:(2:Nat) ^ i<=2 ^ 16:=Nat.pow_le_pow_right (by decide) (by omega);have f:(2:Nat) ^ (i+1)=2 * 2 ^ i:=by rw [Nat.pow_succ,Nat.mul_comm]
  have h:=hid f;obtain⟨b,n⟩:=exq ((2:Nat) ^ i);rw [n] at l h ⊢;have t : b<=65536:=l;clear n l f;by_cases u:i<k
  ·have v:(i:Int)<(k:Int):=by omega
   have o:=hid (YZ g V at_ O most bl d r.out a);clear a;go_wp2_with fail
   refine o.out.mono ?_;rintro _ x ⟨rfl,m⟩;clear o;replace m:=hid m;go_wp2_with fail
   go_roundw
   case rel=>exact⟨i+1,by go_num,by first | rfl | simp,by rw [h.out]; go_num,by omega,m.out⟩
   case measure=>first | (simp [intOf]; omega) | simp [intOf]
  ·have v:¬ (i:Int)<(k:Int):=by omega
   go_wp2_with fail
   go_ret;exact⟨rfl,a⟩
theorem Zt (g:Nat) (A:Option Addr) (n c:Nat) (B:List UInt8) (at_:Nat) (O:Value) (most:Nat) (bl:Value) (k:Nat) (H:Sp w0 (SmB g (.slice A n c) at_ O most bl 0::L) w) (hn:n=B.length) (hnm:n<=1000000) (hat:at_<=8 * n) (hk:k<=16) (hb:Ent L fun w=>Byt w (.slice A n c) B) :
  Calls Tryd.prog 38 #[.pointer (some ⟨g,0,none⟩),.int .i64 k] w (DvEnd w0 L g (.slice A n c) O most bl (PI.number (PBits.ofB B) at_ k)):=by
 have V:w.cell? ⟨g,0,none⟩=some (.slice A n c):=H.cell 0 rfl 0;have W:w.cell? ⟨g,1,none⟩=some (.int .i64 at_):=H.cell 0 rfl 1;have X:w.cell? ⟨g,5,none⟩=some (.int .i64 0):=H.cell 0 rfl 5;have h:=hid H;have I:=hid hn;have F:=hid hb;obtain⟨T,q⟩:=exq (PI.number (PBits.ofB B) at_ k);rw [q];by_cases a0:at_+k<=8 * n
 ·have J:¬ (k:Int) > 8 * (n:Int) - (at_:Int):=by omega
  have j:T=.ok (at_+k,PI.numAt (PBits.ofB B) at_ k):=by
   rw [<- q]; unfold PI.number; rw [if_pos (by rw [PBits.ofB_length]; omega)]
  have G:=hid j;clear j q hb H hn;go_enter Tryd.func38,Tryd.ntmps38
  go_wp2_with fail
  go_quiet (fail)
  have d:=h.out.drewN nq;generalize w.drewN nq=wq at d ⊢;clear h V W X J;have h:=hid d;clear d;go_wp2_with fail
  go_loopw [5,6,7] (fun nv bv iv wr=>∃i x:Nat,iv=.int .i64 i/\nv=.int .i64 x/\bv=.int .i64 ((2 ^ i:Nat):Int)/\i<=k/\x<2 ^ i/\Hid (x=PI.numAt (PBits.ofB B) at_ i)/\Sp w0 (SmB g (.slice A n c) (at_+i) O most bl 0::L) wr) (fun _ _ iv _=>k - (intOf iv).toNat)
  case atStart=>exact⟨0,0,rfl,rfl,rfl,Nat.zero_le _,by decide,hid rfl,h.out⟩
  case round =>
   clear h;obtain⟨i,x,rfl,rfl,rfl,K,Y,o,d⟩:=hrel;have p:(2:Nat) ^ i<=2 ^ 16:=Nat.pow_le_pow_right (by decide) (by omega);have f:(2:Nat) ^ (i+1)=2 * 2 ^ i:=by rw [Nat.pow_succ,Nat.mul_comm]
   have e:=hid f;have r:=hid (show(2:Nat) ^ i=2 ^ i from rfl);by_cases M:i<k
   ·have N:(i:Int)<(k:Int):=by omega
    have s:=PI.numAt_succ (PBits.ofB B) at_ i (by rw [PBits.ofB_length,<- I.out]; omega);have j:PI.number (PBits.ofB B) (at_+i) 1=.ok (at_+i+1,PI.numAt (PBits.ofB B) (at_+i) 1):=by
     unfold PI.number; rw [if_pos (by rw [PBits.ofB_length,<- I.out]; omega)]
    have v:=PI.numAt_lt (PBits.ofB B) (at_+i) 1;obtain⟨y,Z⟩:=exq (PI.numAt (PBits.ofB B) (at_+i) 1);rw [Z] at j s v;rw [<- o.out] at s;obtain⟨b,z⟩:=exq ((2:Nat) ^ i);rw [z] at p e Y s ⊢;have P : b<=65536:=p;have Q:y=0∨y=1:=by omega
    have R:b * y<=b:=by rcases Q with rfl | rfl <;> omega
    have C:=hid (We g A n c B (at_+i) O most bl d I.out hnm (by omega) F.out);have S:=hid s;have D:=hid j;clear z p f s j Z d r o v;go_wp2_with fail
    refine C.out.mono ?_;intro e9 w2 k9;obtain⟨rfl,m⟩:=DvEnd.got D.out k9;clear C k9 D;replace m:=hid m;obtain⟨t,U⟩:=exq (b * y);have y1:(b:Int) * (y:Int)=(t:Int):=by rw [<- U,Int.natCast_mul]
    rw [U] at S R
    have E:x+t<2 * b:=by omega
    obtain⟨u,hu⟩:=exq (x+t);have y2:(x:Int)+(t:Int)=(u:Int):=by omega
    rw [hu] at S E;have a1:u<=200000:=by omega
    clear U hu;go_wp2_with fail
    go_roundw
    case rel=>exact⟨i+1,u,by go_num,rfl,by rw [e.out]; go_num,by omega,by rw [e.out]; exact E,hid S.out.symm,m.out⟩
    case measure=>first | (simp [intOf]; omega) | simp [intOf]
   ·have N:¬ (i:Int)<(k:Int):=by omega
    obtain rfl:i=k:=by omega
    rw [<- o.out] at G;clear o p f e r Y;go_wp2_with fail
    go_ret;exact DvEnd.yes G.out d
 ·have J:(k:Int) > 8 * (n:Int) - (at_:Int):=by omega
  have j:=PI.number_none (l:=B) (a:=at_) (k:=k) (by omega);rw [q] at j;have G:=hid j;clear j q hb H hn;go_enter Tryd.func38,Tryd.ntmps38
  go_wp2_with fail
  go_quiet (fail)
  have d:=h.out.drewN nq;generalize w.drewN nq=wq at d ⊢;have HF:=hid (vfail_ok g (.slice A n c) at_ O most bl 4 d);clear h d V W X;go_wp2_with fail
  refine HF.out.mono ?_;rintro _ w2 ⟨rfl,m⟩;clear HF J;have h:=hid m;clear m;go_wp2_with fail
  go_loopw [5,6,7] (fun nv bv iv wr=>∃i:Nat,iv=.int .i64 i/\nv=.int .i64 0/\bv=.int .i64 ((2 ^ i:Nat):Int)/\i<=k/\Sp w0 (SmB g (.slice A n c) at_ O most bl 4::L) wr) (fun _ _ iv _=>k - (intOf iv).toNat)
  case atStart=>exact⟨0,rfl,rfl,rfl,Nat.zero_le _,h.out⟩
  case round =>
   clear h;obtain⟨i,rfl,rfl,rfl,K,d⟩:=hrel;have p:(2:Nat) ^ i<=2 ^ 16:=Nat.pow_le_pow_right (by decide) (by omega);have f:(2:Nat) ^ (i+1)=2 * 2 ^ i:=by rw [Nat.pow_succ,Nat.mul_comm]
   have e:=hid f;obtain⟨b,hb⟩:=exq ((2:Nat) ^ i);rw [hb] at p e ⊢;have P : b<=65536:=p;clear hb p f;by_cases M:i<k
   ·have N:(i:Int)<(k:Int):=by omega
    have F:=hid (YZ g (.slice A n c) at_ O most bl 4 (by decide) d);clear d;go_wp2_with fail
    refine F.out.mono ?_;rintro _ w2 ⟨rfl,m⟩;clear F;replace m:=hid m;go_wp2_with fail
    go_roundw
    case rel=>exact⟨i+1,by go_num,by first | rfl | simp,by rw [e.out]; go_num,by omega,m.out⟩
    case measure=>first | (simp [intOf]; omega) | simp [intOf]
   ·have N:¬ (i:Int)<(k:Int):=by omega
    go_wp2_with fail
    go_ret;exact DvEnd.no G.out (by decide) d
end Go.Proofs.YteajimobgkempaaDoor

