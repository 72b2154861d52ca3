/- A pack. -/
import Derived.Deep.CutRange
import Derived.Lib.QuoteBits
import Derived.Test.YteajimobgkempaaGreatDoorPk15
set_option linter.all false
set_option maxRecDepth 100000
set_option maxHeartbeats 8000000
namespace Go.Proofs.YteajimobgkempaaGreatDoor.PBits
def le:List UInt8->Nat
 | []=>0
 | b::l=>b.toNat+256 * le l
def bytesOf (V:Nat):Nat->List UInt8
 | 0=>[]
 | n+1=>UInt8.ofNat (V % 256)::bytesOf (V / 256) n
theorem le_lt (l:List UInt8):le l<256 ^ l.length:=by
 induction l with
 | nil=>simp [le]
 | cons b l ih =>
  have:=b.toNat_lt;simp only [le,List.length_cons,Nat.pow_succ];omega
theorem bytesOf_length (V n:Nat):(bytesOf V n).length=n:=by
 induction n generalizing V with
 | zero=>rfl
 | succ n ih=>simp [bytesOf,ih]
theorem bytesOf_le (l:List UInt8):bytesOf (le l) l.length=l:=by
 induction l with
 | nil=>rfl
 | cons b l ih =>
  have d:=b.toNat_lt;have a:(b.toNat+256 * le l) % 256=b.toNat:=by omega
  have c:(b.toNat+256 * le l) / 256=le l:=by omega
  simp only [le,List.length_cons,bytesOf,a,c,ih];simp
theorem bytesOf_add (V n m:Nat):bytesOf V (n+m)=bytesOf V n++bytesOf (V / 256 ^ n) m:=by
 induction n generalizing V with
 | zero=>simp [bytesOf]
 | succ n ih =>
  rw [show n+1+m=(n+m)+1 by omega];simp only [bytesOf,ih,List.cons_append,Nat.div_div_eq_div_mul];rw [show 256 * 256 ^ n=256 ^ (n+1) by rw [Nat.pow_succ,Nat.mul_comm]]
theorem bytesOf_more (V W n:Nat):bytesOf (V+W * 256 ^ n) n=bytesOf V n:=by
 induction n generalizing V W with
 | zero=>rfl
 | succ n ih =>
  have a:(V+W * 256 ^ (n+1)) % 256=V % 256:=by
   rw [Nat.pow_succ,<- Nat.mul_assoc,Nat.add_mul_mod_self_right]
  have b:(V+W * 256 ^ (n+1)) / 256=V / 256+W * 256 ^ n:=by
   rw [Nat.pow_succ,<- Nat.mul_assoc,Nat.add_mul_div_right _ _ (by omega)]
  simp only [bytesOf,a,b,ih]
def rev (n:Nat):Nat->Nat
 | 0=>0
 | k+1=>(n % 2) * 2 ^ k+rev (n / 2) k
theorem rev_lt (n k:Nat):rev n k<2 ^ k:=by
 induction k generalizing n with
 | zero=>simp [rev]
 | succ k ih =>
  have:=ih (n / 2);have a:n % 2=0∨n % 2=1:=by omega
  simp only [rev,Nat.pow_succ];rcases a with h | h <;> rw [h] <;> omega
theorem rev_bit (n k i:Nat):(rev n k).testBit i=(decide (i<k) && n.testBit (k - 1 - i)):=by
 induction k generalizing n i with
 | zero=>simp [rev]
 | succ k ih =>
  have b:=rev_lt (n / 2) k;simp only [rev];rw [Nat.mul_comm,Nat.testBit_two_pow_mul_add _ b,ih];by_cases a:i<k
  ·have e:k+1 - 1 - i=(k - 1 - i)+1:=by omega
   rw [if_pos a,e,Nat.testBit_succ];simp [a,show i<k+1 by omega]
  ·rw [if_neg a];by_cases c:i=k
   ·subst c;simp [Nat.testBit_zero]
   ·have d:¬ i<k+1:=by omega
    have f:∃j,i - k=j+1:=⟨i - k - 1,by omega⟩;obtain⟨j,g⟩:=f;rw [g,Nat.testBit_succ];have h:n % 2 / 2=0:=by omega
    simp [d,h]
def sw (s M x:Nat):Nat:=(x / 2 ^ s &&& M) ||| (x &&& M) * 2 ^ s
def swi (s i:Nat):Nat:=if i / s % 2=0 then i+s else i - s
def Mask (s M:Nat):Prop:=∀j,j<64->M.testBit j=decide (j / s % 2=0)
theorem sw_bit (s M x i:Nat) (hs:s=1∨s=2∨s=4∨s=8∨s=16∨s=32) (hM:Mask s M) (hi:i<64):(sw s M x).testBit i=x.testBit (swi s i):=by
 unfold sw swi;rw [Nat.testBit_or,Nat.testBit_and,Nat.testBit_div_two_pow,Nat.testBit_mul_two_pow,Nat.testBit_and,hM i hi,hM (i - s) (by omega)];by_cases h:i / s % 2=0
 ·have b:s<=i->¬ (i - s) / s % 2=0:=by
   rcases hs with rfl | rfl | rfl | rfl | rfl | rfl <;> omega
  rw [if_pos h];by_cases a:s<=i
  ·simp [h,b a]
  ·simp [h,a]
 ·have b:(i - s) / s % 2=0:=by
   rcases hs with rfl | rfl | rfl | rfl | rfl | rfl <;> omega
  have a:s<=i:=by
   rcases hs with rfl | rfl | rfl | rfl | rfl | rfl <;> omega
  rw [if_neg h];simp [h,b,a]
theorem mask1:Mask 1 6148914691236517205:=by unfold Mask; decide +kernel
theorem mask2:Mask 2 3689348814741910323:=by unfold Mask; decide +kernel
theorem mask4:Mask 4 1085102592571150095:=by unfold Mask; decide +kernel
theorem mask8:Mask 8 71777214294589695:=by unfold Mask; decide +kernel
theorem mask16:Mask 16 281470681808895:=by unfold Mask; decide +kernel
theorem mask32:Mask 32 4294967295:=by unfold Mask; decide +kernel
def rev64 (x:Nat):Nat:=sw 32 4294967295 (sw 16 281470681808895 (sw 8 71777214294589695 (sw 4 1085102592571150095 (sw 2 3689348814741910323 (sw 1 6148914691236517205 x)))))
theorem swi_all:∀i,i<64->swi 1 (swi 2 (swi 4 (swi 8 (swi 16 (swi 32 i)))))=63 - i/\swi 32 i<64/\swi 16 (swi 32 i)<64/\swi 8 (swi 16 (swi 32 i))<64/\swi 4 (swi 8 (swi 16 (swi 32 i)))<64/\swi 2 (swi 4 (swi 8 (swi 16 (swi 32 i))))<64:=by decide +kernel
theorem rev64_bit (x i:Nat) (hi:i<64):(rev64 x).testBit i=x.testBit (63 - i):=by
 obtain⟨a,b,c,d,e,f⟩:=swi_all i hi;unfold rev64;rw [sw_bit 32 _ _ _ (by omega) mask32 hi,sw_bit 16 _ _ _ (by omega) mask16 b,sw_bit 8 _ _ _ (by omega) mask8 c,sw_bit 4 _ _ _ (by omega) mask4 d,sw_bit 2 _ _ _ (by omega) mask2 e,sw_bit 1 _ _ _ (by omega) mask1 f,a]
theorem sw_lt (s M x:Nat) (hM:M * 2 ^ s<18446744073709551616) (hM2:M<18446744073709551616):sw s M x<18446744073709551616:=by
 unfold sw;rw [show(18446744073709551616:Nat)=2 ^ 64 by decide] at *;refine Nat.or_lt_two_pow (Nat.and_lt_two_pow _ hM2) ?_;exact Nat.lt_of_le_of_lt (Nat.mul_le_mul_right _ Nat.and_le_right) hM
theorem rev64_lt (x:Nat):rev64 x<18446744073709551616:=by
 unfold rev64 sw;rw [show(18446744073709551616:Nat)=2 ^ 64 by decide];refine Nat.or_lt_two_pow (Nat.and_lt_two_pow _ (by decide)) ?_;exact Nat.lt_of_le_of_lt (Nat.mul_le_mul_right _ Nat.and_le_right) (by decide)
theorem rev64_rev (x k:Nat) (hk:k<=64):rev64 x / 2 ^ (64 - k)=rev x k:=by
 apply Nat.eq_of_testBit_eq;intro i;rw [Nat.testBit_div_two_pow,rev_bit];by_cases h:i<k
 ·rw [rev64_bit _ _ (by omega),show 63 - (i+(64 - k))=k - 1 - i by omega];simp [h]
 ·rw [Nat.testBit_lt_two_pow (Nat.lt_of_lt_of_le (rev64_lt x) (by rw [show(18446744073709551616:Nat)=2 ^ 64 by decide]; exact Nat.pow_le_pow_right (by omega) (by omega)))];simp [h]
theorem pow_parts (N:Nat):2 ^ N=2 ^ (N % 8) * 256 ^ (N / 8):=by
 rw [show(256:Nat)=2 ^ 8 by decide,<- Nat.pow_mul,<- Nat.pow_add];congr 1;omega
theorem put_bytes (V n N:Nat):bytesOf (V+n * 2 ^ N) (N / 8)=bytesOf V (N / 8):=by
 rw [pow_parts N,<- Nat.mul_assoc,bytesOf_more]
theorem put_wait (V n N:Nat):(V+n * 2 ^ N) / 256 ^ (N / 8)=V / 256 ^ (N / 8)+n * 2 ^ (N % 8):=by
 rw [pow_parts N,<- Nat.mul_assoc,Nat.add_mul_div_right _ _ (Nat.pow_pos (by decide))]
theorem put_lt (V n N k:Nat) (hV:V<2 ^ N) (hn:n<2 ^ k):V+n * 2 ^ N<2 ^ (N+k):=by
 have h:(n+1) * 2 ^ N<=2 ^ k * 2 ^ N:=Nat.mul_le_mul_right _ hn;rw [Nat.add_mul,Nat.one_mul] at h;rw [Nat.pow_add,Nat.mul_comm (2 ^ N)];omega
theorem byte_next (X q:Nat):bytesOf X (q+1)=bytesOf X q++[UInt8.ofNat (X / 256 ^ q % 256)]:=by
 rw [bytesOf_add];rfl
theorem div_next (X q:Nat):X / 256 ^ q / 256=X / 256 ^ (q+1):=by
 rw [Nat.div_div_eq_div_mul,Nat.pow_succ]
end Go.Proofs.YteajimobgkempaaGreatDoor.PBits

namespace Go.Proofs.YteajimobgkempaaGreatDoor
variable {w0 w:World} {L:List Pr}
open Go.RowKit
def cellsBo (l:List Bool):List Value:=l.map Value.bool
theorem Rd.atB {w:World} {A:Option Addr} {l:List Bool} (h:Rd w A (cellsBo l)) {k:Nat} (hk:k<l.length) :
  ∃ad,A=some ad/\w.cell? (ad.add k)=some (.bool l[k]):=by
 obtain⟨ad,e,a⟩:=h.at_ (k:=k) (by simpa [cellsBo] using hk);exact⟨ad,e,by simpa [cellsBo] using a⟩
def bitV (b:Bool):Nat:=if b then 1 else 0
namespace PH
def numb (l:List Bool):Nat:=l.foldl (fun x b=>2 * x+bitV b) 0
def nextFrom (m:List Nat) (l:List Bool):Nat->Nat->Nat × Int × Nat
 | 0,n=>(n,20,0)
 | k+1,n=>if l.length<=n then (n,4,0) else
  if numb (l.take (n+1))<fst m (n+1)+tal m (n+1) then (n+1,0,(rows m).getD ((rowsB m n).length+(numb (l.take (n+1)) - fst m (n+1))) 0) else nextFrom m l k (n+1)
theorem rowsB_tal (m:List Nat) (n:Nat):(rowsB m (n+1)).length=(rowsB m n).length+tal m (n+1):=by
 rw [rowsB,List.length_append];congr 1;unfold tal;rw [if_neg (by omega)];have h:∀k,k<=m.length->(idx m (n+1) k).length=(m.take k).count (n+1):=by
  intro k;induction k with
  | zero=>intro _; simp [idx]
  | succ k ih =>
   intro c;have a:=ih (by omega);have b:m.getD k 0=m[k]'(by omega):=by rw [List.getD_eq_getElem?_getD,List.getElem?_eq_getElem (by omega)]; rfl
   rw [idx_succ,List.take_succ_eq_append_getElem (by omega),List.count_append,b];by_cases e:m[k]'(by omega)=n+1
   ·rw [if_pos e,List.length_append,a,e]; simp
   ·rw [if_neg e,a]; simp [e]
 have:=h m.length (Nat.le_refl _)
 rwa [List.take_length] at this
theorem rowsB_mono (m:List Nat) (n k:Nat) (h:n<=k):(rowsB m n).length<=(rowsB m k).length:=by
 obtain⟨d,rfl⟩:∃d,k=n+d:=⟨k - n,by omega⟩;clear h;induction d with
 | zero=>exact Nat.le_refl _
 | succ d ih=>have:=rowsB_tal m (n+d); rw [<- Nat.add_assoc]; omega
theorem fst_next (m:List Nat) (i:Nat):fst m (i+1)=2 * (fst m i+tal m i):=by
 cases i with
 | zero=>rfl
 | succ i=>rw [show fst m (i+1+1)=(fst m (i+1)+tal m (i+1)) * 2 from rfl]; omega
end PH
theorem Wl (n:Nat) (hn:n<=15) (w:World):Calls Tryz.prog 124 #[.int .i64 n] w fun e w'=>e=.returned (.int .i64 ((2 ^ n:Nat):Int))/\w=w':=by
 go_enter Tryz.func124,Tryz.ntmps124
 go_wp2_with fail
 go_loopw [3,4] (fun c3 c4 wr=>∃(i x:Nat),c3=.int .i64 x/\c4=.int .i64 i/\i<=n/\2 ^ i=x/\w=wr) (fun _ c4 _=>n - (intOf c4).toNat)
 case atStart=>exact⟨0,1,rfl,rfl,Nat.zero_le _,rfl,rfl⟩
 case round =>
  obtain⟨i,x,rfl,rfl,f,a,rfl⟩:=hrel;have c:x<=32768:=by
   rw [<- a];have:(2:Nat) ^ i<=2 ^ 15:=Nat.pow_le_pow_right (by omega) (by omega);exact this
  have b:=hid a;clear a;by_cases h:i<n
  ·have d:(i:Int)<(n:Int):=by omega
   go_wp2_with fail
   go_roundw
   case rel=>exact⟨i+1,2 * x,by go_num,by go_num,by omega,by rw [Nat.pow_succ,b.out]; omega,trivial⟩
   case measure=>first | (simp [intOf]; omega) | simp [intOf]
  ·have d:¬ (i:Int)<(n:Int):=by omega
   obtain rfl:i=n:=by omega
   go_wp2_with fail
   go_ret;exact⟨Z1 (by have:=b.out; norm_cast; exact this.symm),rfl⟩
namespace PH
theorem tal_pos (m:List Nat) (n:Nat) (h:n≠0):tal m n=m.count n:=by unfold tal; rw [if_neg h]
theorem rank_lt (m:List Nat) (i n:Nat) (hi:i<m.length) (hn:m.getD i 0=n):(m.take i).count n<m.count n:=by
 have h:=List.take_append_drop i m;have a:m.drop i=m[i]::m.drop (i+1):=List.drop_eq_getElem_cons hi;have b:m[i]=n:=by rw [<- hn,List.getD_eq_getElem?_getD,List.getElem?_eq_getElem hi]; rfl
 have e:m.count n=(m.take i).count n+(m.drop i).count n:=by
  conv=>lhs; rw [<- h]
  rw [List.count_append]
 rw [e,a,b,List.count_cons_self]; omega
theorem codeAt_of (m:List Nat) (i n:Nat) (hn:m.getD i 0=n) (h0:n≠0):codeAt m i=fst m n+(m.take i).count n:=by
 unfold codeAt; rw [hn,if_neg h0]
theorem codeAt_lt (m:List Nat) (i n:Nat) (hi:i<m.length) (hn:m.getD i 0=n) (h0:n≠0):fst m n<=codeAt m i/\codeAt m i<fst m n+tal m n:=by
 rw [codeAt_of m i n hn h0,tal_pos m n h0];have:=rank_lt m i n hi hn;omega
theorem fst_share15 (m:List Nat) (n:Nat) (h1:1<=n) (h:n<=15):fst m n * 2 ^ (15 - n)=share m n:=by
 have:=fst_share m n h1 (by omega);rw [show 16 - n=(15 - n)+1 by omega,Nat.pow_succ,<- Nat.mul_assoc] at this;omega
theorem share_next (m:List Nat) (n:Nat) (h1:1<=n) (h:n<=15):(fst m n+tal m n) * 2 ^ (15 - n)=share m (n+1):=by
 rw [Nat.add_mul,fst_share15 m n h1 h,share]
theorem share_one (m:List Nat):share m 1=0:=by simp [share,tal]
def hit (m:List Nat) (R i:Nat):Prop:=m.getD i 0≠0/\R / 2 ^ (15 - m.getD i 0)=codeAt m i
instance (m:List Nat) (R i:Nat):Decidable (hit m R i):=inferInstanceAs (Decidable (_/\_))
theorem tal_le_rows (m:List Nat) (n:Nat) (h1:1<=n) (h:n<=15):tal m n<=(rows m).length:=by
 obtain⟨p,rfl⟩:∃p,n=p+1:=⟨n - 1,by omega⟩;have a:=rowsB_tal m p;have b:=rowsB_mono m (p+1) 15 h;unfold rows; omega
theorem sum_none (m:List Nat) (h:(rows m).length=0):sum m=0:=by
 have a:∀n,n<=16->share m n=0:=by
  intro n;induction n with
  | zero=>intro _; rfl
  | succ n ih =>
   intro b;rw [share,ih (by omega)];rcases Nat.eq_zero_or_pos n with h0 | h0
   ·subst h0; simp [tal]
   ·have:=tal_le_rows m n h0 (by omega);rw [show tal m n=0 by omega]; simp
 exact a 16 (Nat.le_refl _)
theorem sum_single (m:List Nat) (h:(rows m).length=1) (h1:tal m 1=1):sum m=16384:=by
 have b:∀n,2<=n->n<=15->tal m n=0:=by
  intro n c d;obtain⟨p,rfl⟩:∃p,n=p+1:=⟨n - 1,by omega⟩;have e:=rowsB_tal m 0;have f:=rowsB_mono m 1 p (by omega);have g:=rowsB_tal m p;have i:=rowsB_mono m (p+1) 15 d;unfold rows at h;rw [show(rowsB m 0).length=0 from rfl,show 0+1=1 from rfl] at e;omega
 have a:∀n,2<=n->n<=16->share m n=16384:=by
  intro n;induction n with
  | zero=>intro h; omega
  | succ n ih =>
   intro c j;rcases Nat.lt_or_ge n 2 with q | q
   ·obtain rfl:n=1:=by omega
    rw [share,share_one,h1]
   ·rw [share,ih q (by omega),b n q (by omega)]; simp
 exact a 16 (by omega) (by omega)
theorem share_two (m:List Nat):share m 2=tal m 1 * 16384:=by rw [share,share_one]; simp
theorem many_no_book (m:List Nat) (h:PH.state m=1):mayBook m=false:=by
 have a:32768<sum m:=by
  unfold PH.state at h;by_cases q:sum m<32768
  ·rw [if_pos q] at h; omega
  ·rw [if_neg q] at h;by_cases b:32768<sum m
   ·exact b
   ·rw [if_neg b] at h; omega
 cases hb:mayBook m with
 | false=>rfl
 | true =>
  exfalso;unfold mayBook at hb;simp only [Bool.or_eq_true,Bool.and_eq_true,decide_eq_true_eq] at hb;rcases hb with h2 | h2 | ⟨h1,h2⟩
  ·omega
  ·rw [sum_none m h2] at a; omega
  ·rw [sum_single m h1 h2] at a; omega
end PH
namespace PH
theorem tal_append (a b:List Nat) (n:Nat):tal (a++b) n=tal a n+tal b n:=by
 unfold tal;split
 ·rfl
 ·exact List.count_append
theorem share_append (a b:List Nat) (k:Nat):share (a++b) k=share a k+share b k:=by
 induction k with
 | zero=>rfl
 | succ k ih=>rw [share,share,share,ih,tal_append,Nat.add_mul]; omega
theorem share_single (x:Nat) (k:Nat):share [x] k=if 0<x/\x<k then 2 ^ (15 - x) else 0:=by
 induction k with
 | zero=>rw [if_neg (by omega)]; rfl
 | succ k ih =>
  rw [share,ih];have d:tal [x] k=if k=0 then 0 else if x=k then 1 else 0:=by
   unfold tal;by_cases a:k=0
   ·rw [if_pos a,if_pos a]
   ·rw [if_neg a,if_neg a,List.count_singleton];by_cases b:x=k
    ·rw [if_pos b,if_pos (by simpa using b)]
    ·rw [if_neg b,if_neg (by simpa using b)]
  rw [d];by_cases b:x=k
  ·subst b;by_cases a:x=0
   ·rw [if_pos a,if_neg (by omega),if_neg (by omega)]; simp
   ·rw [if_neg a,if_pos rfl,if_neg (by omega),if_pos (by omega)]; omega
  ·rw [show(if k=0 then 0 else if x=k then 1 else 0)=0 by simp [b],Nat.zero_mul,Nat.add_zero];by_cases c:0<x/\x<k
   ·rw [if_pos c,if_pos (by omega)]
   ·rw [if_neg c,if_neg (by omega)]
theorem sum_take (m:List Nat) (i:Nat) (hi:i<m.length) (x:Nat) (hx:m[i]=x) (h15:x<=15):sum (m.take (i+1))=sum (m.take i)+if 0<x then 2 ^ (15 - x) else 0:=by
 unfold sum;rw [List.take_succ_eq_append_getElem hi,share_append,hx,share_single];congr 1;by_cases h:0<x
 ·rw [if_pos h,if_pos (by omega)]
 ·rw [if_neg h,if_neg (by omega)]
end PH
theorem Vs (A:Option Addr) (n c:Nat) (m:List Nat) (H:Sp w0 L w) (hn:n=m.length) (hb:Ent L fun w=>Rd w A (cells64 (castI m))) (hl:n<=1024) (h15:∀x ∈ m,x<=15) :
  Calls Tryz.prog 144 #[.slice A n c] w fun e w'=>e=.returned (.tuple #[.int .i64 (PH.state m),.int .i64 0])/\Sp w0 L w':=by
 have M:=hid hn;have R:=hid hb;have B:=hid h15;have X:¬ (1024:Int)<(n:Int):=by omega
 clear hn hb h15;obtain⟨st,g⟩:=exq (PH.state m);rw [g];have C:=hid g;clear g;go_enter Tryz.func144,Tryz.ntmps144
 go_wp2_with fail
 go_loopw [4,5] (fun sv iv wr=>∃(i s:Nat),iv=.int .i64 i/\sv=.int .i64 s/\i<=n/\s<=i * 16384/\Hid (PH.sum (m.take i)=s)/\Sp w0 L wr) (fun _ iv _=>n - (intOf iv).toNat)
 case atStart=>exact⟨0,0,rfl,rfl,Nat.zero_le _,Nat.zero_le _,hid rfl,H⟩
 case round =>
  clear H;obtain⟨i,s,rfl,rfl,Y,S,N,H⟩:=hrel;by_cases D:i<n
  ·have T:(i:Int)<(n:Int):=by omega
   have j:i<m.length:=by rw [<- M.out]; exact D
   obtain⟨U,E,O⟩:=(R.out _ _ H).at64 (k:=i) (by simpa [castI] using j);obtain⟨x,y⟩:=exq (m[i]);have r:x<=15:=by rw [<- y]; exact B.out _ (List.getElem_mem j)
   replace O:wr.cell? (U.add i)=some (.int .i64 x):=by
    rw [O];simp [castI,y]
   subst E;have b:=PH.sum_take m i j x y r;rw [N.out] at b;have t:=hid b;have Z:¬ (x:Int)<0:=by omega
   have k3:¬ (15:Int)<(x:Int):=by omega
   clear y b;by_cases u:0<x
   ·have V:(0:Int)<(x:Int):=by omega
    obtain⟨d,P⟩:=exq (15 - x);have y1:(15:Int) - (x:Int)=(d:Int):=by omega
    have v:d<=15:=by omega
    obtain⟨p,z⟩:=exq (2 ^ d);have W:p<=16384:=by
     rw [<- z];have:(2:Nat) ^ d<=2 ^ 14:=Nat.pow_le_pow_right (by omega) (by omega);exact this
    have l:=fun w=>Wl d v w;rw [z] at l;have F:=hid l;have f:PH.sum (m.take (i+1))=s+p:=by rw [t.out,if_pos u,P,z]
    have o:=hid f;clear P z l f;go_wp2_with fail
    refine(F.out _).mono ?_;rintro _ _ ⟨rfl,rfl⟩;go_wp2_with fail
    go_roundw
    case rel=>exact⟨i+1,s+p,by go_num,by go_num,by omega,by rw [Nat.succ_mul]; omega,o,H⟩
    case measure=>first | (simp [intOf]; omega) | simp [intOf]
   ·have V:¬ (0:Int)<(x:Int):=by omega
    have f:PH.sum (m.take (i+1))=s:=by rw [t.out,if_neg u,Nat.add_zero]
    have o:=hid f;clear f;go_wp2_with fail
    go_roundw
    case rel=>exact⟨i+1,s,by go_num,rfl,by omega,by rw [Nat.succ_mul]; omega,o,H⟩
    case measure=>first | (simp [intOf]; omega) | simp [intOf]
  ·have T:¬ (i:Int)<(n:Int):=by omega
   obtain rfl:i=n:=by omega
   have G:=N.out;rw [List.take_of_length_le (by rw [M.out]; exact Nat.le_refl _)] at G;have a:=C.out;unfold PH.state at a;rw [G] at a;have q:=hid a;clear G a;by_cases I:s<32768
   ·have J:(s:Int)<32768:=by omega
    go_wp2_with fail
    go_ret2;have h:=q.out;rw [if_pos I] at h;rw [<- h];exact⟨rfl,H⟩
   ·have J:¬ (s:Int)<32768:=by omega
    by_cases Q:32768<s
    ·have K:(32768:Int)<(s:Int):=by omega
     go_wp2_with fail
     go_ret2;have h:=q.out;rw [if_neg I,if_pos Q] at h;rw [<- h];exact⟨rfl,H⟩
    ·have K:¬ (32768:Int)<(s:Int):=by omega
     go_wp2_with fail
     go_ret2;have h:=q.out;rw [if_neg I,if_neg Q] at h;rw [<- h];exact⟨rfl,H⟩
def laid (m:List Nat) (q i j:Nat):Nat:=if m.getD j 0=0 then 0 else if m.getD j 0<q∨(m.getD j 0=q/\j<i) then PH.codeAt m j else 0
theorem Vt (A:Option Addr) (n c:Nat) (m:List Nat) (H:Sp w0 L w) (hn:n=m.length) (hb:Ent L fun w=>Rd w A (cells64 (castI m))) (hl:n<=1024) (h15:∀x ∈ m,x<=15) (hs:PH.sum m<=32768) :
  Calls Tryz.prog 126 #[.slice A n c] w fun e w'=>∃v,e=.returned (.tuple #[v,.int .i64 0])/\Sp w0 (Row 43 1 v n (rowU (PH.codeAt m) n)::L) w':=by
 obtain⟨i0,S,T,s,U⟩:=info_parts infoU;have u:=Vs A n c m H hn hb hl h15;have V:((PH.state m) == 1)=false:=by
  rw [beq_eq_false_iff_ne];unfold PH.state;split
  ·omega
  ·rw [if_neg (by omega)]; omega
 obtain⟨st,o⟩:=exq (PH.state m);rw [o] at u V;have E:=hid u;have W:=hid hn;have HB:=hid hb;have F:=hid h15;have hf:∀k,k<=16->PH.fst m k<=65536:=fun k hk=>PH.fst_le m k hk hs;have HF:=hid hf;clear hn hb h15 hs hf u o;go_enter Tryz.func126,Tryz.ntmps126
 go_wp2_with fail
 refine E.out.mono ?_;rintro _ w1 ⟨rfl,H1⟩;clear E H;go_wp2_with (at_make; refine Zk rfl _ _ _ rfl 43 i0 (.int .u32 0) Tryz.underlying196 S T s rfl n rfl rfl (by rw [U]; omega) (by unfold maxLen; omega) H1 ?_)
 intro X w2 Y;rw [XF] at Y;clear H1;go_wp2_with fail
 go_loopw [7,8] (fun xv qv wr=>∃(q x:Nat),qv=.int .i64 ((q+1:Nat):Int)/\xv=.int .u32 x/\q<=15/\x<=70000/\Hid (x=PH.fst m q+PH.tal m q)/\Sp w0 (Row 43 1 (.slice (some X) n n) n (rowU (laid m (q+1) 0) n)::L) wr) (fun _ qv _=>16 - (intOf qv).toNat)
 case atStart =>
  refine⟨0,0,rfl,rfl,by omega,by omega,hid rfl,?_⟩;have e:laid m (0+1) 0=fun _=>0:=by
   funext j;unfold laid;split
   ·rfl
   ·rw [if_neg (by omega)]
  rw [e];exact Y
 case round =>
  clear Y;obtain⟨q,x,rfl,rfl,hq,hx,HX,H⟩:=hrel;have e1:((q+1:Nat):Int)=(q:Int)+1:=by omega
  rw [e1];by_cases a4:q<15
  ·have k1:(q:Int)+1<=15:=by omega
   obtain⟨y,hy⟩:=exq (2 * x);have B:y=PH.fst m (q+1):=by rw [PH.fst_next,<- HX.out,hy]
   have a6:y<=65536:=by rw [B]; exact HF.out _ (by omega)
   have yy:(2:Int) * (x:Int)=(y:Int):=by omega
   have HY:=hid B;clear hy B;go_wp2_with fail
   go_loopw [7,9] (fun xv iv wr=>∃(i z:Nat),iv=.int .i64 i/\xv=.int .u32 z/\i<=n/\z<=67000/\Hid (z=y+(m.take i).count (q+1))/\Sp w0 (Row 43 1 (.slice (some X) n n) n (rowU (laid m (q+1) i) n)::L) wr) (fun _ iv _=>n - (intOf iv).toNat)
   case atStart=>exact⟨0,y,rfl,rfl,Nat.zero_le _,by omega,hid (by simp),H⟩
   case round =>
    clear H;obtain⟨i,z,rfl,rfl,hi,hz,G,H⟩:=hrel;by_cases C:i<n
    ·have k2:(i:Int)<(n:Int):=by omega
     have f:i<m.length:=by rw [<- W.out]; exact C
     obtain⟨al,Z,hc⟩:=(HB.out _ _ H.tail).at64 (k:=i) (by simpa [castI] using f);obtain⟨t,I⟩:=exq (m[i]);have a5:t<=15:=by rw [<- I]; exact F.out _ (List.getElem_mem f)
     replace hc:wr.cell? (al.add i)=some (.int .i64 t):=by
      rw [hc];simp [castI,I]
     subst Z;have J:m.getD i 0=t:=by rw [List.getD_eq_getElem?_getD,List.getElem?_eq_getElem f,I]; rfl
     have a:(m.take (i+1)).count (q+1)=(m.take i).count (q+1)+if t=q+1 then 1 else 0:=by
      rw [List.take_succ_eq_append_getElem f,List.count_append,I,List.count_singleton];by_cases e:t=q+1
      ·rw [if_pos e,if_pos (by simpa using e)]
      ·rw [if_neg e,if_neg (by simpa using e)]
     have a0:(m.take (i+1)).count (q+1)<=1024:=Nat.le_trans List.count_le_length (by rw [List.length_take]; omega);have p:=hid a;have g:=hid J;have K:z+1<=67000∨t≠q+1:=by
      by_cases e:t=q+1
      ·left;rw [if_pos e] at a;have:=G.out;omega
      ·exact .inr e
     clear I J a a0;by_cases l:t=q+1
     ·have k3:((t:Int) == (q:Int)+1)=true:=by rw [beq_iff_eq]; omega
      obtain⟨a7,c2,ev,_,D,a8,r⟩:=H.rowSet C;injection ev with ev ev2 ev3
      injection ev with ev
      subst ev;clear ev2 ev3;have M:laid m (q+1) i i=0:=by
       unfold laid;rw [g.out];split
       ·rfl
       ·rw [if_neg (by omega)]
      rw [ZX _ _ _ C,M] at D;replace D:wr.cell? (X.add i)=some (.int .u32 0):=D;have R:=r (.int .u32 z);rw [Wj] at R;have b:PH.codeAt m i=z:=by
       rw [PH.codeAt_of m i (q+1) (by rw [g.out]; exact l) (by omega),G.out,HY.out]
      have d:(fun j=>if j=i then z else laid m (q+1) i j)=laid m (q+1) (i+1):=by
       funext j;by_cases e:j=i
       ·subst e;rw [if_pos rfl];unfold laid;rw [g.out,if_neg (by omega),if_pos (by omega),b]
       ·rw [if_neg e];unfold laid;split
        ·rfl
        ·by_cases h:m.getD j 0<q+1∨(m.getD j 0=q+1/\j<i)
         ·rw [if_pos h,if_pos (by omega)]
         ·rw [if_neg h,if_neg (by omega)]
      rw [d] at R;have a1:=hid R;have s:z+1<=67000:=by omega
      clear R r d b M K;go_wp2_with fail
      go_roundw
      case rel=>exact⟨i+1,z+1,by go_num,by go_num,by omega,s,hid (by rw [p.out,if_pos l,G.out]; omega),a1.out⟩
      case measure=>first | (simp [intOf]; omega) | simp [intOf]
     ·have k3:((t:Int) == (q:Int)+1)=false:=by rw [beq_eq_false_iff_ne]; omega
      have d:laid m (q+1) i=laid m (q+1) (i+1):=by
       funext j;unfold laid;split
       ·rfl
       ·by_cases h:m.getD j 0<q+1∨(m.getD j 0=q+1/\j<i)
        ·rw [if_pos h,if_pos (by omega)]
        ·rw [if_neg h,if_neg];rintro(N | ⟨N,h3⟩)
         ·exact h (.inl N)
         ·by_cases e:j=i
          ·subst e;rw [g.out] at N;exact l N
          ·exact h (.inr ⟨N,by omega⟩)
      rw [d] at H;clear d K;go_wp2_with fail
      go_roundw
      case rel=>exact⟨i+1,z,by go_num,rfl,by omega,hz,hid (by rw [p.out,if_neg l,Nat.add_zero]; exact G.out),H⟩
      case measure=>first | (simp [intOf]; omega) | simp [intOf]
    ·have k2:¬ (i:Int)<(n:Int):=by omega
     obtain rfl:i=n:=by omega
     have O:z=PH.fst m (q+1)+PH.tal m (q+1):=by
      rw [PH.tal_pos m (q+1) (by omega),<- HY.out];have h:=G.out
      rwa [List.take_of_length_le (by rw [W.out]; exact Nat.le_refl _)] at h
     have d:rowU (laid m (q+1) i) i=rowU (laid m (q+1+1) 0) i:=by
      unfold rowU;refine List.map_congr_left fun j hj=>?_;have P:=List.mem_range.1 hj;show Value.int .u32 ((laid m (q+1) i j:Nat):Int)=Value.int .u32 ((laid m (q+1+1) 0 j:Nat):Int);congr 2;unfold laid;split
      ·rfl
      ·by_cases h:m.getD j 0<q+1∨(m.getD j 0=q+1/\j<i)
       ·rw [if_pos h,if_pos (by omega)]
       ·rw [if_neg h,if_neg (by omega)]
     rw [d] at H;have a2:=hid O;have a3:z<=70000:=by omega
     clear O d;go_wp2_with fail
     go_roundw
     case rel=>exact⟨q+1,z,by first | (go_num; done) | exact congrArg (Value.int .i64) (by omega),rfl,by omega,a3,a2,H⟩
     case measure=>first | (simp [intOf]; omega) | simp [intOf]
  ·have k1:¬ (q:Int)+1<=15:=by omega
   obtain rfl:q=15:=by omega
   have d:rowU (laid m (15+1) 0) n=rowU (PH.codeAt m) n:=by
    unfold rowU;refine List.map_congr_left fun j hj=>?_;have P:=List.mem_range.1 hj;have Q:j<m.length:=by rw [<- W.out]; exact P
    show Value.int .u32 ((laid m (15+1) 0 j:Nat):Int)=_;congr 2;have h:=F.out _ (List.getElem_mem Q);have hg:m.getD j 0=m[j]:=by rw [List.getD_eq_getElem?_getD,List.getElem?_eq_getElem Q]; rfl
    unfold laid;by_cases h0:m.getD j 0=0
    ·rw [if_pos h0]; unfold PH.codeAt; rw [if_pos h0]
    ·rw [if_neg h0,if_pos (by rw [hg]; omega)]
   rw [d] at H;go_wp2_with fail
   go_ret2;exact⟨_,rfl,H⟩
namespace PH
theorem mayBook_sum (m:List Nat) (h:mayBook m=true):sum m<=32768:=by
 rcases Nat.lt_or_ge 32768 (sum m) with q | q
 ·have:PH.state m=1:=by
   unfold PH.state;rw [if_neg (by omega),if_pos q]
  rw [many_no_book m this] at h; cases h
 ·exact q
end PH
def fxl (i:Nat):Nat:=if i<144 then 8 else if i<256 then 9 else if i<280 then 7 else 8
def fixedL:List Nat:=(List.range 288).map fxl
namespace PH
def nat (l:List Int):List Nat:=l.map Int.toNat
def ecI (l:List Int):Int:=if may l=true then (if PH.state (nat l)=1 then 20 else 0) else 1
def okB (l:List Int):Bool:=may l && mayBook (nat l)
def cn (l:List Int):Nat:=if ecI l=0 then l.length else 0
theorem nextFrom_err (m:List Nat) (l:List Bool) (k n:Nat) (hn:n<=l.length) (hk:n+k<=15) (hk0:n+k<=l.length∨True) :
  n<=(nextFrom m l k n).1/\(nextFrom m l k n).1<=l.length/\((nextFrom m l k n).2.1=0/\n+1<=(nextFrom m l k n).1∨(nextFrom m l k n).2.1=4∨(nextFrom m l k n).2.1=20):=by
 induction k generalizing n with
 | zero=>exact⟨Nat.le_refl _,hn,.inr (.inr rfl)⟩
 | succ k ih =>
  rw [nextFrom];by_cases h:l.length<=n
  ·rw [if_pos h]; exact⟨Nat.le_refl _,hn,.inr (.inl rfl)⟩
  ·rw [if_neg h];by_cases d:numb (l.take (n+1))<fst m (n+1)+tal m (n+1)
   ·rw [if_pos d];exact⟨by show n<=n+1; omega,by show n+1<=_; omega,.inl ⟨rfl,Nat.le_refl _⟩⟩
   ·rw [if_neg d];obtain⟨a,b,c⟩:=ih (n+1) (by omega) (by omega) (.inr trivial);refine⟨by omega,b,?_⟩;rcases c with ⟨c1,c2⟩ | c | c
    ·exact .inl ⟨c1,by omega⟩
    ·exact .inr (.inl c)
    ·exact .inr (.inr c)
end PH
section
variable (A:Option Addr) (n c:Nat) (l:List Int) {w0 w:World} {L:List Pr}
end

theorem Yk (s M x:Nat) (hx:x<18446744073709551616) (hM:M<18446744073709551616) (hM2:M * 2 ^ s<18446744073709551616) (p:Int) (hp:p=((2 ^ s:Nat):Int)) :
  bits .or .u64 (bits .and .u64 ((x:Int) / p) (M:Int)) (IntKind.u64.wrap (bits .and .u64 (x:Int) (M:Int) * p))=((PBits.sw s M x:Nat):Int):=by
 subst hp;have a:(x:Int) / ((2 ^ s:Nat):Int)=((x / 2 ^ s:Nat):Int):=by rw [Int.natCast_ediv]
 have b:x / 2 ^ s<18446744073709551616:=Nat.lt_of_le_of_lt (Nat.div_le_self _ _) hx;have c:(x &&& M) * 2 ^ s<18446744073709551616:=Nat.lt_of_le_of_lt (Nat.mul_le_mul_right _ Nat.and_le_right) hM2;have d:(x / 2 ^ s &&& M)<18446744073709551616:=Nat.lt_of_le_of_lt Nat.and_le_right hM;rw [a,u64_and_nat _ _ b hM,u64_and_nat _ _ hx hM,<- Int.natCast_mul,IntKind.wrap_u64,Int.emod_eq_of_lt (by omega) (by omega),u64_or_nat _ _ d c];rfl
theorem WL (x:Nat) (hx:x<18446744073709551616) :
  bits .or .u64 ((x:Int) / 4294967296) (IntKind.u64.wrap ((x:Int) * 4294967296))=((PBits.sw 32 4294967295 x:Nat):Int):=by
 have a:x / 4294967296<18446744073709551616:=by omega
 have b:(x &&& 4294967295)=x % 4294967296:=Nat.and_two_pow_sub_one_eq_mod x 32;have c:(x / 4294967296 &&& 4294967295)=x / 4294967296:=by
  rw [show(4294967295:Nat)=2 ^ 32 - 1 by decide,Nat.and_two_pow_sub_one_eq_mod]; omega
 have d:IntKind.u64.wrap ((x:Int) * 4294967296)=((x % 4294967296 * 4294967296:Nat):Int):=by rw [IntKind.wrap_u64]; omega
 have e:(x:Int) / 4294967296=((x / 4294967296:Nat):Int):=by omega
 rw [d,e,u64_or_nat _ _ a (by omega)];unfold PBits.sw;rw [b,show(2:Nat) ^ 32=4294967296 by decide,c]

theorem XH (x:Nat) (w:World) (hx:x<18446744073709551616) :
  Calls Tryz.prog 182 #[.int .u64 x] w fun e w'=>e=.returned (.int .u64 (PBits.sw 32 4294967295 (PBits.sw 16 281470681808895 (PBits.sw 8 71777214294589695 x)):Nat))/\w=w':=by
 have c:=PBits.sw_lt 8 71777214294589695 x (by decide) (by decide);have d:=Yk 8 71777214294589695 x hx (by decide) (by decide) 256 (by decide);have a:=PBits.sw_lt 16 281470681808895 (PBits.sw 8 71777214294589695 x) (by decide) (by decide);have b:=Yk 16 281470681808895 _ c (by decide) (by decide) 65536 (by decide);have f:=WL _ a;simp only [Int.cast_ofNat_Int] at d b;go_enter Tryz.func182,Tryz.ntmps182
 go_wp2;go_ret;exact⟨rfl,rfl⟩
theorem Vu (x:Nat) (w:World) (hx:x<18446744073709551616) :
  Calls Tryz.prog 171 #[.int .u64 x] w fun e w'=>e=.returned (.int .u64 (PBits.rev64 x:Nat))/\w=w':=by
 have a:=PBits.sw_lt 1 6148914691236517205 x (by decide) (by decide);have b:=Yk 1 6148914691236517205 x hx (by decide) (by decide) 2 (by decide);have c:=PBits.sw_lt 2 3689348814741910323 (PBits.sw 1 6148914691236517205 x) (by decide) (by decide);have d:=Yk 2 3689348814741910323 _ a (by decide) (by decide) 4 (by decide);have f:=PBits.sw_lt 4 1085102592571150095 (PBits.sw 2 3689348814741910323 (PBits.sw 1 6148914691236517205 x)) (by decide) (by decide);have g:=Yk 4 1085102592571150095 _ c (by decide) (by decide) 16 (by decide);simp only [Int.cast_ofNat_Int] at b d g;go_enter Tryz.func171,Tryz.ntmps171
 go_wp2_with fail
 refine(XH _ _ f).mono ?_;rintro e h ⟨rfl,rfl⟩;go_wp2;go_ret;exact⟨rfl,rfl⟩
theorem XT (x K:Nat) (m:Int) (w:World) (hx:x<18446744073709551616) (hK:(K:Int)=min (max m 0) 64) :
  Calls Tryz.prog 154 #[.int .u64 x,.int .i64 m] w fun e w'=>e=.returned (.int .u64 (PBits.rev x K:Nat))/\w=w':=by
 have a:K<=64:=by omega
 have d:∀W:World,(Builtin.max_ #[3,3] 3 #[.int .i64 m,.int .i64 0]).run Tryz.prog W=.ok (.int .i64 (max m 0)) W:=fun W=>by
  simp [Builtin.max_,Builtin.max2];split <;> omega
 have f:∀W:World,(Builtin.min_ #[3,3] 3 #[.int .i64 (max m 0),.int .i64 64]).run Tryz.prog W=.ok (.int .i64 K) W:=fun W=>by
  simp [Builtin.min_,Builtin.min2];split <;> omega
 clear hK;have g:=PBits.rev64_lt x;go_enter Tryz.func154,Tryz.ntmps154
 by_cases b:K=0
 ·subst b;go_wp2;go_ret;exact⟨rfl,rfl⟩
 ·have c:=PBits.rev64_rev x K a;go_wp2_with fail
  refine(Vu _ _ hx).mono ?_;rintro e h ⟨rfl,rfl⟩;go_wp2;go_ret;refine⟨?_,rfl⟩;rw [<- c];simp [Int.natCast_ediv]
def WrB (g:Nat) (v:Value) (wait many:Nat):Pr:=Bk g 132 [v,.int .u64 wait,.int .i64 many,.bool true]
def Wr (g V N:Nat):Pr:=Ex fun v:Value=>Star (WrB g v (V / 256 ^ (N / 8)) (N % 8)) (Row 5 1 v (N / 8) (cells8 (PBits.bytesOf V (N / 8))))
theorem Yl (g:Nat) (w:World) (c3:w.cell? ⟨g,3,none⟩=some (.bool true)) :
  Calls Tryz.prog 82 #[.pointer (some ⟨g,0,none⟩)] w fun e w'=>e=.returned (.bool false)/\w=w':=by
 go_enter Tryz.func82,Tryz.ntmps82
 go_wp2;go_ret;exact⟨rfl,rfl⟩
theorem Xo (g:Nat) (m:Int) (w:World) (c3:w.cell? ⟨g,3,none⟩=some (.bool true)) (h0:0<=m) (h1:m<=57) :
  Calls Tryz.prog 138 #[.func (.func 82) #[.pointer (some ⟨g,0,none⟩)] #[],.int .i64 m,.bool true] w fun e w'=>e=.returned (.int .i64 0)/\w=w':=by
 go_enter Tryz.func138,Tryz.ntmps138
 go_wp2_with fail
 refine(Yl g _ c3).mono ?_;rintro e a ⟨rfl,rfl⟩;have b:¬ (57:Int)<m:=by omega
 have c:¬ m<0:=by omega
 go_wp2;go_ret;exact⟨rfl,rfl⟩
end Go.Proofs.YteajimobgkempaaGreatDoor

