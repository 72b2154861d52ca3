/- A pack. -/
import Derived.Deep.CutRange
import Derived.Lib.QuoteBits
import Derived.Test.YtnjpnmpemhldcaaGreatDoorPk15
set_option linter.all false
set_option maxRecDepth 100000
set_option maxHeartbeats 8000000
namespace Go.Proofs.YtnjpnmpemhldcaaGreatDoor.PBits
def le:List UInt8->Nat
 | []=>0
 | b::l=>b.toNat+256 * le l
def bytesOf (V:Nat):Nat->List UInt8
 | 0=>[]
 | n+1=>UInt8.ofNat (V % 256)::bytesOf (V / 256) n
theorem le_lt (l:List UInt8):le l<256 ^ l.length:=by
 induction l with
 | nil=>simp [le]
 | cons b l ih =>
  have:=b.toNat_lt;simp only [le,List.length_cons,Nat.pow_succ];omega
theorem bytesOf_length (V n:Nat):(bytesOf V n).length=n:=by
 induction n generalizing V with
 | zero=>rfl
 | succ n ih=>simp [bytesOf,ih]
theorem le_bytesOf (V n:Nat):le (bytesOf V n)=V % 256 ^ n:=by
 induction n generalizing V with
 | zero=>simp [bytesOf,le,Nat.mod_one]
 | succ n ih =>
  have h:=Nat.mod_mul (x:=V) (a:=256) (b:=256 ^ n);have c:(UInt8.ofNat (V % 256)).toNat=V % 256:=by rw [UInt8.toNat_ofNat']; omega
  have e:(256:Nat) ^ (n+1)=256 * 256 ^ n:=by rw [Nat.pow_succ,Nat.mul_comm]
  simp only [bytesOf,le,ih,c,e,h]
theorem bytesOf_le (l:List UInt8):bytesOf (le l) l.length=l:=by
 induction l with
 | nil=>rfl
 | cons b l ih =>
  have d:=b.toNat_lt;have a:(b.toNat+256 * le l) % 256=b.toNat:=by omega
  have c:(b.toNat+256 * le l) / 256=le l:=by omega
  simp only [le,List.length_cons,bytesOf,a,c,ih];simp
theorem bytesOf_add (V n m:Nat):bytesOf V (n+m)=bytesOf V n++bytesOf (V / 256 ^ n) m:=by
 induction n generalizing V with
 | zero=>simp [bytesOf]
 | succ n ih =>
  rw [show n+1+m=(n+m)+1 by omega];simp only [bytesOf,ih,List.cons_append,Nat.div_div_eq_div_mul];rw [show 256 * 256 ^ n=256 ^ (n+1) by rw [Nat.pow_succ,Nat.mul_comm]]
theorem bytesOf_more (V W n:Nat):bytesOf (V+W * 256 ^ n) n=bytesOf V n:=by
 induction n generalizing V W with
 | zero=>rfl
 | succ n ih =>
  have a:(V+W * 256 ^ (n+1)) % 256=V % 256:=by
   rw [Nat.pow_succ,<- Nat.mul_assoc,Nat.add_mul_mod_self_right]
  have b:(V+W * 256 ^ (n+1)) / 256=V / 256+W * 256 ^ n:=by
   rw [Nat.pow_succ,<- Nat.mul_assoc,Nat.add_mul_div_right _ _ (by omega)]
  simp only [bytesOf,a,b,ih]
theorem le_append (a b:List UInt8):le (a++b)=le a+256 ^ a.length * le b:=by
 induction a with
 | nil=>simp [le]
 | cons x a ih =>
  simp only [List.cons_append,le,ih,List.length_cons,Nat.pow_succ,Nat.mul_add];rw [<- Nat.mul_assoc,Nat.mul_comm 256 (256 ^ a.length)];omega
def rev (n:Nat):Nat->Nat
 | 0=>0
 | k+1=>(n % 2) * 2 ^ k+rev (n / 2) k
theorem rev_lt (n k:Nat):rev n k<2 ^ k:=by
 induction k generalizing n with
 | zero=>simp [rev]
 | succ k ih =>
  have:=ih (n / 2);have a:n % 2=0∨n % 2=1:=by omega
  simp only [rev,Nat.pow_succ];rcases a with h | h <;> rw [h] <;> omega
theorem rev_bit (n k i:Nat):(rev n k).testBit i=(decide (i<k) && n.testBit (k - 1 - i)):=by
 induction k generalizing n i with
 | zero=>simp [rev]
 | succ k ih =>
  have b:=rev_lt (n / 2) k;simp only [rev];rw [Nat.mul_comm,Nat.testBit_two_pow_mul_add _ b,ih];by_cases a:i<k
  ·have e:k+1 - 1 - i=(k - 1 - i)+1:=by omega
   rw [if_pos a,e,Nat.testBit_succ];simp [a,show i<k+1 by omega]
  ·rw [if_neg a];by_cases c:i=k
   ·subst c;simp [Nat.testBit_zero]
   ·have d:¬ i<k+1:=by omega
    have f:∃j,i - k=j+1:=⟨i - k - 1,by omega⟩;obtain⟨j,g⟩:=f;rw [g,Nat.testBit_succ];have h:n % 2 / 2=0:=by omega
    simp [d,h]
def sw (s M x:Nat):Nat:=(x / 2 ^ s &&& M) ||| (x &&& M) * 2 ^ s
def swi (s i:Nat):Nat:=if i / s % 2=0 then i+s else i - s
def Mask (s M:Nat):Prop:=∀j,j<64->M.testBit j=decide (j / s % 2=0)
theorem sw_bit (s M x i:Nat) (hs:s=1∨s=2∨s=4∨s=8∨s=16∨s=32) (hM:Mask s M) (hi:i<64):(sw s M x).testBit i=x.testBit (swi s i):=by
 unfold sw swi;rw [Nat.testBit_or,Nat.testBit_and,Nat.testBit_div_two_pow,Nat.testBit_mul_two_pow,Nat.testBit_and,hM i hi,hM (i - s) (by omega)];by_cases h:i / s % 2=0
 ·have b:s<=i->¬ (i - s) / s % 2=0:=by
   rcases hs with rfl | rfl | rfl | rfl | rfl | rfl <;> omega
  rw [if_pos h];by_cases a:s<=i
  ·simp [h,b a]
  ·simp [h,a]
 ·have b:(i - s) / s % 2=0:=by
   rcases hs with rfl | rfl | rfl | rfl | rfl | rfl <;> omega
  have a:s<=i:=by
   rcases hs with rfl | rfl | rfl | rfl | rfl | rfl <;> omega
  rw [if_neg h];simp [h,b,a]
theorem mask1:Mask 1 6148914691236517205:=by unfold Mask; decide +kernel
theorem mask2:Mask 2 3689348814741910323:=by unfold Mask; decide +kernel
theorem mask4:Mask 4 1085102592571150095:=by unfold Mask; decide +kernel
theorem mask8:Mask 8 71777214294589695:=by unfold Mask; decide +kernel
theorem mask16:Mask 16 281470681808895:=by unfold Mask; decide +kernel
theorem mask32:Mask 32 4294967295:=by unfold Mask; decide +kernel
def rev64 (x:Nat):Nat:=sw 32 4294967295 (sw 16 281470681808895 (sw 8 71777214294589695 (sw 4 1085102592571150095 (sw 2 3689348814741910323 (sw 1 6148914691236517205 x)))))
theorem swi_all:∀i,i<64->swi 1 (swi 2 (swi 4 (swi 8 (swi 16 (swi 32 i)))))=63 - i/\swi 32 i<64/\swi 16 (swi 32 i)<64/\swi 8 (swi 16 (swi 32 i))<64/\swi 4 (swi 8 (swi 16 (swi 32 i)))<64/\swi 2 (swi 4 (swi 8 (swi 16 (swi 32 i))))<64:=by decide +kernel
theorem rev64_bit (x i:Nat) (hi:i<64):(rev64 x).testBit i=x.testBit (63 - i):=by
 obtain⟨a,b,c,d,e,f⟩:=swi_all i hi;unfold rev64;rw [sw_bit 32 _ _ _ (by omega) mask32 hi,sw_bit 16 _ _ _ (by omega) mask16 b,sw_bit 8 _ _ _ (by omega) mask8 c,sw_bit 4 _ _ _ (by omega) mask4 d,sw_bit 2 _ _ _ (by omega) mask2 e,sw_bit 1 _ _ _ (by omega) mask1 f,a]
theorem sw_lt (s M x:Nat) (hM:M * 2 ^ s<18446744073709551616) (hM2:M<18446744073709551616):sw s M x<18446744073709551616:=by
 unfold sw;rw [show(18446744073709551616:Nat)=2 ^ 64 by decide] at *;refine Nat.or_lt_two_pow (Nat.and_lt_two_pow _ hM2) ?_;exact Nat.lt_of_le_of_lt (Nat.mul_le_mul_right _ Nat.and_le_right) hM
theorem rev64_lt (x:Nat):rev64 x<18446744073709551616:=by
 unfold rev64 sw;rw [show(18446744073709551616:Nat)=2 ^ 64 by decide];refine Nat.or_lt_two_pow (Nat.and_lt_two_pow _ (by decide)) ?_;exact Nat.lt_of_le_of_lt (Nat.mul_le_mul_right _ Nat.and_le_right) (by decide)
theorem rev64_rev (x k:Nat) (hk:k<=64):rev64 x / 2 ^ (64 - k)=rev x k:=by
 apply Nat.eq_of_testBit_eq;intro i;rw [Nat.testBit_div_two_pow,rev_bit];by_cases h:i<k
 ·rw [rev64_bit _ _ (by omega),show 63 - (i+(64 - k))=k - 1 - i by omega];simp [h]
 ·rw [Nat.testBit_lt_two_pow (Nat.lt_of_lt_of_le (rev64_lt x) (by rw [show(18446744073709551616:Nat)=2 ^ 64 by decide]; exact Nat.pow_le_pow_right (by omega) (by omega)))];simp [h]
theorem pow_parts (N:Nat):2 ^ N=2 ^ (N % 8) * 256 ^ (N / 8):=by
 rw [show(256:Nat)=2 ^ 8 by decide,<- Nat.pow_mul,<- Nat.pow_add];congr 1;omega
theorem put_bytes (V n N:Nat):bytesOf (V+n * 2 ^ N) (N / 8)=bytesOf V (N / 8):=by
 rw [pow_parts N,<- Nat.mul_assoc,bytesOf_more]
theorem put_wait (V n N:Nat):(V+n * 2 ^ N) / 256 ^ (N / 8)=V / 256 ^ (N / 8)+n * 2 ^ (N % 8):=by
 rw [pow_parts N,<- Nat.mul_assoc,Nat.add_mul_div_right _ _ (Nat.pow_pos (by decide))]
theorem put_lt (V n N k:Nat) (hV:V<2 ^ N) (hn:n<2 ^ k):V+n * 2 ^ N<2 ^ (N+k):=by
 have h:(n+1) * 2 ^ N<=2 ^ k * 2 ^ N:=Nat.mul_le_mul_right _ hn;rw [Nat.add_mul,Nat.one_mul] at h;rw [Nat.pow_add,Nat.mul_comm (2 ^ N)];omega
theorem byte_next (X q:Nat):bytesOf X (q+1)=bytesOf X q++[UInt8.ofNat (X / 256 ^ q % 256)]:=by
 rw [bytesOf_add];rfl
theorem div_next (X q:Nat):X / 256 ^ q / 256=X / 256 ^ (q+1):=by
 rw [Nat.div_div_eq_div_mul,Nat.pow_succ]
end Go.Proofs.YtnjpnmpemhldcaaGreatDoor.PBits

namespace Go.Proofs.YtnjpnmpemhldcaaGreatDoor
variable {w0 w:World} {L:List Pr}
open Go.RowKit
theorem Th (A:Option Addr) (n c:Nat) (l:List Int) (H:Sp w0 L w) (hn:n=l.length) (hb:Ent L fun w=>Rd w A (cells64 l)) (hl:n<=1000000000) (hm:PH.may l=false) :
  Calls Tryz.prog 179 #[.slice A n c] w fun e w'=>e=.returned (.tuple #[.pointer none,.int .i64 1])/\Sp w0 L w':=by
 have a:=Vo A n c l H hn hb hl hm;clear hn hb hm;go_enter Tryz.func179,Tryz.ntmps179
 go_wp2_with fail
 refine a.mono ?_;rintro _ d ⟨rfl,b⟩;clear a;go_wp2_with fail
 go_ret2;exact⟨rfl,b⟩
def cellsBo (l:List Bool):List Value:=l.map Value.bool
theorem Rd.atB {w:World} {A:Option Addr} {l:List Bool} (h:Rd w A (cellsBo l)) {k:Nat} (hk:k<l.length) :
  ∃ad,A=some ad/\w.cell? (ad.add k)=some (.bool l[k]):=by
 obtain⟨ad,e,a⟩:=h.at_ (k:=k) (by simpa [cellsBo] using hk);exact⟨ad,e,by simpa [cellsBo] using a⟩
def bitV (b:Bool):Nat:=if b then 1 else 0
namespace PH
def numb (l:List Bool):Nat:=l.foldl (fun x b=>2 * x+bitV b) 0
theorem numb_snoc (l:List Bool) (b:Bool):numb (l++[b])=2 * numb l+bitV b:=by unfold numb; rw [List.foldl_append]; rfl
theorem numb_lt (l:List Bool):numb l<2 ^ l.length:=by
 generalize hk:l.length=k;induction k generalizing l with
 | zero=>rw [List.eq_nil_of_length_eq_zero hk]; decide
 | succ k ih =>
  have a:l≠[]:=by rintro rfl; cases hk
  have b:=List.dropLast_concat_getLast a;have c:=ih l.dropLast (by rw [List.length_dropLast]; omega);rw [<- b,numb_snoc,Nat.pow_succ];have:bitV (l.getLast a)<=1:=by unfold bitV; split <;> omega
  omega
def nextFrom (m:List Nat) (l:List Bool):Nat->Nat->Nat × Int × Nat
 | 0,n=>(n,20,0)
 | k+1,n=>if l.length<=n then (n,4,0) else
  if numb (l.take (n+1))<fst m (n+1)+tal m (n+1) then (n+1,0,(rows m).getD ((rowsB m n).length+(numb (l.take (n+1)) - fst m (n+1))) 0) else nextFrom m l k (n+1)
theorem rowsB_tal (m:List Nat) (n:Nat):(rowsB m (n+1)).length=(rowsB m n).length+tal m (n+1):=by
 rw [rowsB,List.length_append];congr 1;unfold tal;rw [if_neg (by omega)];have h:∀k,k<=m.length->(idx m (n+1) k).length=(m.take k).count (n+1):=by
  intro k;induction k with
  | zero=>intro _; simp [idx]
  | succ k ih =>
   intro c;have a:=ih (by omega);have b:m.getD k 0=m[k]'(by omega):=by rw [List.getD_eq_getElem?_getD,List.getElem?_eq_getElem (by omega)]; rfl
   rw [idx_succ,List.take_succ_eq_append_getElem (by omega),List.count_append,b];by_cases e:m[k]'(by omega)=n+1
   ·rw [if_pos e,List.length_append,a,e]; simp
   ·rw [if_neg e,a]; simp [e]
 have:=h m.length (Nat.le_refl _)
 rwa [List.take_length] at this
theorem rowsB_mono (m:List Nat) (n k:Nat) (h:n<=k):(rowsB m n).length<=(rowsB m k).length:=by
 obtain⟨d,rfl⟩:∃d,k=n+d:=⟨k - n,by omega⟩;clear h;induction d with
 | zero=>exact Nat.le_refl _
 | succ d ih=>have:=rowsB_tal m (n+d); rw [<- Nat.add_assoc]; omega
theorem fst_next (m:List Nat) (i:Nat):fst m (i+1)=2 * (fst m i+tal m i):=by
 cases i with
 | zero=>rfl
 | succ i=>rw [show fst m (i+1+1)=(fst m (i+1)+tal m (i+1)) * 2 from rfl]; omega
theorem numb_take (l:List Bool) (a i:Nat) (b:Bool) (h:l[a+i]?=some b):numb ((l.drop a).take (i+1))=2 * numb ((l.drop a).take i)+bitV b:=by
 rw [List.take_add_one,List.getElem?_drop,h];exact numb_snoc _ _
theorem next_on (m:List Nat) (l:List Bool) (a i k C F:Nat) (b:Bool) (h:l[a+i]?=some b) (hC:numb ((l.drop a).take i)=C) (hF:fst m i+tal m i=F) :
  nextFrom m (l.drop a) (k+1) i=if 2 * C+bitV b<2 * F+tal m (i+1) then (i+1,0,(rows m).getD ((rowsB m i).length+(2 * C+bitV b - 2 * F)) 0) else nextFrom m (l.drop a) k (i+1):=by
 have c:=numb_take l a i b h;have d:=fst_next m i;rw [hC] at c;rw [hF] at d;have e:¬ (l.drop a).length<=i:=by
  obtain⟨f,_⟩:=List.getElem?_eq_some_iff.1 h;rw [List.length_drop]; omega
 rw [nextFrom,if_neg e,c,d]
end PH
theorem or_zero (x:Nat) (hx:x<4611686018427387904):bits .or .i64 ((x:Int) * 2) 0=(x:Int) * 2:=by
 have e:(x:Int) * 2=((x * 2:Nat):Int):=by omega
 rw [e];show IntKind.i64.wrap ((BitVec.ofInt 64 ((x * 2:Nat):Int) ||| BitVec.ofInt 64 ((0:Nat):Int)).toNat:Int)=_;rw [BitVec.toNat_or,ofInt_u64 (x * 2) (by omega),ofInt_u64 0 (by omega),Nat.or_zero];exact Go.Lib.wrap_i64_small _ (by omega)
theorem Ti (x:Nat) (hx:x<4611686018427387904):bits .or .i64 ((x:Int) * 2) 1=(x:Int) * 2+1:=by
 have e:(x:Int) * 2=((x * 2:Nat):Int):=by omega
 rw [e,Go.Lib.or_one (x * 2) (by omega)];omega
namespace PH
theorem idx_get (m:List Nat) (n k r:Nat) (hk:k<=m.length) (h:r<(idx m n k).length):∃i,i<k/\(idx m n k).getD r 0=i/\m.getD i 0=n/\(m.take i).count n=r:=by
 induction k generalizing r with
 | zero=>simp [idx] at h
 | succ k ih =>
  rw [idx_succ] at h ⊢;have a:∀q,q<=m.length->(idx m n q).length=(m.take q).count n:=by
   intro q;induction q with
   | zero=>intro _; simp [idx]
   | succ q ihq =>
    intro l;have c:=ihq (by omega);have j:m.getD q 0=m[q]'(by omega):=by rw [List.getD_eq_getElem?_getD,List.getElem?_eq_getElem (by omega)]; rfl
    rw [idx_succ,List.take_succ_eq_append_getElem (by omega),List.count_append,j];by_cases e:m[q]'(by omega)=n
    ·rw [if_pos e,List.length_append,c,e]; simp
    ·rw [if_neg e,c]; simp [e]
  by_cases e:m.getD k 0=n
  ·rw [if_pos e] at h ⊢;rw [List.length_append,List.length_singleton] at h;rcases Nat.lt_or_ge r (idx m n k).length with hr | hr
   ·obtain⟨i,c,d,f,g⟩:=ih r (by omega) hr;refine⟨i,by omega,?_,f,g⟩;rw [List.getD_eq_getElem?_getD,List.getElem?_append_left hr,<- List.getD_eq_getElem?_getD]; exact d
   ·have b:r=(idx m n k).length:=by omega
    refine⟨k,by omega,?_,e,by rw [b,a k (by omega)]⟩;rw [List.getD_eq_getElem?_getD,List.getElem?_append_right hr,b,Nat.sub_self]; rfl
  ·rw [if_neg e] at h ⊢;obtain⟨i,c,d,f,g⟩:=ih r (by omega) h;exact⟨i,by omega,d,f,g⟩
theorem tal_pos (m:List Nat) (n:Nat) (h:n≠0):tal m n=m.count n:=by unfold tal; rw [if_neg h]
theorem rank_lt (m:List Nat) (i n:Nat) (hi:i<m.length) (hn:m.getD i 0=n):(m.take i).count n<m.count n:=by
 have h:=List.take_append_drop i m;have a:m.drop i=m[i]::m.drop (i+1):=List.drop_eq_getElem_cons hi;have b:m[i]=n:=by rw [<- hn,List.getD_eq_getElem?_getD,List.getElem?_eq_getElem hi]; rfl
 have e:m.count n=(m.take i).count n+(m.drop i).count n:=by
  conv=>lhs; rw [<- h]
  rw [List.count_append]
 rw [e,a,b,List.count_cons_self]; omega
theorem rank_inj (m:List Nat) (i j n:Nat) (hi:i<m.length) (hj:j<m.length) (hin:m.getD i 0=n) (hjn:m.getD j 0=n) (h:(m.take i).count n=(m.take j).count n):i=j:=by
 have b:∀i j,i<j->j<=m.length->m.getD i 0=n->(m.take i).count n<(m.take j).count n:=by
  intro i j c hj hin;have a:=rank_lt (m.take j) i n (by rw [List.length_take]; omega) (by rw [List.getD_eq_getElem?_getD,List.getElem?_take_of_lt c,<- List.getD_eq_getElem?_getD]; exact hin)
  rwa [List.take_take,Nat.min_eq_left (by omega)] at a
 rcases Nat.lt_trichotomy i j with a | a | a
 ·have:=b i j a (by omega) hin; omega
 ·exact a
 ·have:=b j i a (by omega) hjn; omega
theorem codeAt_of (m:List Nat) (i n:Nat) (hn:m.getD i 0=n) (h0:n≠0):codeAt m i=fst m n+(m.take i).count n:=by
 unfold codeAt; rw [hn,if_neg h0]
theorem codeAt_lt (m:List Nat) (i n:Nat) (hi:i<m.length) (hn:m.getD i 0=n) (h0:n≠0):fst m n<=codeAt m i/\codeAt m i<fst m n+tal m n:=by
 rw [codeAt_of m i n hn h0,tal_pos m n h0];have:=rank_lt m i n hi hn;omega
theorem rowsB_take (m:List Nat) (n k:Nat) (h:n<=k):∃t,rowsB m k=rowsB m n++t:=by
 obtain⟨d,rfl⟩:∃d,k=n+d:=⟨k - n,by omega⟩;clear h;induction d with
 | zero=>exact⟨[],by simp⟩
 | succ d ih =>
  obtain⟨t,a⟩:=ih;exact⟨t++idx m (n+d+1) m.length,by rw [<- Nat.add_assoc,rowsB,a,List.append_assoc]⟩
theorem code_sym (m:List Nat) (n c:Nat) (hn:n<15) (h1:fst m (n+1)<=c) (h2:c<fst m (n+1)+tal m (n+1)) :
  ∃i,i<m.length/\m.getD i 0=n+1/\codeAt m i=c/\(rows m).getD ((rowsB m n).length+(c - fst m (n+1))) 0=i:=by
 have b:=rowsB_tal m n;rw [rowsB,List.length_append] at b;obtain⟨i,d,e,a,f⟩:=idx_get m (n+1) m.length (c - fst m (n+1)) (Nat.le_refl _) (by omega);refine⟨i,d,a,by rw [codeAt_of m i (n+1) a (by omega),f]; omega,?_⟩;obtain⟨t,g⟩:=rowsB_take m (n+1) 15 (by omega);unfold rows;rw [g,rowsB,List.append_assoc,List.getD_eq_getElem?_getD,List.getElem?_append_right (by omega),show(rowsB m n).length+(c - fst m (n+1)) - (rowsB m n).length=c - fst m (n+1) by omega,List.getElem?_append_left (by omega),<- List.getD_eq_getElem?_getD];exact e
theorem code_inj (m:List Nat) (i j:Nat) (hi:i<m.length) (hj:j<m.length) (h0:m.getD i 0≠0) (hl:m.getD i 0=m.getD j 0) (hc:codeAt m i=codeAt m j):i=j:=by
 rw [codeAt_of m i _ rfl h0,codeAt_of m j _ hl.symm h0] at hc;exact rank_inj m i j _ hi hj rfl hl.symm (by omega)
theorem fst_share15 (m:List Nat) (n:Nat) (h1:1<=n) (h:n<=15):fst m n * 2 ^ (15 - n)=share m n:=by
 have:=fst_share m n h1 (by omega);rw [show 16 - n=(15 - n)+1 by omega,Nat.pow_succ,<- Nat.mul_assoc] at this;omega
theorem share_next (m:List Nat) (n:Nat) (h1:1<=n) (h:n<=15):(fst m n+tal m n) * 2 ^ (15 - n)=share m (n+1):=by
 rw [Nat.add_mul,fst_share15 m n h1 h,share]
theorem share_one (m:List Nat):share m 1=0:=by simp [share,tal]
def hit (m:List Nat) (R i:Nat):Prop:=m.getD i 0≠0/\R / 2 ^ (15 - m.getD i 0)=codeAt m i
instance (m:List Nat) (R i:Nat):Decidable (hit m R i):=inferInstanceAs (Decidable (_/\_))
theorem tal_le_rows (m:List Nat) (n:Nat) (h1:1<=n) (h:n<=15):tal m n<=(rows m).length:=by
 obtain⟨p,rfl⟩:∃p,n=p+1:=⟨n - 1,by omega⟩;have a:=rowsB_tal m p;have b:=rowsB_mono m (p+1) 15 h;unfold rows; omega
theorem sum_none (m:List Nat) (h:(rows m).length=0):sum m=0:=by
 have a:∀n,n<=16->share m n=0:=by
  intro n;induction n with
  | zero=>intro _; rfl
  | succ n ih =>
   intro b;rw [share,ih (by omega)];rcases Nat.eq_zero_or_pos n with h0 | h0
   ·subst h0; simp [tal]
   ·have:=tal_le_rows m n h0 (by omega);rw [show tal m n=0 by omega]; simp
 exact a 16 (Nat.le_refl _)
theorem sum_single (m:List Nat) (h:(rows m).length=1) (h1:tal m 1=1):sum m=16384:=by
 have b:∀n,2<=n->n<=15->tal m n=0:=by
  intro n c d;obtain⟨p,rfl⟩:∃p,n=p+1:=⟨n - 1,by omega⟩;have e:=rowsB_tal m 0;have f:=rowsB_mono m 1 p (by omega);have g:=rowsB_tal m p;have i:=rowsB_mono m (p+1) 15 d;unfold rows at h;rw [show(rowsB m 0).length=0 from rfl,show 0+1=1 from rfl] at e;omega
 have a:∀n,2<=n->n<=16->share m n=16384:=by
  intro n;induction n with
  | zero=>intro h; omega
  | succ n ih =>
   intro c j;rcases Nat.lt_or_ge n 2 with q | q
   ·obtain rfl:n=1:=by omega
    rw [share,share_one,h1]
   ·rw [share,ih q (by omega),b n q (by omega)]; simp
 exact a 16 (by omega) (by omega)
theorem share_two (m:List Nat):share m 2=tal m 1 * 16384:=by rw [share,share_one]; simp
theorem many_no_book (m:List Nat) (h:PH.state m=1):mayBook m=false:=by
 have a:32768<sum m:=by
  unfold PH.state at h;by_cases q:sum m<32768
  ·rw [if_pos q] at h; omega
  ·rw [if_neg q] at h;by_cases b:32768<sum m
   ·exact b
   ·rw [if_neg b] at h; omega
 cases hb:mayBook m with
 | false=>rfl
 | true =>
  exfalso;unfold mayBook at hb;simp only [Bool.or_eq_true,Bool.and_eq_true,decide_eq_true_eq] at hb;rcases hb with h2 | h2 | ⟨h1,h2⟩
  ·omega
  ·rw [sum_none m h2] at a; omega
  ·rw [sum_single m h1 h2] at a; omega
end PH
namespace PH
theorem tal_append (a b:List Nat) (n:Nat):tal (a++b) n=tal a n+tal b n:=by
 unfold tal;split
 ·rfl
 ·exact List.count_append
theorem share_append (a b:List Nat) (k:Nat):share (a++b) k=share a k+share b k:=by
 induction k with
 | zero=>rfl
 | succ k ih=>rw [share,share,share,ih,tal_append,Nat.add_mul]; omega
theorem share_single (x:Nat) (k:Nat):share [x] k=if 0<x/\x<k then 2 ^ (15 - x) else 0:=by
 induction k with
 | zero=>rw [if_neg (by omega)]; rfl
 | succ k ih =>
  rw [share,ih];have d:tal [x] k=if k=0 then 0 else if x=k then 1 else 0:=by
   unfold tal;by_cases a:k=0
   ·rw [if_pos a,if_pos a]
   ·rw [if_neg a,if_neg a,List.count_singleton];by_cases b:x=k
    ·rw [if_pos b,if_pos (by simpa using b)]
    ·rw [if_neg b,if_neg (by simpa using b)]
  rw [d];by_cases b:x=k
  ·subst b;by_cases a:x=0
   ·rw [if_pos a,if_neg (by omega),if_neg (by omega)]; simp
   ·rw [if_neg a,if_pos rfl,if_neg (by omega),if_pos (by omega)]; omega
  ·rw [show(if k=0 then 0 else if x=k then 1 else 0)=0 by simp [b],Nat.zero_mul,Nat.add_zero];by_cases c:0<x/\x<k
   ·rw [if_pos c,if_pos (by omega)]
   ·rw [if_neg c,if_neg (by omega)]
theorem sum_take (m:List Nat) (i:Nat) (hi:i<m.length) (x:Nat) (hx:m[i]=x) (h15:x<=15):sum (m.take (i+1))=sum (m.take i)+if 0<x then 2 ^ (15 - x) else 0:=by
 unfold sum;rw [List.take_succ_eq_append_getElem hi,share_append,hx,share_single];congr 1;by_cases h:0<x
 ·rw [if_pos h,if_pos (by omega)]
 ·rw [if_neg h,if_neg (by omega)]
end PH
def laid (m:List Nat) (q i j:Nat):Nat:=if m.getD j 0=0 then 0 else if m.getD j 0<q∨(m.getD j 0=q/\j<i) then PH.codeAt m j else 0
namespace PH
theorem mayBook_sum (m:List Nat) (h:mayBook m=true):sum m<=32768:=by
 rcases Nat.lt_or_ge 32768 (sum m) with q | q
 ·have:PH.state m=1:=by
   unfold PH.state;rw [if_neg (by omega),if_pos q]
  rw [many_no_book m this] at h; cases h
 ·exact q
end PH
theorem TW (A:Option Addr) (n c:Nat) (m:List Nat) (H:Sp w0 L w) (hn:n=m.length) (hb:Ent L fun w=>Rd w A (cells64 (castI m))) (hl:n<=1024) (h15:∀x ∈ m,x<=15) (hm:mayBook m=false) :
  Calls Tryz.prog 179 #[.slice A n c] w fun e w'=>e=.returned (.tuple #[.pointer none,.int .i64 20])/\Sp w0 L w' :=
 (UT A n c m H hn hb hl h15).mono fun e w' h=>by rw [if_neg (by rw [hm]; decide)] at h; exact h
theorem Tj (A:Option Addr) (n c:Nat) (m:List Nat) (H:Sp w0 L w) (hn:n=m.length) (hb:Ent L fun w=>Rd w A (cells64 (castI m))) (hl:n<=1024) (h15:∀x ∈ m,x<=15) (hm:mayBook m=true) :
  Calls Tryz.prog 179 #[.slice A n c] w fun e w'=>∃g v,e=.returned (.tuple #[.pointer (some ⟨g,0,none⟩),.int .i64 0])/\Sp w0 (Row 3 1 v (PH.rows m).length (cellsN (PH.rows m))::BkB g m v (mostOf m)::L) w' :=
 (UT A n c m H hn hb hl h15).mono fun e w' h=>by rw [if_pos hm] at h; exact h
def fxl (i:Nat):Nat:=if i<144 then 8 else if i<256 then 9 else if i<280 then 7 else 8
def fixedL:List Nat:=(List.range 288).map fxl
namespace PH
def nat (l:List Int):List Nat:=l.map Int.toNat
def ecI (l:List Int):Int:=if may l=true then (if PH.state (nat l)=1 then 20 else 0) else 1
def okB (l:List Int):Bool:=may l && mayBook (nat l)
def enI (l:List Int):Int:=if may l=true then 20 else 1
def cn (l:List Int):Nat:=if ecI l=0 then l.length else 0
theorem may_split {l:List Int} (h:may l=true):l=castI (nat l)/\(nat l).length<=1024/\∀n ∈ nat l,n<=15:=by
 obtain⟨m,a,b,c⟩:=may_nat h;have:nat l=m:=by
  unfold nat;rw [a,List.map_map];refine(List.map_congr_left fun n _=>?_).trans (List.map_id m);show((n:Int)).toNat=n;omega
 rw [this];exact⟨a,b,c⟩
theorem nat_len (l:List Int):(nat l).length=l.length:=by simp [nat]
theorem nextFrom_err (m:List Nat) (l:List Bool) (k n:Nat) (hn:n<=l.length) (hk:n+k<=15) (hk0:n+k<=l.length∨True) :
  n<=(nextFrom m l k n).1/\(nextFrom m l k n).1<=l.length/\((nextFrom m l k n).2.1=0/\n+1<=(nextFrom m l k n).1∨(nextFrom m l k n).2.1=4∨(nextFrom m l k n).2.1=20):=by
 induction k generalizing n with
 | zero=>exact⟨Nat.le_refl _,hn,.inr (.inr rfl)⟩
 | succ k ih =>
  rw [nextFrom];by_cases h:l.length<=n
  ·rw [if_pos h]; exact⟨Nat.le_refl _,hn,.inr (.inl rfl)⟩
  ·rw [if_neg h];by_cases d:numb (l.take (n+1))<fst m (n+1)+tal m (n+1)
   ·rw [if_pos d];exact⟨by show n<=n+1; omega,by show n+1<=_; omega,.inl ⟨rfl,Nat.le_refl _⟩⟩
   ·rw [if_neg d];obtain⟨a,b,c⟩:=ih (n+1) (by omega) (by omega) (.inr trivial);refine⟨by omega,b,?_⟩;rcases c with ⟨c1,c2⟩ | c | c
    ·exact .inl ⟨c1,by omega⟩
    ·exact .inr (.inl c)
    ·exact .inr (.inr c)
end PH
section
variable (A:Option Addr) (n c:Nat) (l:List Int) {w0 w:World} {L:List Pr}
theorem WE (H:Sp w0 L w) (hn:n=l.length) (hb:Ent L fun w=>Rd w A (cells64 l)) (hl:n<=1000000) (hk:PH.okB l=false) :
  Calls Tryz.prog 179 #[.slice A n c] w fun e w'=>e=.returned (.tuple #[.pointer none,.int .i64 (PH.enI l)])/\Sp w0 L w':=by
 unfold PH.enI;unfold PH.okB at hk;cases hm:PH.may l with
 | true =>
  obtain⟨a,b,d⟩:=PH.may_split hm;rw [hm,Bool.true_and] at hk;rw [if_pos rfl];exact TW A n c (PH.nat l) H (by rw [PH.nat_len]; exact hn) (by rw [<- a]; exact hb) (by rw [hn,<- PH.nat_len]; exact b) d hk
 | false =>
  rw [if_neg (by decide)];exact Th A n c l H hn hb (by omega) hm
theorem XP (H:Sp w0 L w) (hn:n=l.length) (hb:Ent L fun w=>Rd w A (cells64 l)) (hk:PH.okB l=true) :
  Calls Tryz.prog 179 #[.slice A n c] w fun e w'=>∃g v,e=.returned (.tuple #[.pointer (some ⟨g,0,none⟩),.int .i64 0])/\Sp w0 (Row 3 1 v (PH.rows (PH.nat l)).length (cellsN (PH.rows (PH.nat l)))::BkB g (PH.nat l) v (mostOf (PH.nat l))::L) w':=by
 unfold PH.okB at hk;simp only [Bool.and_eq_true] at hk;obtain⟨a,b,d⟩:=PH.may_split hk.1;exact Tj A n c (PH.nat l) H (by rw [PH.nat_len]; exact hn) (by rw [<- a]; exact hb) (by rw [hn,<- PH.nat_len]; exact b) d hk.2
end

theorem Ye (s M x:Nat) (hx:x<18446744073709551616) (hM:M<18446744073709551616) (hM2:M * 2 ^ s<18446744073709551616) (p:Int) (hp:p=((2 ^ s:Nat):Int)) :
  bits .or .u64 (bits .and .u64 ((x:Int) / p) (M:Int)) (IntKind.u64.wrap (bits .and .u64 (x:Int) (M:Int) * p))=((PBits.sw s M x:Nat):Int):=by
 subst hp;have a:(x:Int) / ((2 ^ s:Nat):Int)=((x / 2 ^ s:Nat):Int):=by rw [Int.natCast_ediv]
 have b:x / 2 ^ s<18446744073709551616:=Nat.lt_of_le_of_lt (Nat.div_le_self _ _) hx;have c:(x &&& M) * 2 ^ s<18446744073709551616:=Nat.lt_of_le_of_lt (Nat.mul_le_mul_right _ Nat.and_le_right) hM2;have d:(x / 2 ^ s &&& M)<18446744073709551616:=Nat.lt_of_le_of_lt Nat.and_le_right hM;rw [a,u64_and_nat _ _ b hM,u64_and_nat _ _ hx hM,<- Int.natCast_mul,IntKind.wrap_u64,Int.emod_eq_of_lt (by omega) (by omega),u64_or_nat _ _ d c];rfl
theorem WF (x:Nat) (hx:x<18446744073709551616) :
  bits .or .u64 ((x:Int) / 4294967296) (IntKind.u64.wrap ((x:Int) * 4294967296))=((PBits.sw 32 4294967295 x:Nat):Int):=by
 have a:x / 4294967296<18446744073709551616:=by omega
 have b:(x &&& 4294967295)=x % 4294967296:=Nat.and_two_pow_sub_one_eq_mod x 32;have c:(x / 4294967296 &&& 4294967295)=x / 4294967296:=by
  rw [show(4294967295:Nat)=2 ^ 32 - 1 by decide,Nat.and_two_pow_sub_one_eq_mod]; omega
 have d:IntKind.u64.wrap ((x:Int) * 4294967296)=((x % 4294967296 * 4294967296:Nat):Int):=by rw [IntKind.wrap_u64]; omega
 have e:(x:Int) / 4294967296=((x / 4294967296:Nat):Int):=by omega
 rw [d,e,u64_or_nat _ _ a (by omega)];unfold PBits.sw;rw [b,show(2:Nat) ^ 32=4294967296 by decide,c]

theorem XC (x:Nat) (w:World) (hx:x<18446744073709551616) :
  Calls Tryz.prog 193 #[.int .u64 x] w fun e w'=>e=.returned (.int .u64 (PBits.sw 32 4294967295 (PBits.sw 16 281470681808895 (PBits.sw 8 71777214294589695 x)):Nat))/\w=w':=by
 have c:=PBits.sw_lt 8 71777214294589695 x (by decide) (by decide);have d:=Ye 8 71777214294589695 x hx (by decide) (by decide) 256 (by decide);have a:=PBits.sw_lt 16 281470681808895 (PBits.sw 8 71777214294589695 x) (by decide) (by decide);have b:=Ye 16 281470681808895 _ c (by decide) (by decide) 65536 (by decide);have f:=WF _ a;simp only [Int.cast_ofNat_Int] at d b;go_enter Tryz.func193,Tryz.ntmps193
 go_wp2;go_ret;exact⟨rfl,rfl⟩
theorem Vr (x:Nat) (w:World) (hx:x<18446744073709551616) :
  Calls Tryz.prog 189 #[.int .u64 x] w fun e w'=>e=.returned (.int .u64 (PBits.rev64 x:Nat))/\w=w':=by
 have a:=PBits.sw_lt 1 6148914691236517205 x (by decide) (by decide);have b:=Ye 1 6148914691236517205 x hx (by decide) (by decide) 2 (by decide);have c:=PBits.sw_lt 2 3689348814741910323 (PBits.sw 1 6148914691236517205 x) (by decide) (by decide);have d:=Ye 2 3689348814741910323 _ a (by decide) (by decide) 4 (by decide);have f:=PBits.sw_lt 4 1085102592571150095 (PBits.sw 2 3689348814741910323 (PBits.sw 1 6148914691236517205 x)) (by decide) (by decide);have g:=Ye 4 1085102592571150095 _ c (by decide) (by decide) 16 (by decide);simp only [Int.cast_ofNat_Int] at b d g;go_enter Tryz.func189,Tryz.ntmps189
 go_wp2_with fail
 refine(XC _ _ f).mono ?_;rintro e h ⟨rfl,rfl⟩;go_wp2;go_ret;exact⟨rfl,rfl⟩
theorem XQ (x K:Nat) (m:Int) (w:World) (hx:x<18446744073709551616) (hK:(K:Int)=min (max m 0) 64) :
  Calls Tryz.prog 183 #[.int .u64 x,.int .i64 m] w fun e w'=>e=.returned (.int .u64 (PBits.rev x K:Nat))/\w=w':=by
 have a:K<=64:=by omega
 have d:∀W:World,(Builtin.max_ #[3,3] 3 #[.int .i64 m,.int .i64 0]).run Tryz.prog W=.ok (.int .i64 (max m 0)) W:=fun W=>by
  simp [Builtin.max_,Builtin.max2];split <;> omega
 have f:∀W:World,(Builtin.min_ #[3,3] 3 #[.int .i64 (max m 0),.int .i64 64]).run Tryz.prog W=.ok (.int .i64 K) W:=fun W=>by
  simp [Builtin.min_,Builtin.min2];split <;> omega
 clear hK;have g:=PBits.rev64_lt x;go_enter Tryz.func183,Tryz.ntmps183
 by_cases b:K=0
 ·subst b;go_wp2;go_ret;exact⟨rfl,rfl⟩
 ·have c:=PBits.rev64_rev x K a;go_wp2_with fail
  refine(Vr _ _ hx).mono ?_;rintro e h ⟨rfl,rfl⟩;go_wp2;go_ret;refine⟨?_,rfl⟩;rw [<- c];simp [Int.natCast_ediv]
def WrB (g:Nat) (v:Value) (wait many:Nat):Pr:=Bk g 173 [v,.int .u64 wait,.int .i64 many,.bool true]
def Wr (g V N:Nat):Pr:=Ex fun v:Value=>Star (WrB g v (V / 256 ^ (N / 8)) (N % 8)) (Row 5 1 v (N / 8) (cells8 (PBits.bytesOf V (N / 8))))
theorem Yf (g:Nat) (w:World) (c3:w.cell? ⟨g,3,none⟩=some (.bool true)) :
  Calls Tryz.prog 110 #[.pointer (some ⟨g,0,none⟩)] w fun e w'=>e=.returned (.bool false)/\w=w':=by
 go_enter Tryz.func110,Tryz.ntmps110
 go_wp2;go_ret;exact⟨rfl,rfl⟩
theorem Xj (g:Nat) (m:Int) (w:World) (c3:w.cell? ⟨g,3,none⟩=some (.bool true)) (h0:0<=m) (h1:m<=57) :
  Calls Tryz.prog 166 #[.func (.func 110) #[.pointer (some ⟨g,0,none⟩)] #[],.int .i64 m,.bool true] w fun e w'=>e=.returned (.int .i64 0)/\w=w':=by
 go_enter Tryz.func166,Tryz.ntmps166
 go_wp2_with fail
 refine(Yf g _ c3).mono ?_;rintro e a ⟨rfl,rfl⟩;have b:¬ (57:Int)<m:=by omega
 have c:¬ m<0:=by omega
 go_wp2;go_ret;exact⟨rfl,rfl⟩
end Go.Proofs.YtnjpnmpemhldcaaGreatDoor

