/- A pack. -/
import Derived.Lib.QuoteBits
import Derived.Test.YteajimobgkempaaDoorPk11
set_option linter.all false
set_option maxRecDepth 100000
set_option maxHeartbeats 8000000
namespace Go.Proofs.YteajimobgkempaaDoor.PBits
def le:List UInt8->Nat
 | []=>0
 | b::l=>b.toNat+256 * le l
def bytesOf (V:Nat):Nat->List UInt8
 | 0=>[]
 | n+1=>UInt8.ofNat (V % 256)::bytesOf (V / 256) n
theorem le_lt (l:List UInt8):le l<256 ^ l.length:=by
 induction l with
 | nil=>simp [le]
 | cons b l ih =>
  have:=b.toNat_lt;simp only [le,List.length_cons,Nat.pow_succ];omega
theorem bytesOf_length (V n:Nat):(bytesOf V n).length=n:=by
 induction n generalizing V with
 | zero=>rfl
 | succ n ih=>simp [bytesOf,ih]
theorem bytesOf_add (V n m:Nat):bytesOf V (n+m)=bytesOf V n++bytesOf (V / 256 ^ n) m:=by
 induction n generalizing V with
 | zero=>simp [bytesOf]
 | succ n ih =>
  rw [show n+1+m=(n+m)+1 by omega];simp only [bytesOf,ih,List.cons_append,Nat.div_div_eq_div_mul];rw [show 256 * 256 ^ n=256 ^ (n+1) by rw [Nat.pow_succ,Nat.mul_comm]]
theorem bytesOf_more (V W n:Nat):bytesOf (V+W * 256 ^ n) n=bytesOf V n:=by
 induction n generalizing V W with
 | zero=>rfl
 | succ n ih =>
  have a:(V+W * 256 ^ (n+1)) % 256=V % 256:=by
   rw [Nat.pow_succ,<- Nat.mul_assoc,Nat.add_mul_mod_self_right]
  have b:(V+W * 256 ^ (n+1)) / 256=V / 256+W * 256 ^ n:=by
   rw [Nat.pow_succ,<- Nat.mul_assoc,Nat.add_mul_div_right _ _ (by omega)]
  simp only [bytesOf,a,b,ih]
theorem le_append (a b:List UInt8):le (a++b)=le a+256 ^ a.length * le b:=by
 induction a with
 | nil=>simp [le]
 | cons x a ih =>
  simp only [List.cons_append,le,ih,List.length_cons,Nat.pow_succ,Nat.mul_add];rw [<- Nat.mul_assoc,Nat.mul_comm 256 (256 ^ a.length)];omega
def rev (n:Nat):Nat->Nat
 | 0=>0
 | k+1=>(n % 2) * 2 ^ k+rev (n / 2) k
def sw (s M x:Nat):Nat:=(x / 2 ^ s &&& M) ||| (x &&& M) * 2 ^ s
theorem pow_parts (N:Nat):2 ^ N=2 ^ (N % 8) * 256 ^ (N / 8):=by
 rw [show(256:Nat)=2 ^ 8 by decide,<- Nat.pow_mul,<- Nat.pow_add];congr 1;omega
theorem put_bytes (V n N:Nat):bytesOf (V+n * 2 ^ N) (N / 8)=bytesOf V (N / 8):=by
 rw [pow_parts N,<- Nat.mul_assoc,bytesOf_more]
theorem put_wait (V n N:Nat):(V+n * 2 ^ N) / 256 ^ (N / 8)=V / 256 ^ (N / 8)+n * 2 ^ (N % 8):=by
 rw [pow_parts N,<- Nat.mul_assoc,Nat.add_mul_div_right _ _ (Nat.pow_pos (by decide))]
theorem byte_next (X q:Nat):bytesOf X (q+1)=bytesOf X q++[UInt8.ofNat (X / 256 ^ q % 256)]:=by
 rw [bytesOf_add];rfl
end Go.Proofs.YteajimobgkempaaDoor.PBits

namespace Go.Proofs.YteajimobgkempaaDoor
variable {w0 w:World} {L:List Pr}
open Go.RowKit
theorem Vg (A:Option Addr) (n c:Nat) (l:List Int) (H:Sp w0 L w) (hn:n=l.length) (hb:Ent L fun w=>Rd w A (cells64 l)) (hl:n<=1000000000) (hm:PH.may l=false) :
  Calls Tryd.prog 159 #[.slice A n c] w fun e w'=>e=.returned (.tuple #[.pointer none,.int .i64 1])/\Sp w0 L w':=by
 have a:=X5 A n c l H hn hb hl hm;clear hn hb hm;go_enter Tryd.func159,Tryd.ntmps159
 go_wp2_with fail
 refine a.mono ?_;rintro _ d ⟨rfl,b⟩;clear a;go_wp2_with fail
 go_ret2;exact⟨rfl,b⟩
def cellsBo (l:List Bool):List Value:=l.map Value.bool
theorem Rd.atB {w:World} {A:Option Addr} {l:List Bool} (h:Rd w A (cellsBo l)) {k:Nat} (hk:k<l.length) :
  ∃ad,A=some ad/\w.cell? (ad.add k)=some (.bool l[k]):=by
 obtain⟨ad,e,a⟩:=h.at_ (k:=k) (by simpa [cellsBo] using hk);exact⟨ad,e,by simpa [cellsBo] using a⟩
def bitV (b:Bool):Nat:=if b then 1 else 0
namespace PH
def numb (l:List Bool):Nat:=l.foldl (fun x b=>2 * x+bitV b) 0
theorem numb_snoc (l:List Bool) (b:Bool):numb (l++[b])=2 * numb l+bitV b:=by unfold numb; rw [List.foldl_append]; rfl
theorem numb_lt (l:List Bool):numb l<2 ^ l.length:=by
 generalize hk:l.length=k;induction k generalizing l with
 | zero=>rw [List.eq_nil_of_length_eq_zero hk]; decide
 | succ k ih =>
  have a:l≠[]:=by rintro rfl; cases hk
  have b:=List.dropLast_concat_getLast a;have c:=ih l.dropLast (by rw [List.length_dropLast]; omega);rw [<- b,numb_snoc,Nat.pow_succ];have:bitV (l.getLast a)<=1:=by unfold bitV; split <;> omega
  omega
def nextFrom (m:List Nat) (l:List Bool):Nat->Nat->Nat × Int × Nat
 | 0,n=>(n,20,0)
 | k+1,n=>if l.length<=n then (n,4,0) else
  if numb (l.take (n+1))<fst m (n+1)+tal m (n+1) then (n+1,0,(rows m).getD ((rowsB m n).length+(numb (l.take (n+1)) - fst m (n+1))) 0) else nextFrom m l k (n+1)
theorem rowsB_tal (m:List Nat) (n:Nat):(rowsB m (n+1)).length=(rowsB m n).length+tal m (n+1):=by
 rw [rowsB,List.length_append];congr 1;unfold tal;rw [if_neg (by omega)];have h:∀k,k<=m.length->(idx m (n+1) k).length=(m.take k).count (n+1):=by
  intro k;induction k with
  | zero=>intro _; simp [idx]
  | succ k ih =>
   intro c;have a:=ih (by omega);have b:m.getD k 0=m[k]'(by omega):=by rw [List.getD_eq_getElem?_getD,List.getElem?_eq_getElem (by omega)]; rfl
   rw [idx_succ,List.take_succ_eq_append_getElem (by omega),List.count_append,b];by_cases e:m[k]'(by omega)=n+1
   ·rw [if_pos e,List.length_append,a,e]; simp
   ·rw [if_neg e,a]; simp [e]
 have:=h m.length (Nat.le_refl _)
 rwa [List.take_length] at this
theorem rowsB_mono (m:List Nat) (n k:Nat) (h:n<=k):(rowsB m n).length<=(rowsB m k).length:=by
 obtain⟨d,rfl⟩:∃d,k=n+d:=⟨k - n,by omega⟩;clear h;induction d with
 | zero=>exact Nat.le_refl _
 | succ d ih=>have:=rowsB_tal m (n+d); rw [<- Nat.add_assoc]; omega
theorem fst_next (m:List Nat) (i:Nat):fst m (i+1)=2 * (fst m i+tal m i):=by
 cases i with
 | zero=>rfl
 | succ i=>rw [show fst m (i+1+1)=(fst m (i+1)+tal m (i+1)) * 2 from rfl]; omega
theorem numb_take (l:List Bool) (a i:Nat) (b:Bool) (h:l[a+i]?=some b):numb ((l.drop a).take (i+1))=2 * numb ((l.drop a).take i)+bitV b:=by
 rw [List.take_add_one,List.getElem?_drop,h];exact numb_snoc _ _
theorem next_on (m:List Nat) (l:List Bool) (a i k C F:Nat) (b:Bool) (h:l[a+i]?=some b) (hC:numb ((l.drop a).take i)=C) (hF:fst m i+tal m i=F) :
  nextFrom m (l.drop a) (k+1) i=if 2 * C+bitV b<2 * F+tal m (i+1) then (i+1,0,(rows m).getD ((rowsB m i).length+(2 * C+bitV b - 2 * F)) 0) else nextFrom m (l.drop a) k (i+1):=by
 have c:=numb_take l a i b h;have d:=fst_next m i;rw [hC] at c;rw [hF] at d;have e:¬ (l.drop a).length<=i:=by
  obtain⟨f,_⟩:=List.getElem?_eq_some_iff.1 h;rw [List.length_drop]; omega
 rw [nextFrom,if_neg e,c,d]
end PH
theorem or_zero (x:Nat) (hx:x<4611686018427387904):bits .or .i64 ((x:Int) * 2) 0=(x:Int) * 2:=by
 have e:(x:Int) * 2=((x * 2:Nat):Int):=by omega
 rw [e];show IntKind.i64.wrap ((BitVec.ofInt 64 ((x * 2:Nat):Int) ||| BitVec.ofInt 64 ((0:Nat):Int)).toNat:Int)=_;rw [BitVec.toNat_or,ofInt_u64 (x * 2) (by omega),ofInt_u64 0 (by omega),Nat.or_zero];exact Go.Lib.wrap_i64_small _ (by omega)
theorem Vh (x:Nat) (hx:x<4611686018427387904):bits .or .i64 ((x:Int) * 2) 1=(x:Int) * 2+1:=by
 have e:(x:Int) * 2=((x * 2:Nat):Int):=by omega
 rw [e,Go.Lib.or_one (x * 2) (by omega)];omega
theorem Xs (n:Nat) (hn:n<=15) (w:World):Calls Tryd.prog 142 #[.int .i64 n] w fun e w'=>e=.returned (.int .i64 ((2 ^ n:Nat):Int))/\w=w':=by
 go_enter Tryd.func142,Tryd.ntmps142
 go_wp2_with fail
 go_loopw [3,4] (fun c3 c4 wr=>∃(i x:Nat),c3=.int .i64 x/\c4=.int .i64 i/\i<=n/\2 ^ i=x/\w=wr) (fun _ c4 _=>n - (intOf c4).toNat)
 case atStart=>exact⟨0,1,rfl,rfl,Nat.zero_le _,rfl,rfl⟩
 case round =>
  obtain⟨i,x,rfl,rfl,f,a,rfl⟩:=hrel;have c:x<=32768:=by
   rw [<- a];have:(2:Nat) ^ i<=2 ^ 15:=Nat.pow_le_pow_right (by omega) (by omega);exact this
  have b:=hid a;clear a;by_cases h:i<n
  ·have d:(i:Int)<(n:Int):=by omega
   go_wp2_with fail
   go_roundw
   case rel=>exact⟨i+1,2 * x,by go_num,by go_num,by omega,by rw [Nat.pow_succ,b.out]; omega,trivial⟩
   case measure=>first | (simp [intOf]; omega) | simp [intOf]
  ·have d:¬ (i:Int)<(n:Int):=by omega
   obtain rfl:i=n:=by omega
   go_wp2_with fail
   go_ret;exact⟨Yc (by have:=b.out; norm_cast; exact this.symm),rfl⟩
namespace PH
theorem idx_get (m:List Nat) (n k r:Nat) (hk:k<=m.length) (h:r<(idx m n k).length):∃i,i<k/\(idx m n k).getD r 0=i/\m.getD i 0=n/\(m.take i).count n=r:=by
 induction k generalizing r with
 | zero=>simp [idx] at h
 | succ k ih =>
  rw [idx_succ] at h ⊢;have a:∀q,q<=m.length->(idx m n q).length=(m.take q).count n:=by
   intro q;induction q with
   | zero=>intro _; simp [idx]
   | succ q ihq =>
    intro l;have c:=ihq (by omega);have j:m.getD q 0=m[q]'(by omega):=by rw [List.getD_eq_getElem?_getD,List.getElem?_eq_getElem (by omega)]; rfl
    rw [idx_succ,List.take_succ_eq_append_getElem (by omega),List.count_append,j];by_cases e:m[q]'(by omega)=n
    ·rw [if_pos e,List.length_append,c,e]; simp
    ·rw [if_neg e,c]; simp [e]
  by_cases e:m.getD k 0=n
  ·rw [if_pos e] at h ⊢;rw [List.length_append,List.length_singleton] at h;rcases Nat.lt_or_ge r (idx m n k).length with hr | hr
   ·obtain⟨i,c,d,f,g⟩:=ih r (by omega) hr;refine⟨i,by omega,?_,f,g⟩;rw [List.getD_eq_getElem?_getD,List.getElem?_append_left hr,<- List.getD_eq_getElem?_getD]; exact d
   ·have b:r=(idx m n k).length:=by omega
    refine⟨k,by omega,?_,e,by rw [b,a k (by omega)]⟩;rw [List.getD_eq_getElem?_getD,List.getElem?_append_right hr,b,Nat.sub_self]; rfl
  ·rw [if_neg e] at h ⊢;obtain⟨i,c,d,f,g⟩:=ih r (by omega) h;exact⟨i,by omega,d,f,g⟩
theorem tal_pos (m:List Nat) (n:Nat) (h:n≠0):tal m n=m.count n:=by unfold tal; rw [if_neg h]
theorem rank_lt (m:List Nat) (i n:Nat) (hi:i<m.length) (hn:m.getD i 0=n):(m.take i).count n<m.count n:=by
 have h:=List.take_append_drop i m;have a:m.drop i=m[i]::m.drop (i+1):=List.drop_eq_getElem_cons hi;have b:m[i]=n:=by rw [<- hn,List.getD_eq_getElem?_getD,List.getElem?_eq_getElem hi]; rfl
 have e:m.count n=(m.take i).count n+(m.drop i).count n:=by
  conv=>lhs; rw [<- h]
  rw [List.count_append]
 rw [e,a,b,List.count_cons_self]; omega
theorem rank_inj (m:List Nat) (i j n:Nat) (hi:i<m.length) (hj:j<m.length) (hin:m.getD i 0=n) (hjn:m.getD j 0=n) (h:(m.take i).count n=(m.take j).count n):i=j:=by
 have b:∀i j,i<j->j<=m.length->m.getD i 0=n->(m.take i).count n<(m.take j).count n:=by
  intro i j c hj hin;have a:=rank_lt (m.take j) i n (by rw [List.length_take]; omega) (by rw [List.getD_eq_getElem?_getD,List.getElem?_take_of_lt c,<- List.getD_eq_getElem?_getD]; exact hin)
  rwa [List.take_take,Nat.min_eq_left (by omega)] at a
 rcases Nat.lt_trichotomy i j with a | a | a
 ·have:=b i j a (by omega) hin; omega
 ·exact a
 ·have:=b j i a (by omega) hjn; omega
theorem codeAt_of (m:List Nat) (i n:Nat) (hn:m.getD i 0=n) (h0:n≠0):codeAt m i=fst m n+(m.take i).count n:=by
 unfold codeAt; rw [hn,if_neg h0]
theorem codeAt_lt (m:List Nat) (i n:Nat) (hi:i<m.length) (hn:m.getD i 0=n) (h0:n≠0):fst m n<=codeAt m i/\codeAt m i<fst m n+tal m n:=by
 rw [codeAt_of m i n hn h0,tal_pos m n h0];have:=rank_lt m i n hi hn;omega
theorem rowsB_take (m:List Nat) (n k:Nat) (h:n<=k):∃t,rowsB m k=rowsB m n++t:=by
 obtain⟨d,rfl⟩:∃d,k=n+d:=⟨k - n,by omega⟩;clear h;induction d with
 | zero=>exact⟨[],by simp⟩
 | succ d ih =>
  obtain⟨t,a⟩:=ih;exact⟨t++idx m (n+d+1) m.length,by rw [<- Nat.add_assoc,rowsB,a,List.append_assoc]⟩
theorem code_sym (m:List Nat) (n c:Nat) (hn:n<15) (h1:fst m (n+1)<=c) (h2:c<fst m (n+1)+tal m (n+1)) :
  ∃i,i<m.length/\m.getD i 0=n+1/\codeAt m i=c/\(rows m).getD ((rowsB m n).length+(c - fst m (n+1))) 0=i:=by
 have b:=rowsB_tal m n;rw [rowsB,List.length_append] at b;obtain⟨i,d,e,a,f⟩:=idx_get m (n+1) m.length (c - fst m (n+1)) (Nat.le_refl _) (by omega);refine⟨i,d,a,by rw [codeAt_of m i (n+1) a (by omega),f]; omega,?_⟩;obtain⟨t,g⟩:=rowsB_take m (n+1) 15 (by omega);unfold rows;rw [g,rowsB,List.append_assoc,List.getD_eq_getElem?_getD,List.getElem?_append_right (by omega),show(rowsB m n).length+(c - fst m (n+1)) - (rowsB m n).length=c - fst m (n+1) by omega,List.getElem?_append_left (by omega),<- List.getD_eq_getElem?_getD];exact e
theorem code_inj (m:List Nat) (i j:Nat) (hi:i<m.length) (hj:j<m.length) (h0:m.getD i 0≠0) (hl:m.getD i 0=m.getD j 0) (hc:codeAt m i=codeAt m j):i=j:=by
 rw [codeAt_of m i _ rfl h0,codeAt_of m j _ hl.symm h0] at hc;exact rank_inj m i j _ hi hj rfl hl.symm (by omega)
theorem fst_share15 (m:List Nat) (n:Nat) (h1:1<=n) (h:n<=15):fst m n * 2 ^ (15 - n)=share m n:=by
 have:=fst_share m n h1 (by omega);rw [show 16 - n=(15 - n)+1 by omega,Nat.pow_succ,<- Nat.mul_assoc] at this;omega
theorem share_next (m:List Nat) (n:Nat) (h1:1<=n) (h:n<=15):(fst m n+tal m n) * 2 ^ (15 - n)=share m (n+1):=by
 rw [Nat.add_mul,fst_share15 m n h1 h,share]
theorem share_one (m:List Nat):share m 1=0:=by simp [share,tal]
def hit (m:List Nat) (R i:Nat):Prop:=m.getD i 0≠0/\R / 2 ^ (15 - m.getD i 0)=codeAt m i
instance (m:List Nat) (R i:Nat):Decidable (hit m R i):=inferInstanceAs (Decidable (_/\_))
theorem rows_len (m:List Nat):∀n,n<=15->(rowsB m n).length=((List.range (n+1)).map (tal m)).sum:=by
 intro n;induction n with
 | zero=>intro _; simp [rowsB,tal]
 | succ n ih =>
  intro h;rw [rowsB_tal,ih (by omega),List.range_succ (n:=n+1),List.map_append,List.sum_append];simp
theorem tal_le_rows (m:List Nat) (n:Nat) (h1:1<=n) (h:n<=15):tal m n<=(rows m).length:=by
 obtain⟨p,rfl⟩:∃p,n=p+1:=⟨n - 1,by omega⟩;have a:=rowsB_tal m p;have b:=rowsB_mono m (p+1) 15 h;unfold rows; omega
theorem sum_none (m:List Nat) (h:(rows m).length=0):sum m=0:=by
 have a:∀n,n<=16->share m n=0:=by
  intro n;induction n with
  | zero=>intro _; rfl
  | succ n ih =>
   intro b;rw [share,ih (by omega)];rcases Nat.eq_zero_or_pos n with h0 | h0
   ·subst h0; simp [tal]
   ·have:=tal_le_rows m n h0 (by omega);rw [show tal m n=0 by omega]; simp
 exact a 16 (Nat.le_refl _)
theorem sum_single (m:List Nat) (h:(rows m).length=1) (h1:tal m 1=1):sum m=16384:=by
 have b:∀n,2<=n->n<=15->tal m n=0:=by
  intro n c d;obtain⟨p,rfl⟩:∃p,n=p+1:=⟨n - 1,by omega⟩;have e:=rowsB_tal m 0;have f:=rowsB_mono m 1 p (by omega);have g:=rowsB_tal m p;have i:=rowsB_mono m (p+1) 15 d;unfold rows at h;rw [show(rowsB m 0).length=0 from rfl,show 0+1=1 from rfl] at e;omega
 have a:∀n,2<=n->n<=16->share m n=16384:=by
  intro n;induction n with
  | zero=>intro h; omega
  | succ n ih =>
   intro c j;rcases Nat.lt_or_ge n 2 with q | q
   ·obtain rfl:n=1:=by omega
    rw [share,share_one,h1]
   ·rw [share,ih q (by omega),b n q (by omega)]; simp
 exact a 16 (by omega) (by omega)
theorem share_two (m:List Nat):share m 2=tal m 1 * 16384:=by rw [share,share_one]; simp
theorem many_no_book (m:List Nat) (h:PH.state m=1):mayBook m=false:=by
 have a:32768<sum m:=by
  unfold PH.state at h;by_cases q:sum m<32768
  ·rw [if_pos q] at h; omega
  ·rw [if_neg q] at h;by_cases b:32768<sum m
   ·exact b
   ·rw [if_neg b] at h; omega
 cases hb:mayBook m with
 | false=>rfl
 | true =>
  exfalso;unfold mayBook at hb;simp only [Bool.or_eq_true,Bool.and_eq_true,decide_eq_true_eq] at hb;rcases hb with h2 | h2 | ⟨h1,h2⟩
  ·omega
  ·rw [sum_none m h2] at a; omega
  ·rw [sum_single m h1 h2] at a; omega
end PH
end Go.Proofs.YteajimobgkempaaDoor

