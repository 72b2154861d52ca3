/- A pack of texts: HuffI HuffCode HuffS HuffT HuffKnown HuffU BitsW BitsS BitsS2 BitsS3 BitsR BitsQ. -/
import Derived.Deep.CutRange
import Derived.Laws.BitsAllLaws
import Derived.Lib.QuoteBits
import Derived.StillTailTactics
import Derived.Test.YtloijdbkikccgaaGreatDoorProg
import Derived.Test.YtloijdbkikccgaaGreatDoorPk01
import Derived.Test.YtloijdbkikccgaaGreatDoorPk02
import Derived.Test.YtloijdbkikccgaaGreatDoorPk10
namespace Go.Proofs.YtloijdbkikccgaaGreatDoor
open Go.RowKit
namespace PH
def numb (l:List Bool):Nat:=l.foldl (fun x b=>2 * x+bitV b) 0
theorem numb_snoc (l:List Bool) (b:Bool):numb (l++[b])=2 * numb l+bitV b:=by unfold numb; rw [List.foldl_append]; rfl
theorem numb_lt (l:List Bool):numb l<2 ^ l.length:=by
 generalize hk:l.length=k
 induction k generalizing l with
 | zero=>rw [List.eq_nil_of_length_eq_zero hk]; decide
 | succ k ih =>
  have hne:l≠[]:=by rintro rfl; cases hk
  have h1:=List.dropLast_concat_getLast hne
  have h2:=ih l.dropLast (by rw [List.length_dropLast]; omega)
  rw [<- h1,numb_snoc,Nat.pow_succ]
  have:bitV (l.getLast hne)<=1:=by unfold bitV; split <;> omega
  omega
def nextFrom (m:List Nat) (l:List Bool):Nat->Nat->Nat × Int × Nat
 | 0,n=>(n,20,0)
 | k+1,n=>if l.length<=n then (n,4,0) else
  if numb (l.take (n+1))<fst m (n+1)+tal m (n+1) then (n+1,0,(rows m).getD ((rowsB m n).length+(numb (l.take (n+1)) - fst m (n+1))) 0) else nextFrom m l k (n+1)
theorem rowsB_tal (m:List Nat) (n:Nat):(rowsB m (n+1)).length=(rowsB m n).length+tal m (n+1):=by
 rw [rowsB,List.length_append]
 congr 1
 unfold tal
 rw [if_neg (by omega)]
 have h:∀k,k<=m.length->(idx m (n+1) k).length=(m.take k).count (n+1):=by
  intro k
  induction k with
  | zero=>intro _; simp [idx]
  | succ k ih =>
   intro hk
   have h1:=ih (by omega)
   have hg:m.getD k 0=m[k]'(by omega):=by rw [List.getD_eq_getElem?_getD,List.getElem?_eq_getElem (by omega)]; rfl
   rw [idx_succ,List.take_succ_eq_append_getElem (by omega),List.count_append,hg]
   by_cases e:m[k]'(by omega)=n+1
   ·rw [if_pos e,List.length_append,h1,e]; simp
   ·rw [if_neg e,h1]; simp [e]
 have:=h m.length (Nat.le_refl _)
 rwa [List.take_length] at this
theorem rowsB_mono (m:List Nat) (n k:Nat) (h:n<=k):(rowsB m n).length<=(rowsB m k).length:=by
 obtain⟨d,rfl⟩:∃d,k=n+d:=⟨k - n,by omega⟩
 clear h
 induction d with
 | zero=>exact Nat.le_refl _
 | succ d ih=>have:=rowsB_tal m (n+d); rw [<- Nat.add_assoc]; omega
theorem fst_next (m:List Nat) (i:Nat):fst m (i+1)=2 * (fst m i+tal m i):=by
 cases i with
 | zero=>rfl
 | succ i=>rw [show fst m (i+1+1)=(fst m (i+1)+tal m (i+1)) * 2 from rfl]; omega
theorem numb_take (l:List Bool) (a i:Nat) (b:Bool) (h:l[a+i]?=some b):numb ((l.drop a).take (i+1))=2 * numb ((l.drop a).take i)+bitV b:=by
 rw [List.take_add_one,List.getElem?_drop,h]
 exact numb_snoc _ _
theorem next_on (m:List Nat) (l:List Bool) (a i k C F:Nat) (b:Bool) (h:l[a+i]?=some b) (hC:numb ((l.drop a).take i)=C) (hF:fst m i+tal m i=F) :
  nextFrom m (l.drop a) (k+1) i=if 2 * C+bitV b<2 * F+tal m (i+1) then (i+1,0,(rows m).getD ((rowsB m i).length+(2 * C+bitV b - 2 * F)) 0) else nextFrom m (l.drop a) k (i+1):=by
 have h1:=numb_take l a i b h
 have h2:=fst_next m i
 rw [hC] at h1
 rw [hF] at h2
 have h3:¬ (l.drop a).length<=i:=by
  obtain⟨h4,_⟩:=List.getElem?_eq_some_iff.1 h
  rw [List.length_drop]; omega
 rw [nextFrom,if_neg h3,h1,h2]
end PH
theorem or_zero (x:Nat) (hx:x<4611686018427387904):bits .or .i64 ((x:Int) * 2) 0=(x:Int) * 2:=by
 have e:(x:Int) * 2=((x * 2:Nat):Int):=by omega
 rw [e]
 show IntKind.i64.wrap ((BitVec.ofInt 64 ((x * 2:Nat):Int) ||| BitVec.ofInt 64 ((0:Nat):Int)).toNat:Int)=_
 rw [BitVec.toNat_or,ofInt_u64 (x * 2) (by omega),ofInt_u64 0 (by omega),Nat.or_zero]
 exact Go.Lib.wrap_i64_small _ (by omega)
theorem or_one2 (x:Nat) (hx:x<4611686018427387904):bits .or .i64 ((x:Int) * 2) 1=(x:Int) * 2+1:=by
 have e:(x:Int) * 2=((x * 2:Nat):Int):=by omega
 rw [e,Go.Lib.or_one (x * 2) (by omega)]
 omega
set_option linter.unusedVariables false
namespace PH
theorem idx_get (m:List Nat) (n k r:Nat) (hk:k<=m.length) (h:r<(idx m n k).length):∃i,i<k/\(idx m n k).getD r 0=i/\m.getD i 0=n/\(m.take i).count n=r:=by
 induction k generalizing r with
 | zero=>simp [idx] at h
 | succ k ih =>
  rw [idx_succ] at h ⊢
  have hlen:∀q,q<=m.length->(idx m n q).length=(m.take q).count n:=by
   intro q
   induction q with
   | zero=>intro _; simp [idx]
   | succ q ihq =>
    intro hq
    have h1:=ihq (by omega)
    have hg:m.getD q 0=m[q]'(by omega):=by rw [List.getD_eq_getElem?_getD,List.getElem?_eq_getElem (by omega)]; rfl
    rw [idx_succ,List.take_succ_eq_append_getElem (by omega),List.count_append,hg]
    by_cases e:m[q]'(by omega)=n
    ·rw [if_pos e,List.length_append,h1,e]; simp
    ·rw [if_neg e,h1]; simp [e]
  by_cases e:m.getD k 0=n
  ·rw [if_pos e] at h ⊢
   rw [List.length_append,List.length_singleton] at h
   rcases Nat.lt_or_ge r (idx m n k).length with hr | hr
   ·obtain⟨i,h1,h2,h3,h4⟩:=ih r (by omega) hr
    refine⟨i,by omega,?_,h3,h4⟩
    rw [List.getD_eq_getElem?_getD,List.getElem?_append_left hr,<- List.getD_eq_getElem?_getD]; exact h2
   ·have hr2:r=(idx m n k).length:=by omega
    refine⟨k,by omega,?_,e,by rw [hr2,hlen k (by omega)]⟩
    rw [List.getD_eq_getElem?_getD,List.getElem?_append_right hr,hr2,Nat.sub_self]; rfl
  ·rw [if_neg e] at h ⊢
   obtain⟨i,h1,h2,h3,h4⟩:=ih r (by omega) h
   exact⟨i,by omega,h2,h3,h4⟩
theorem tal_pos (m:List Nat) (n:Nat) (h:n≠0):tal m n=m.count n:=by unfold tal; rw [if_neg h]
theorem rank_lt (m:List Nat) (i n:Nat) (hi:i<m.length) (hn:m.getD i 0=n):(m.take i).count n<m.count n:=by
 have h:=List.take_append_drop i m
 have hd:m.drop i=m[i]::m.drop (i+1):=List.drop_eq_getElem_cons hi
 have hg:m[i]=n:=by rw [<- hn,List.getD_eq_getElem?_getD,List.getElem?_eq_getElem hi]; rfl
 have e:m.count n=(m.take i).count n+(m.drop i).count n:=by
  conv=>lhs; rw [<- h]
  rw [List.count_append]
 rw [e,hd,hg,List.count_cons_self]; omega
theorem rank_inj (m:List Nat) (i j n:Nat) (hi:i<m.length) (hj:j<m.length) (hin:m.getD i 0=n) (hjn:m.getD j 0=n) (h:(m.take i).count n=(m.take j).count n):i=j:=by
 have key:∀i j,i<j->j<=m.length->m.getD i 0=n->(m.take i).count n<(m.take j).count n:=by
  intro i j hij hj hin
  have h1:=rank_lt (m.take j) i n (by rw [List.length_take]; omega) (by rw [List.getD_eq_getElem?_getD,List.getElem?_take_of_lt hij,<- List.getD_eq_getElem?_getD]; exact hin)
  rwa [List.take_take,Nat.min_eq_left (by omega)] at h1
 rcases Nat.lt_trichotomy i j with h1 | h1 | h1
 ·have:=key i j h1 (by omega) hin; omega
 ·exact h1
 ·have:=key j i h1 (by omega) hjn; omega
theorem codeAt_of (m:List Nat) (i n:Nat) (hn:m.getD i 0=n) (h0:n≠0):codeAt m i=fst m n+(m.take i).count n:=by
 unfold codeAt; rw [hn,if_neg h0]
theorem codeAt_lt (m:List Nat) (i n:Nat) (hi:i<m.length) (hn:m.getD i 0=n) (h0:n≠0):fst m n<=codeAt m i/\codeAt m i<fst m n+tal m n:=by
 rw [codeAt_of m i n hn h0,tal_pos m n h0]
 have:=rank_lt m i n hi hn
 omega
theorem rowsB_take (m:List Nat) (n k:Nat) (h:n<=k):∃t,rowsB m k=rowsB m n++t:=by
 obtain⟨d,rfl⟩:∃d,k=n+d:=⟨k - n,by omega⟩
 clear h
 induction d with
 | zero=>exact⟨[],by simp⟩
 | succ d ih =>
  obtain⟨t,ht⟩:=ih
  exact⟨t++idx m (n+d+1) m.length,by rw [<- Nat.add_assoc,rowsB,ht,List.append_assoc]⟩
theorem code_sym (m:List Nat) (n c:Nat) (hn:n<15) (h1:fst m (n+1)<=c) (h2:c<fst m (n+1)+tal m (n+1)) :
  ∃i,i<m.length/\m.getD i 0=n+1/\codeAt m i=c/\(rows m).getD ((rowsB m n).length+(c - fst m (n+1))) 0=i:=by
 have hl:=rowsB_tal m n
 rw [rowsB,List.length_append] at hl
 obtain⟨i,hi,hg,hm,hc⟩:=idx_get m (n+1) m.length (c - fst m (n+1)) (Nat.le_refl _) (by omega)
 refine⟨i,hi,hm,by rw [codeAt_of m i (n+1) hm (by omega),hc]; omega,?_⟩
 obtain⟨t,ht⟩:=rowsB_take m (n+1) 15 (by omega)
 unfold rows
 rw [ht,rowsB,List.append_assoc,List.getD_eq_getElem?_getD,List.getElem?_append_right (by omega),show(rowsB m n).length+(c - fst m (n+1)) - (rowsB m n).length=c - fst m (n+1) by omega,List.getElem?_append_left (by omega),<- List.getD_eq_getElem?_getD]
 exact hg
theorem code_inj (m:List Nat) (i j:Nat) (hi:i<m.length) (hj:j<m.length) (h0:m.getD i 0≠0) (hl:m.getD i 0=m.getD j 0) (hc:codeAt m i=codeAt m j):i=j:=by
 rw [codeAt_of m i _ rfl h0,codeAt_of m j _ hl.symm h0] at hc
 exact rank_inj m i j _ hi hj rfl hl.symm (by omega)
theorem fst_share15 (m:List Nat) (n:Nat) (h1:1<=n) (h:n<=15):fst m n * 2 ^ (15 - n)=share m n:=by
 have:=fst_share m n h1 (by omega)
 rw [show 16 - n=(15 - n)+1 by omega,Nat.pow_succ,<- Nat.mul_assoc] at this
 omega
theorem share_next (m:List Nat) (n:Nat) (h1:1<=n) (h:n<=15):(fst m n+tal m n) * 2 ^ (15 - n)=share m (n+1):=by
 rw [Nat.add_mul,fst_share15 m n h1 h,share]
theorem share_one (m:List Nat):share m 1=0:=by simp [share,tal]
def hit (m:List Nat) (R i:Nat):Prop:=m.getD i 0≠0/\R / 2 ^ (15 - m.getD i 0)=codeAt m i
instance (m:List Nat) (R i:Nat):Decidable (hit m R i):=inferInstanceAs (Decidable (_/\_))
theorem tal_le_rows (m:List Nat) (n:Nat) (h1:1<=n) (h:n<=15):tal m n<=(rows m).length:=by
 obtain⟨p,rfl⟩:∃p,n=p+1:=⟨n - 1,by omega⟩
 have h2:=rowsB_tal m p
 have h3:=rowsB_mono m (p+1) 15 h
 unfold rows; omega
theorem sum_none (m:List Nat) (h:(rows m).length=0):sum m=0:=by
 have key:∀n,n<=16->share m n=0:=by
  intro n
  induction n with
  | zero=>intro _; rfl
  | succ n ih =>
   intro hn
   rw [share,ih (by omega)]
   rcases Nat.eq_zero_or_pos n with h0 | h0
   ·subst h0; simp [tal]
   ·have:=tal_le_rows m n h0 (by omega)
    rw [show tal m n=0 by omega]; simp
 exact key 16 (Nat.le_refl _)
theorem sum_single (m:List Nat) (h:(rows m).length=1) (h1:tal m 1=1):sum m=16384:=by
 have hz:∀n,2<=n->n<=15->tal m n=0:=by
  intro n h2 h3
  obtain⟨p,rfl⟩:∃p,n=p+1:=⟨n - 1,by omega⟩
  have q1:=rowsB_tal m 0
  have q2:=rowsB_mono m 1 p (by omega)
  have q3:=rowsB_tal m p
  have q4:=rowsB_mono m (p+1) 15 h3
  unfold rows at h
  rw [show(rowsB m 0).length=0 from rfl,show 0+1=1 from rfl] at q1
  omega
 have key:∀n,2<=n->n<=16->share m n=16384:=by
  intro n
  induction n with
  | zero=>intro h; omega
  | succ n ih =>
   intro h2 hn
   rcases Nat.lt_or_ge n 2 with q | q
   ·obtain rfl:n=1:=by omega
    rw [share,share_one,h1]
   ·rw [share,ih q (by omega),hz n q (by omega)]; simp
 exact key 16 (by omega) (by omega)
theorem share_two (m:List Nat):share m 2=tal m 1 * 16384:=by rw [share,share_one]; simp
theorem many_no_book (m:List Nat) (h:PH.state m=1):mayBook m=false:=by
 have hs:32768<sum m:=by
  unfold PH.state at h
  by_cases q:sum m<32768
  ·rw [if_pos q] at h; omega
  ·rw [if_neg q] at h
   by_cases q2:32768<sum m
   ·exact q2
   ·rw [if_neg q2] at h; omega
 cases hb:mayBook m with
 | false=>rfl
 | true =>
  exfalso
  unfold mayBook at hb
  simp only [Bool.or_eq_true,Bool.and_eq_true,decide_eq_true_eq] at hb
  rcases hb with h2 | h2 | ⟨h1,h2⟩
  ·omega
  ·rw [sum_none m h2] at hs; omega
  ·rw [sum_single m h1 h2] at hs; omega
end PH
namespace PH
theorem tal_append (a b:List Nat) (n:Nat):tal (a++b) n=tal a n+tal b n:=by
 unfold tal
 split
 ·rfl
 ·exact List.count_append
theorem share_append (a b:List Nat) (k:Nat):share (a++b) k=share a k+share b k:=by
 induction k with
 | zero=>rfl
 | succ k ih=>rw [share,share,share,ih,tal_append,Nat.add_mul]; omega
theorem share_single (x:Nat) (k:Nat):share [x] k=if 0<x/\x<k then 2 ^ (15 - x) else 0:=by
 induction k with
 | zero=>rw [if_neg (by omega)]; rfl
 | succ k ih =>
  rw [share,ih]
  have ht:tal [x] k=if k=0 then 0 else if x=k then 1 else 0:=by
   unfold tal
   by_cases h0:k=0
   ·rw [if_pos h0,if_pos h0]
   ·rw [if_neg h0,if_neg h0,List.count_singleton]
    by_cases h1:x=k
    ·rw [if_pos h1,if_pos (by simpa using h1)]
    ·rw [if_neg h1,if_neg (by simpa using h1)]
  rw [ht]
  by_cases h1:x=k
  ·subst h1
   by_cases h0:x=0
   ·rw [if_pos h0,if_neg (by omega),if_neg (by omega)]; simp
   ·rw [if_neg h0,if_pos rfl,if_neg (by omega),if_pos (by omega)]; omega
  ·rw [show(if k=0 then 0 else if x=k then 1 else 0)=0 by simp [h1],Nat.zero_mul,Nat.add_zero]
   by_cases h2:0<x/\x<k
   ·rw [if_pos h2,if_pos (by omega)]
   ·rw [if_neg h2,if_neg (by omega)]
theorem sum_take (m:List Nat) (i:Nat) (hi:i<m.length) (x:Nat) (hx:m[i]=x) (h15:x<=15):sum (m.take (i+1))=sum (m.take i)+if 0<x then 2 ^ (15 - x) else 0:=by
 unfold sum
 rw [List.take_succ_eq_append_getElem hi,share_append,hx,share_single]
 congr 1
 by_cases h:0<x
 ·rw [if_pos h,if_pos (by omega)]
 ·rw [if_neg h,if_neg (by omega)]
end PH
def laid (m:List Nat) (q i j:Nat):Nat:=if m.getD j 0=0 then 0 else if m.getD j 0<q∨(m.getD j 0=q/\j<i) then PH.codeAt m j else 0
namespace PH
theorem mayBook_sum (m:List Nat) (h:mayBook m=true):sum m<=32768:=by
 rcases Nat.lt_or_ge 32768 (sum m) with q | q
 ·have:PH.state m=1:=by
   unfold PH.state
   rw [if_neg (by omega),if_pos q]
  rw [many_no_book m this] at h; cases h
 ·exact q
end PH
theorem new_no (A:Option Addr) (n c:Nat) (m:List Nat) {w0 w:World} {L:List Pr} (H:Sp w0 L w) (hn:n=m.length) (hb:Ent L fun w=>Rd w A (cells64 (castI m))) (hl:n<=1024) (h15:∀x ∈ m,x<=15) (hm:mayBook m=false) :
  Calls Tryz.prog 183 #[.slice A n c] w fun e w'=>e=.returned (.tuple #[.pointer none,.int .i64 20])/\Sp w0 L w' :=
 (new_ok A n c m H hn hb hl h15).mono fun e w' h=>by rw [if_neg (by rw [hm]; decide)] at h; exact h
theorem new_yes (A:Option Addr) (n c:Nat) (m:List Nat) {w0 w:World} {L:List Pr} (H:Sp w0 L w) (hn:n=m.length) (hb:Ent L fun w=>Rd w A (cells64 (castI m))) (hl:n<=1024) (h15:∀x ∈ m,x<=15) (hm:mayBook m=true) :
  Calls Tryz.prog 183 #[.slice A n c] w fun e w'=>∃g v,e=.returned (.tuple #[.pointer (some ⟨g,0,none⟩),.int .i64 0])/\Sp w0 (Row 3 1 v (PH.rows m).length (cellsN (PH.rows m))::BkB g m v (mostOf m)::L) w' :=
 (new_ok A n c m H hn hb hl h15).mono fun e w' h=>by rw [if_pos hm] at h; exact h
def fxl (i:Nat):Nat:=if i<144 then 8 else if i<256 then 9 else if i<280 then 7 else 8
def fixedL:List Nat:=(List.range 288).map fxl
namespace PH
def nat (l:List Int):List Nat:=l.map Int.toNat
def stI (l:List Int):Int:=if may l=true then PH.state (nat l) else 0
def ecI (l:List Int):Int:=if may l=true then (if PH.state (nat l)=1 then 20 else 0) else 1
def okB (l:List Int):Bool:=may l && mayBook (nat l)
def enI (l:List Int):Int:=if may l=true then 20 else 1
def cn (l:List Int):Nat:=if ecI l=0 then l.length else 0
theorem may_split {l:List Int} (h:may l=true):l=castI (nat l)/\(nat l).length<=1024/\∀n ∈ nat l,n<=15:=by
 obtain⟨m,hm,h1,h2⟩:=may_nat h
 have:nat l=m:=by
  unfold nat
  rw [hm,List.map_map]
  refine(List.map_congr_left fun n _=>?_).trans (List.map_id m)
  show((n:Int)).toNat=n
  omega
 rw [this]
 exact⟨hm,h1,h2⟩
theorem nat_len (l:List Int):(nat l).length=l.length:=by simp [nat]
theorem nextFrom_err (m:List Nat) (l:List Bool) (k n:Nat) (hn:n<=l.length) (hk:n+k<=15) (hk0:n+k<=l.length∨True) :
  n<=(nextFrom m l k n).1/\(nextFrom m l k n).1<=l.length/\((nextFrom m l k n).2.1=0/\n+1<=(nextFrom m l k n).1∨(nextFrom m l k n).2.1=4∨(nextFrom m l k n).2.1=20):=by
 induction k generalizing n with
 | zero=>exact⟨Nat.le_refl _,hn,.inr (.inr rfl)⟩
 | succ k ih =>
  rw [nextFrom]
  by_cases h:l.length<=n
  ·rw [if_pos h]; exact⟨Nat.le_refl _,hn,.inr (.inl rfl)⟩
  ·rw [if_neg h]
   by_cases h2:numb (l.take (n+1))<fst m (n+1)+tal m (n+1)
   ·rw [if_pos h2]
    exact⟨by show n<=n+1; omega,by show n+1<=_; omega,.inl ⟨rfl,Nat.le_refl _⟩⟩
   ·rw [if_neg h2]
    obtain⟨a,b,c⟩:=ih (n+1) (by omega) (by omega) (.inr trivial)
    refine⟨by omega,b,?_⟩
    rcases c with ⟨c1,c2⟩ | c | c
    ·exact .inl ⟨c1,by omega⟩
    ·exact .inr (.inl c)
    ·exact .inr (.inr c)
end PH
section
variable (A:Option Addr) (n c:Nat) (l:List Int) {w0 w:World} {L:List Pr}
theorem new_any_no (H:Sp w0 L w) (hn:n=l.length) (hb:Ent L fun w=>Rd w A (cells64 l)) (hl:n<=1000000) (hk:PH.okB l=false) :
  Calls Tryz.prog 183 #[.slice A n c] w fun e w'=>e=.returned (.tuple #[.pointer none,.int .i64 (PH.enI l)])/\Sp w0 L w':=by
 unfold PH.enI
 unfold PH.okB at hk
 cases hm:PH.may l with
 | true =>
  obtain⟨h1,h2,h3⟩:=PH.may_split hm
  rw [hm,Bool.true_and] at hk
  rw [if_pos rfl]
  exact new_no A n c (PH.nat l) H (by rw [PH.nat_len]; exact hn) (by rw [<- h1]; exact hb) (by rw [hn,<- PH.nat_len]; exact h2) h3 hk
 | false =>
  rw [if_neg (by decide)]
  exact new_bad A n c l H hn hb (by omega) hm
theorem new_any_yes (H:Sp w0 L w) (hn:n=l.length) (hb:Ent L fun w=>Rd w A (cells64 l)) (hk:PH.okB l=true) :
  Calls Tryz.prog 183 #[.slice A n c] w fun e w'=>∃g v,e=.returned (.tuple #[.pointer (some ⟨g,0,none⟩),.int .i64 0])/\Sp w0 (Row 3 1 v (PH.rows (PH.nat l)).length (cellsN (PH.rows (PH.nat l)))::BkB g (PH.nat l) v (mostOf (PH.nat l))::L) w':=by
 unfold PH.okB at hk
 simp only [Bool.and_eq_true] at hk
 obtain⟨h1,h2,h3⟩:=PH.may_split hk.1
 exact new_yes A n c (PH.nat l) H (by rw [PH.nat_len]; exact hn) (by rw [<- h1]; exact hb) (by rw [hn,<- PH.nat_len]; exact h2) h3 hk.2
end

theorem sw_words (s M x:Nat) (hx:x<18446744073709551616) (hM:M<18446744073709551616) (hM2:M * 2 ^ s<18446744073709551616) (p:Int) (hp:p=((2 ^ s:Nat):Int)) :
  bits .or .u64 (bits .and .u64 ((x:Int) / p) (M:Int)) (IntKind.u64.wrap (bits .and .u64 (x:Int) (M:Int) * p))=((PBits.sw s M x:Nat):Int):=by
 subst hp
 have h0:(x:Int) / ((2 ^ s:Nat):Int)=((x / 2 ^ s:Nat):Int):=by rw [Int.natCast_ediv]
 have h1:x / 2 ^ s<18446744073709551616:=Nat.lt_of_le_of_lt (Nat.div_le_self _ _) hx
 have h2:(x &&& M) * 2 ^ s<18446744073709551616:=Nat.lt_of_le_of_lt (Nat.mul_le_mul_right _ Nat.and_le_right) hM2
 have h3:(x / 2 ^ s &&& M)<18446744073709551616:=Nat.lt_of_le_of_lt Nat.and_le_right hM
 rw [h0,u64_and_nat _ _ h1 hM,u64_and_nat _ _ hx hM,<- Int.natCast_mul,IntKind.wrap_u64,Int.emod_eq_of_lt (by omega) (by omega),u64_or_nat _ _ h3 h2]
 rfl
theorem sw_words32 (x:Nat) (hx:x<18446744073709551616) :
  bits .or .u64 ((x:Int) / 4294967296) (IntKind.u64.wrap ((x:Int) * 4294967296))=((PBits.sw 32 4294967295 x:Nat):Int):=by
 have h1:x / 4294967296<18446744073709551616:=by omega
 have h2:(x &&& 4294967295)=x % 4294967296:=Nat.and_two_pow_sub_one_eq_mod x 32
 have h3:(x / 4294967296 &&& 4294967295)=x / 4294967296:=by
  rw [show(4294967295:Nat)=2 ^ 32 - 1 by decide,Nat.and_two_pow_sub_one_eq_mod]; omega
 have h4:IntKind.u64.wrap ((x:Int) * 4294967296)=((x % 4294967296 * 4294967296:Nat):Int):=by rw [IntKind.wrap_u64]; omega
 have h5:(x:Int) / 4294967296=((x / 4294967296:Nat):Int):=by omega
 rw [h4,h5,u64_or_nat _ _ h1 (by omega)]
 unfold PBits.sw
 rw [h2,show(2:Nat) ^ 32=4294967296 by decide,h3]

theorem revBytes_any (x:Nat) (w:World) (hx:x<18446744073709551616) :
  Calls Tryz.prog 197 #[.int .u64 (x:Int)] w fun e w'=>e=.returned (.int .u64 (PBits.sw 32 4294967295 (PBits.sw 16 281470681808895 (PBits.sw 8 71777214294589695 x)):Nat))/\w=w':=by
 have l8:=PBits.sw_lt 8 71777214294589695 x (by decide) (by decide)
 have e8:=sw_words 8 71777214294589695 x hx (by decide) (by decide) 256 (by decide)
 have l16:=PBits.sw_lt 16 281470681808895 (PBits.sw 8 71777214294589695 x) (by decide) (by decide)
 have e16:=sw_words 16 281470681808895 _ l8 (by decide) (by decide) 65536 (by decide)
 have e32:=sw_words32 _ l16
 simp only [Int.cast_ofNat_Int] at e8 e16
 go_enter Tryz.func197,Tryz.ntmps197
 go_wp2
 go_ret
 exact⟨rfl,rfl⟩
theorem rev64_any (x:Nat) (w:World) (hx:x<18446744073709551616) :
  Calls Tryz.prog 193 #[.int .u64 (x:Int)] w fun e w'=>e=.returned (.int .u64 (PBits.rev64 x:Nat))/\w=w':=by
 have l1:=PBits.sw_lt 1 6148914691236517205 x (by decide) (by decide)
 have e1:=sw_words 1 6148914691236517205 x hx (by decide) (by decide) 2 (by decide)
 have l2:=PBits.sw_lt 2 3689348814741910323 (PBits.sw 1 6148914691236517205 x) (by decide) (by decide)
 have e2:=sw_words 2 3689348814741910323 _ l1 (by decide) (by decide) 4 (by decide)
 have l4:=PBits.sw_lt 4 1085102592571150095 (PBits.sw 2 3689348814741910323 (PBits.sw 1 6148914691236517205 x)) (by decide) (by decide)
 have e4:=sw_words 4 1085102592571150095 _ l2 (by decide) (by decide) 16 (by decide)
 simp only [Int.cast_ofNat_Int] at e1 e2 e4
 go_enter Tryz.func193,Tryz.ntmps193
 go_wp2_with fail
 refine(revBytes_any _ _ l4).mono ?_
 rintro e w2 ⟨rfl,rfl⟩
 go_wp2
 go_ret
 exact⟨rfl,rfl⟩
theorem reverse_any (x K:Nat) (m:Int) (w:World) (hx:x<18446744073709551616) (hK:(K:Int)=min (max m 0) 64) :
  Calls Tryz.prog 187 #[.int .u64 (x:Int),.int .i64 m] w fun e w'=>e=.returned (.int .u64 (PBits.rev x K:Nat))/\w=w':=by
 have hk64:K<=64:=by omega
 have f1:∀W:World,(Builtin.max_ #[3,3] 3 #[.int .i64 m,.int .i64 0]).run Tryz.prog W=.ok (.int .i64 (max m 0)) W:=fun W=>by
  simp [Builtin.max_,Builtin.max2]
  split <;> omega
 have f2:∀W:World,(Builtin.min_ #[3,3] 3 #[.int .i64 (max m 0),.int .i64 64]).run Tryz.prog W=.ok (.int .i64 (K:Int)) W:=fun W=>by
  simp [Builtin.min_,Builtin.min2]
  split <;> omega
 clear hK
 have hr:=PBits.rev64_lt x
 go_enter Tryz.func187,Tryz.ntmps187
 by_cases h0:K=0
 ·subst h0
  go_wp2
  go_ret
  exact⟨rfl,rfl⟩
 ·have hq:=PBits.rev64_rev x K hk64
  go_wp2_with fail
  refine(rev64_any _ _ hx).mono ?_
  rintro e w2 ⟨rfl,rfl⟩
  go_wp2
  go_ret
  refine⟨?_,rfl⟩
  rw [<- hq]
  simp [Int.natCast_ediv]
def WrB (g:Nat) (v:Value) (wait many:Nat):Pr:=Bk g 178 [v,.int .u64 (wait:Int),.int .i64 (many:Int),.bool true]
def Wr (g V N:Nat):Pr:=Ex fun v:Value=>Star (WrB g v (V / 256 ^ (N / 8)) (N % 8)) (Row 5 1 v (N / 8) (cells8 (PBits.bytesOf V (N / 8))))
theorem wnone_any (g:Nat) (w:World) (c3:w.cell? ⟨g,3,none⟩=some (.bool true)) :
  Calls Tryz.prog 115 #[.pointer (some ⟨g,0,none⟩)] w fun e w'=>e=.returned (.bool false)/\w=w':=by
 go_enter Tryz.func115,Tryz.ntmps115
 go_wp2
 go_ret
 exact⟨rfl,rfl⟩
theorem wasks_ok (g:Nat) (m:Int) (w:World) (c3:w.cell? ⟨g,3,none⟩=some (.bool true)) (h0:0<=m) (h1:m<=57) :
  Calls Tryz.prog 170 #[.func (.func 115) #[.pointer (some ⟨g,0,none⟩)] #[],.int .i64 m,.bool true] w fun e w'=>e=.returned (.int .i64 0)/\w=w':=by
 go_enter Tryz.func170,Tryz.ntmps170
 go_wp2_with fail
 refine(wnone_any g _ c3).mono ?_
 rintro e w2 ⟨rfl,rfl⟩
 have k1:¬ (57:Int)<m:=by omega
 have k2:¬ m<0:=by omega
 go_wp2
 go_ret
 exact⟨rfl,rfl⟩
theorem two64 (a:Nat) (h:a<=64):2 ^ a<=18446744073709551616:=by
 have:=Nat.pow_le_pow_right (n:=2) (by decide) h
 exact this
theorem wait_lt (V N:Nat) (h:V<2 ^ N):V / 256 ^ (N / 8)<2 ^ (N % 8):=by
 have h1:(256:Nat) ^ (N / 8)=2 ^ (8 * (N / 8)):=by rw [show(256:Nat)=2 ^ 8 by decide,<- Nat.pow_mul]
 rw [h1]
 apply Nat.div_lt_of_lt_mul
 rw [<- Nat.pow_add]
 rwa [show 8 * (N / 8)+N % 8=N by omega]
set_option maxRecDepth 100000 in
set_option maxHeartbeats 2000000 in
theorem put_ok (g V N n k:Nat) {w0 w:World} {L:List Pr} (H:Sp w0 (Wr g V N::L) w) (hV:V<2 ^ N) (hk:k<=57) (hn:n<2 ^ k) (hN:N<=1000000000) :
  Calls Tryz.prog 144 #[.pointer (some ⟨g,0,none⟩),.int .u64 (n:Int),.int .i64 (k:Int)] w fun e w'=>e=.returned (.int .i64 0)/\Sp w0 (Wr g (V+n * 2 ^ N) (N+k)::L) w':=by
 obtain⟨v,H⟩:=H.unex
 replace H:=H.unstar
 have d1:((n:Int) / 2 ^ k == 0)=true:=by
  rw [beq_iff_eq]
  have:n / 2 ^ k=0:=Nat.div_eq_of_lt hn
  exact_mod_cast this
 have c3:w.cell? ⟨g,3,none⟩=some (.bool true):=H.cell 0 rfl 3
 go_enter Tryz.func144,Tryz.ntmps144
 go_wp2_with fail
 refine(wasks_ok g k _ c3 (by omega) (by omega)).mono ?_
 rintro e w2 ⟨rfl,rfl⟩
 clear d1 c3
 obtain⟨m,hm⟩:∃m,m=N % 8:=⟨_,rfl⟩
 obtain⟨wt,hwt⟩:∃wt,wt=V / 256 ^ (N / 8):=⟨_,rfl⟩
 rw [<- hm,<- hwt] at H
 have hm8:m<8:=by omega
 have hwm:wt<2 ^ m:=by rw [hwt,hm]; exact wait_lt V N hV
 have hw64:wt<18446744073709551616:=Nat.lt_of_lt_of_le hwm (two64 _ (by omega))
 have hx:n * 2 ^ m<18446744073709551616:=by
  have h1:n * 2 ^ m<2 ^ k * 2 ^ m:=Nat.mul_lt_mul_of_pos_right hn (Nat.two_pow_pos m)
  rw [<- Nat.pow_add] at h1
  exact Nat.lt_of_lt_of_le h1 (two64 _ (by omega))
 have s1:IntKind.u64.wrap ((n:Int) * 2 ^ m)=((n * 2 ^ m:Nat):Int):=by
  rw [show((n:Int) * 2 ^ m)=((n * 2 ^ m:Nat):Int) by simp,IntKind.wrap_u64]
  generalize n * 2 ^ m=q at hx
  omega
 have s2:bits .or .u64 (wt:Int) ((n * 2 ^ m:Nat):Int)=((wt+n * 2 ^ m:Nat):Int):=by
  rw [u64_or_nat _ _ hw64 hx,Nat.mul_comm n,Nat.add_comm,Nat.two_pow_add_eq_or_of_lt hwm,Nat.or_comm]
 obtain⟨sh,hsh⟩:∃sh,sh=n * 2 ^ m:=⟨_,rfl⟩
 rw [<- hsh] at s1 s2
 obtain⟨w1,hw1⟩:∃w1,w1=wt+sh:=⟨_,rfl⟩
 rw [<- hw1] at s2
 have e1:w1=(V+n * 2 ^ N) / 256 ^ (N / 8):=by rw [PBits.put_wait,hw1,hsh,hwt,hm]
 have e2:m+k=N+k - 8 * (N / 8):=by rw [hm]; omega
 have E1:=Lib.hid e1
 have E2:=Lib.hid e2
 clear hsh hw1 hx hm hwt e1 e2
 have c1:w.cell? ⟨g,1,none⟩=some (.int .u64 (wt:Int)):=H.cell 0 rfl 1
 have c2:w.cell? ⟨g,2,none⟩=some (.int .i64 (m:Int)):=H.cell 0 rfl 2
 have z1:w.frozen? ⟨g,1,none⟩=false:=H.frozen 0 rfl 1
 have z2:w.frozen? ⟨g,2,none⟩=false:=H.frozen 0 rfl 2
 go_wp2
 go_still_tail 13,(by kernel_rfl)
 change wpList _ _ _ _ _ w.drew
 go_wp2
 go_loopw [] (fun wr=>∃(q mm:Nat) (v:Value),N / 8<=q/\mm+8 * q=N+k/\Sp w0 (WrB g v ((V+n * 2 ^ N) / 256 ^ q) mm::Row 5 1 v q (cells8 (PBits.bytesOf (V+n * 2 ^ N) q))::L) wr) (fun wr=>match wr.cell? ⟨g,2,none⟩ with | some i=>(intOf i).toNat | none=>0)
 case atStart =>
  refine⟨N / 8,m+k,v,Nat.le_refl _,by rw [E2.out]; omega,?_⟩
  rw [PBits.put_bytes,<- E1.out]
  exact(H.drew.set 1 (.int .u64 (w1:Int))).set 2 (.int .i64 ((m:Int)+k))
 case round =>
  obtain⟨q,mm,v',hq1,hq2,H⟩:=hrel
  clear z1 z2 c1 c2 s1 s2
  have r2:wr.cell? ⟨g,2,none⟩=some (.int .i64 (mm:Int)):=H.cell 0 rfl 2
  by_cases h8:8<=mm
  ·have h8' : (8:Int)<=mm:=by omega
   go_wp2
   obtain⟨ww,hww⟩:∃ww,ww=(V+n * 2 ^ N) / 256 ^ q:=⟨_,rfl⟩
   obtain⟨bs,hbs⟩:∃bs,bs=cells8 (PBits.bytesOf (V+n * 2 ^ N) q):=⟨_,rfl⟩
   rw [<- hww,<- hbs] at H
   have H0:=H
   have HW:=Lib.hid hww
   have HB:=Lib.hid hbs
   clear hww hbs
   refine wp_region_sc (L:=L) [some (.pointer (some ⟨g,0,none⟩)),some (.pointer (some ⟨g,0,none⟩)),some (.pointer (some ⟨g,0,none⟩)),some (.pointer (some ⟨g,0,none⟩)),some (v'),some (.pointer (some ⟨g,0,none⟩)),some (.pointer (some ⟨g,0,none⟩)),some (.pointer (some ⟨g,1,none⟩)),some (.int .u64 (ww:Int)),some (.int .u8 ((ww:Int) % 256)),none,none,some (.pointer (some ⟨g,0,none⟩)),some (.pointer (some ⟨g,0,none⟩)),some (undef)] (fun ix vx=>match ix with | 10=>(fun v=>v=.slice (some ⟨v.ownBlock.getD 0,0,none⟩) 1 1) vx | 11=>(fun _=>True) vx | _=>True) (fun ix vx=>match ix with | 10=>(fun v=>[Bk (v.ownBlock.getD 0) 5 [.int .u8 ((ww:Int) % 256)]]) vx | 11=>(fun v=>[Row 5 1 v (q+1) (bs++[.int .u8 ((ww:Int) % 256)])]) vx | 14=>(fun _=>[Ex fun u=>Star (WrB g u ww mm) (Row 5 1 u (q+1) (bs++[.int .u8 ((ww:Int) % 256)]))]) vx | _=>[]) (fun ix=>match ix with | 11=>[Row 5 1 v' q bs] | 14=>[WrB g v' ww mm] | _=>[]) 15 77
    [some 49,some 50,some 51,some 52,some 53,some 54,some 55,some 56,some 57,some 58,some 59,some 60,some 61,some 62,none]
    [[],[],[1],[2],[3],[],[5],[6],[7],[8],[9],[4,10],[0,0,1,2,3,4,5,6,7,8,9,10,11],[12,0,1,2,3,4,5,6,7,8,9,10,11],[13,11,11,0,1,2,3,4,5,6,7,8,9,10,11]]
    [[],[],[1],[1,2],[1,2,3],[],[5],[5,6],[5,6,7],[5,6,7,8],[5,6,7,8,9],[1,2,3,4,5,6,7,8,9,10],[0,1,2,3,4,5,6,7,8,9,10,11],[0,1,2,3,4,5,6,7,8,9,10,11,12],[0,1,2,3,4,5,6,7,8,9,10,11,12,13]]
    [[],[],[],[],[],[],[],[],[],[],[],[10],[],[],[11]] [[],[],[],[],[14],[],[],[],[14],[],[],[],[],[],[]] [(0,.pointer (some ⟨g,0,none⟩))]
    (by kernel_rfl) rfl (by decide) (by rfl) (by decide +kernel) rfl rfl (by simp) ((H.pick 2 [1,0])) ?hstep ?hend
   case hstep =>
    refine⟨?p0,⟨?p1,⟨?p2,⟨?p3,⟨?p4,⟨?p5,⟨?p6,⟨?p7,⟨?p8,⟨?p9,⟨?p10,⟨?p11,⟨?p12,⟨?p13,⟨?p14,trivial⟩⟩⟩⟩⟩⟩⟩⟩⟩⟩⟩⟩⟩⟩⟩
    case p0 | p1 | p2 | p3 | p5 | p6 | p7 | p9 | p12 | p13 =>
     intro x wx A rest hDf hF hS hE H K hK
     replace hK:=Lib.hid hK
     clear hS hE hDf
     repeat (obtain⟨_,hF⟩:=hF)
     change Oper.wp _ _ A wx K _
     go_step
     exact hK.out _ _ rfl H
    case p4 =>
     intro x wx A rest hDf hF hS hE H K hK0
     replace hDf:=Lib.hid hDf
     have e52:A.tmps[52]?.getD undef=.pointer (some ⟨g,0,none⟩):=((hS 3 (by decide)).2 52 rfl).trans (hS 3 (by decide)).1
     replace H:Sp w0 ((WrB g v' ww mm)::rest) wx:=H
     have hK:Hid (∀(v:Value) (w' : World),v=v'->Sp w0 ((WrB g v' ww mm)::rest) w'->K (A.put (some 53) v) w'):=Lib.hid hK0
     clear hK0 hF hS hE
     have c:wx.cell? ⟨g,0,none⟩=some v':=H.cell 0 rfl 0
     change Oper.wp _ _ A wx K _
     go_step
     exact hK.out _ _ rfl (H)
    case p8 =>
     intro x wx A rest hDf hF hS hE H K hK0
     replace hDf:=Lib.hid hDf
     have e56:A.tmps[56]?.getD undef=.pointer (some ⟨g,1,none⟩):=((hS 7 (by decide)).2 56 rfl).trans (hS 7 (by decide)).1
     replace H:Sp w0 ((WrB g v' ww mm)::rest) wx:=H
     have hK:Hid (∀(v:Value) (w' : World),v=.int .u64 (ww:Int)->Sp w0 ((WrB g v' ww mm)::rest) w'->K (A.put (some 57) v) w'):=Lib.hid hK0
     clear hK0 hF hS hE
     have c:wx.cell? ⟨g,1,none⟩=some (.int .u64 (ww:Int)):=H.cell 0 rfl 1
     change Oper.wp _ _ A wx K _
     go_step
     exact hK.out _ _ rfl (H)
    case p10 =>
     intro x wx A rest hDf hF hS hE H K hK0
     replace hDf:=Lib.hid hDf
     have e58:A.tmps[58]?.getD undef=.int .u8 ((ww:Int) % 256):=((hS 9 (by decide)).2 58 rfl).trans (hS 9 (by decide)).1
     replace H:Sp w0 (rest) wx:=H
     have hK:Hid (∀(v:Value) (w' : World),v=.slice (some ⟨v.ownBlock.getD 0,0,none⟩) 1 1->Sp w0 ((Bk (v.ownBlock.getD 0) 5 [.int .u8 ((ww:Int) % 256)])::rest) w'->K (A.put (some 59) v) w'):=Lib.hid hK0
     clear hK0 hF hS hE
     change Oper.wp _ _ A wx K _
     go_step
     exact hK.out _ _ rfl (H.newBk _ _)
    case p11 =>
     intro x wx A rest hDf hF hS hE H K hK0
     replace hDf:=Lib.hid hDf
     have e53:A.tmps[53]?.getD undef=v':=((hS 4 (by decide)).2 53 rfl).trans (hS 4 (by decide)).1
     have q59:(x 10)=.slice (some ⟨(x 10).ownBlock.getD 0,0,none⟩) 1 1:=(hS 10 (by decide)).1
     have e59:A.tmps[59]?.getD undef=x 10:=(hS 10 (by decide)).2 59 rfl
     replace H:Sp w0 ((Row 5 1 v' q bs)::(Bk ((x 10).ownBlock.getD 0) 5 [.int .u8 ((ww:Int) % 256)])::rest) wx:=H
     have hK:Hid (∀(v:Value) (w' : World),True->Sp w0 ((Row 5 1 v (q+1) (bs++[.int .u8 ((ww:Int) % 256)]))::rest) w'->K (A.put (some 60) v) w'):=Lib.hid hK0
     clear hK0 hF hS hE
     obtain⟨g9,e9⟩:∃g9,(x 10).ownBlock.getD 0=g9:=⟨_,rfl⟩
     rw [q59] at e59
     rw [e9] at e59 H
     change Oper.wp _ _ A wx K _
     obtain⟨i0,hi,hz0,hz1,hz2⟩:=info_parts info8
     refine wp_append_sp _ _ 23 rfl 5 i0 (.int .u8 0) 1 1 Tryz.underlying23 hi hz0 hz1 hz2 rfl (by decide) v' q bs (ev e53) H (some ⟨g9,0,none⟩) 1 1 [.int .u8 ((ww:Int) % 256)] (ev e59) rfl (Rd.of_blk (H.blk 1 rfl)) (by intro u hu; rw [List.mem_singleton.1 hu]; rfl) (by simp only [maxLen]; omega) (by omega) ?_
     intro v1 w2 H2 _
     exact hK.out _ _ trivial H2.swap.tail
    case p14 =>
     intro x wx A rest hDf hF hS hE H K hK0
     replace hDf:=Lib.hid hDf
     have e62:A.tmps[62]?.getD undef=.pointer (some ⟨g,0,none⟩):=((hS 13 (by decide)).2 62 rfl).trans (hS 13 (by decide)).1
     have q60:True:=(hS 11 (by decide)).1
     have e60:A.tmps[60]?.getD undef=x 11:=(hS 11 (by decide)).2 60 rfl
     replace H:Sp w0 ((WrB g v' ww mm)::(Row 5 1 (x 11) (q+1) (bs++[.int .u8 ((ww:Int) % 256)]))::rest) wx:=H
     have hK:Hid (∀(v:Value) (w' : World),v=undef->Sp w0 ((Ex fun u=>Star (WrB g u ww mm) (Row 5 1 u (q+1) (bs++[.int .u8 ((ww:Int) % 256)])))::rest) w'->K (A.put none v) w'):=Lib.hid hK0
     clear hK0 hF hS hE
     have c:wx.cell? ⟨g,0,none⟩=some v':=H.cell 0 rfl 0
     have z:wx.frozen? ⟨g,0,none⟩=false:=H.frozen 0 rfl 0
     obtain⟨A1,c1,ea,_,_⟩:=Row.form H 1 rfl
     change Oper.wp _ _ A wx K _
     rw [ea] at e60 H
     go_step
     exact hK.out _ _ rfl (Sp.ex (.slice A1 (q+1) c1) (Sp.star (H.set 0 (.slice A1 (q+1) c1))))
   case hend =>
    intro x wx A hA hS H
    replace H:Sp w0 ((Ex fun u=>Star (WrB g u ww mm) (Row 5 1 u (q+1) (bs++[.int .u8 ((ww:Int) % 256)])))::L) wx:=H
    clear hS
    simp only [putAll,Act.put,List.setIfInBounds_toArray,List.set_cons_succ,List.set_cons_zero,Nat.reduceAdd] at hA
    subst hA
    obtain⟨u,H⟩:=H.unex
    replace H:=H.unstar
    have d1:wx.cell? ⟨g,1,none⟩=some (.int .u64 (ww:Int)):=H.cell 0 rfl 1
    have d2:wx.cell? ⟨g,2,none⟩=some (.int .i64 (mm:Int)):=H.cell 0 rfl 2
    have z1:wx.frozen? ⟨g,1,none⟩=false:=H.frozen 0 rfl 1
    have z2:wx.frozen? ⟨g,2,none⟩=false:=H.frozen 0 rfl 2
    clear r2
    have hm8'' : mm<=1000000100:=by omega
    go_wp2
    go_roundw
    case rel =>
     refine⟨q+1,mm - 8,u,by omega,by omega,?_⟩
     rw [PBits.byte_next,<- PBits.div_next,<- HW.out]
     have e8:cells8 (PBits.bytesOf (V+n * 2 ^ N) q++[UInt8.ofNat (ww % 256)])=bs++[.int .u8 ((ww:Int) % 256)]:=by
      rw [HB.out]; simp [cells8]
     rw [e8]
     have H2:=(H.set 1 (.int .u64 ((ww:Int) / 256))).set 2 (.int .i64 ((mm:Int) - 8))
     have ea:((ww / 256:Nat):Int)=(ww:Int) / 256:=by omega
     have eb:((mm - 8:Nat):Int)=(mm:Int) - 8:=by omega
     unfold WrB
     rw [ea,eb]
     exact H2
    case measure =>
     have m1:wr.cell? ⟨g,2,none⟩=some (.int .i64 (mm:Int)):=H0.cell 0 rfl 2
     have m2:=((H.set 1 (.int .u64 ((ww:Int) / 256))).set 2 (.int .i64 ((mm:Int) - 8))).cell 0 rfl 2
     simp only [m1,m2]
     simp [intOf]
     omega
  ·have h8' : ¬ (8:Int)<=mm:=by omega
   go_wp2
   go_ret
   obtain rfl:q=(N+k) / 8:=by omega
   obtain rfl:mm=(N+k) % 8:=by omega
   exact⟨rfl,H.star.ex v'⟩
theorem wr_made {w0 w:World} {L:List Pr} {g V N:Nat} (H:Sp w0 (Wr g V N::L) w):w.cell? ⟨g,3,none⟩=some (.bool true):=by
 obtain⟨v,H⟩:=H.unex
 exact H.unstar.cell 0 rfl 3
theorem code_ok (g V N n k:Nat) {w0 w:World} {L:List Pr} (H:Sp w0 (Wr g V N::L) w) (hV:V<2 ^ N) (hk:k<=57) (hn:n<2 ^ k) (hN:N<=1000000000) :
  Calls Tryz.prog 172 #[.pointer (some ⟨g,0,none⟩),.int .u64 (n:Int),.int .i64 (k:Int)] w fun e w'=>e=.returned (.int .i64 0)/\Sp w0 (Wr g (V+PBits.rev n k * 2 ^ N) (N+k)::L) w':=by
 have d1:((n:Int) / 2 ^ k == 0)=true:=by
  rw [beq_iff_eq]
  have:n / 2 ^ k=0:=Nat.div_eq_of_lt hn
  exact_mod_cast this
 have c3:=wr_made H
 go_enter Tryz.func172,Tryz.ntmps172
 go_wp2_with fail
 refine(wasks_ok g k _ c3 (by omega) (by omega)).mono ?_
 rintro e w2 ⟨rfl,rfl⟩
 clear d1 c3
 go_wp2_with fail
 refine(reverse_any n k (k:Int) _ (Nat.lt_of_lt_of_le hn (two64 _ (by omega))) (by omega)).mono ?_
 rintro e w2 ⟨rfl,rfl⟩
 go_wp2_with fail
 refine(put_ok g V N (PBits.rev n k) k H hV hk (PBits.rev_lt n k) hN).mono ?_
 rintro e w2 ⟨rfl,H⟩
 go_wp2
 go_ret
 exact⟨rfl,H⟩
theorem newWriter_ok {w0 w:World} {L:List Pr} (H:Sp w0 L w) :
  Calls Tryz.prog 79 #[] w (Ret fun v w'=>∃g,v=.pointer (some ⟨g,0,none⟩)/\Sp w0 (Wr g 0 0::L) w'):=by
 go_enter Tryz.func79,Tryz.ntmps79
 go_wp2
 go_ret
 exact⟨_,rfl,_,rfl,Sp.ex (.slice none 0 0) (Sp.star (((H.rowNil 5 1).newBk _ _)))⟩
theorem i64_and7 (x:Int):bits .and .i64 x 7=x % 8:=by
 have e2:(BitVec.ofInt 64 (7:Int)).toNat=7:=rfl
 show IntKind.i64.wrap ((BitVec.ofInt 64 x &&& BitVec.ofInt 64 (7:Int)).toNat:Int)=_
 rw [BitVec.toNat_and,BitVec.toNat_ofInt,e2,nat_mask3,IntKind.wrap_i64]
 omega
theorem align_ok (g V N:Nat) {w0 w:World} {L:List Pr} (H:Sp w0 (Wr g V N::L) w) (hV:V<2 ^ N) (hN:N<=1000000000) :
  Calls Tryz.prog 143 #[.pointer (some ⟨g,0,none⟩)] w fun e w'=>e=.returned (.int .i64 0)/\Sp w0 (Wr g V ((N+7) / 8 * 8)::L) w':=by
 have c3:=wr_made H
 obtain⟨m,hm⟩:∃m,m=N % 8:=⟨_,rfl⟩
 have c2:w.cell? ⟨g,2,none⟩=some (.int .i64 (m:Int)):=by
  obtain⟨v,H⟩:=H.unex
  rw [hm]
  exact H.unstar.cell 0 rfl 2
 have hm8:m<8:=by omega
 have HM:=Lib.hid hm
 clear hm
 have ha:bits .and .i64 (-(m:Int)) 7=(((8 - m) % 8:Nat):Int):=by rw [i64_and7]; omega
 go_enter Tryz.func143,Tryz.ntmps143
 go_wp2_with fail
 refine(wnone_any g _ c3).mono ?_
 rintro e w2 ⟨rfl,rfl⟩
 go_wp2_with fail
 refine(put_ok g V N 0 ((8 - m) % 8) H hV (by omega) (Nat.two_pow_pos _) hN).mono ?_
 rintro e w2 ⟨rfl,H⟩
 clear ha
 go_wp2
 go_ret
 refine⟨rfl,?_⟩
 have e1:N+(8 - m) % 8=(N+7) / 8 * 8:=by rw [HM.out]; omega
 rwa [Nat.zero_mul,Nat.add_zero,e1] at H
theorem bytes_ok (g V N:Nat) {v:Value} {l:List UInt8} {w0 w:World} {L:List Pr} (H:Sp w0 (Wr g V N::L) w) (hb:Byt w v l) (hN8:N % 8=0) (hV:V<2 ^ N) (hN:N<=1000000000) (hl:l.length<=1000000000) :
  Calls Tryz.prog 145 #[.pointer (some ⟨g,0,none⟩),v] w fun e w'=>e=.returned (.int .i64 0)/\Sp w0 (Wr g (V+PBits.le l * 2 ^ N) (N+8 * l.length)::L) w':=by
 have c3:=wr_made H
 have HN:=Lib.hid hN8
 obtain⟨u,H⟩:=H.unex
 replace H:=H.unstar
 rw [hN8] at H
 clear hN8
 have c2:w.cell? ⟨g,2,none⟩=some (.int .i64 0):=H.cell 0 rfl 2
 have c0:w.cell? ⟨g,0,none⟩=some u:=H.cell 0 rfl 0
 have z0:w.frozen? ⟨g,0,none⟩=false:=H.frozen 0 rfl 0
 obtain⟨A,c,rfl,hr,h1,h2⟩:=hb
 obtain⟨i0,hi,hz0,hz1,hz2⟩:=info_parts info8
 go_enter Tryz.func145,Tryz.ntmps145
 go_wp2_with fail
 refine(wasks_ok g 0 _ c3 (by omega) (by omega)).mono ?_
 rintro e w2 ⟨rfl,rfl⟩
 go_wp2_with (at_builtin; refine wpList_append_sp rfl _ _ 23 rfl 5 i0 (.int .u8 0) 1 1 Tryz.underlying23 hi hz0 hz1 hz2 rfl (by decide) u (N / 8) (cells8 (PBits.bytesOf V (N / 8))) rfl H.swap A l.length c (cells8 l) rfl (by simp [cells8]) hr (cells8_one l) (by unfold maxLen; omega) (by omega) ?_)
 intro v' w' H2 _
 clear c0 z0 c2 c3
 have c0:w'.cell? ⟨g,0,none⟩=some u:=H2.cell 1 rfl 0
 have z0:w'.frozen? ⟨g,0,none⟩=false:=H2.frozen 1 rfl 0
 obtain⟨A1,c1,rfl,_,_⟩:=Row.form H2 0 rfl
 go_wp2
 go_ret
 refine⟨rfl,Sp.ex (.slice A1 (N / 8+l.length) c1) (Sp.star ?_)⟩
 have H3:=H2.swap.set 0 (.slice A1 (N / 8+l.length) c1)
 have e1:=HN.out
 have e2:(N+8 * l.length) / 8=N / 8+l.length:=by omega
 have e3:(N+8 * l.length) % 8=0:=by omega
 have hVl:V<256 ^ (N / 8):=by
  have:=PBits.pow_parts N
  rw [e1] at this
  simpa [this] using hV
 have e4:(V+PBits.le l * 2 ^ N) / 256 ^ (N / 8+l.length)=0:=by
  have h5:=PBits.le_lt l
  rw [PBits.pow_parts N,e1,Nat.pow_zero,Nat.one_mul,Nat.pow_add,<- Nat.div_div_eq_div_mul,Nat.add_mul_div_right _ _ (Nat.pow_pos (by decide)),Nat.div_eq_of_lt hVl,Nat.zero_add,Nat.div_eq_of_lt h5]
 have e5:PBits.bytesOf (V+PBits.le l * 2 ^ N) (N / 8+l.length)=PBits.bytesOf V (N / 8)++l:=by
  rw [PBits.bytesOf_add,PBits.put_bytes,PBits.pow_parts N,e1,Nat.pow_zero,Nat.one_mul,Nat.add_mul_div_right _ _ (Nat.pow_pos (by decide)),Nat.div_eq_of_lt hVl,Nat.zero_add,PBits.bytesOf_le]
 have e6:V / 256 ^ (N / 8)=0:=Nat.div_eq_of_lt hVl
 rw [e2,e3,e4,e5]
 rw [e6] at H3
 have e7:cells8 (PBits.bytesOf V (N / 8)++l)=cells8 (PBits.bytesOf V (N / 8))++cells8 l:=by simp [cells8]
 rw [e7]
 exact H3
theorem len_ok (g V N:Nat) {w0 w:World} {L:List Pr} (H:Sp w0 (Wr g V N::L) w) (hN:N<=2000000000) :
  Calls Tryz.prog 114 #[.pointer (some ⟨g,0,none⟩)] w fun e w'=>e=.returned (.int .i64 (N:Int))/\Keep w w':=by
 have c3:=wr_made H
 obtain⟨v,H⟩:=H.unex
 replace H:=H.unstar
 obtain⟨q,hq⟩:∃q,q=N / 8:=⟨_,rfl⟩
 obtain⟨m,hm⟩:∃m,m=N % 8:=⟨_,rfl⟩
 rw [<- hq,<- hm] at H
 have hN' : N=8 * q+m:=by omega
 clear hq hm
 have HN:=Lib.hid hN'
 obtain⟨A,c,rfl,h1,h2⟩:=Row.form H 1 rfl
 have c0:w.cell? ⟨g,0,none⟩=some (.slice A q c):=H.cell 0 rfl 0
 have c2:w.cell? ⟨g,2,none⟩=some (.int .i64 (m:Int)):=H.cell 0 rfl 2
 have hb:q<=250000000:=by omega
 have hb2:m<=2000000000:=by omega
 clear hN hN'
 go_enter Tryz.func114,Tryz.ntmps114
 go_wp2_with fail
 refine(wnone_any g _ c3).mono ?_
 rintro e w2 ⟨rfl,rfl⟩
 go_wp2
 go_quiet (fail)
 go_wp2
 go_ret
 exact⟨ret_i64 (by rw [HN.out]; omega),Keep.drewN _ _⟩
theorem done_ok (g V N:Nat) {w0 w:World} {L:List Pr} (H:Sp w0 (Wr g V N::L) w) (hN:N<=1000000000) :
  Calls Tryz.prog 81 #[.pointer (some ⟨g,0,none⟩)] w (Ret fun v w'=>Sp w0 (Row 5 1 v ((N+7) / 8) (cells8 (PBits.bytesOf V ((N+7) / 8)))::Wr g V N::L) w'):=by
 have c3:=wr_made H
 obtain⟨v,H⟩:=H.unex
 replace H:=H.unstar
 obtain⟨q,hq⟩:∃q,N / 8=q:=⟨_,rfl⟩
 obtain⟨m,hm⟩:∃m,N % 8=m:=⟨_,rfl⟩
 obtain⟨wt,hwt⟩:∃wt,V / 256 ^ q=wt:=⟨_,rfl⟩
 obtain⟨bs,hbs⟩:∃bs,PBits.bytesOf V q=bs:=⟨_,rfl⟩
 have hbl:bs.length=q:=by rw [<- hbs]; exact PBits.bytesOf_length _ _
 have hF:∀L' w',Sp w0 (WrB g v wt m::Row 5 1 v q (cells8 bs)::L') w'->Sp w0 (Wr g V N::L') w':=fun L' w' H'=>Sp.ex v (Sp.star (by rw [hq,hm,hwt,hbs]; exact H'))
 rw [hq,hm,hwt,hbs] at H
 have hq2:q<=130000000:=by omega
 have hm8:m<8:=by omega
 have hcase:(N+7) / 8=if 0<m then q+1 else q:=by split <;> omega
 have hlast:PBits.bytesOf V (q+1)=bs++[UInt8.ofNat (wt % 256)]:=by rw [PBits.byte_next,hbs,hwt]
 have hrow:Byt w v bs:=H.row_byt 1 (e:=5) (by rw [hbl]; rfl)
 have HA:=Lib.hid hF
 have HB:=Lib.hid hcase
 have HC:=Lib.hid hlast
 have HD:=Lib.hid hbl
 have HE:=Lib.hid hbs
 clear hF hcase hlast hbl hq hm hwt hbs hN
 obtain⟨A,c,ev,_,_⟩:=Row.form H 1 rfl
 subst ev
 have c0:w.cell? ⟨g,0,none⟩=some (.slice A q c):=H.cell 0 rfl 0
 go_enter Tryz.func81,Tryz.ntmps81
 go_wp2_with fail
 refine(wnone_any g _ c3).mono ?_
 rintro e w2 ⟨rfl,rfl⟩
 go_wp2_with fail
 refine(clone_ok H hrow (by rw [HD.out]; omega)).mono ?_
 rintro e w2 ⟨u,rfl,H⟩
 rw [HD.out] at H
 clear c0 c3
 have c1:w2.cell? ⟨g,1,none⟩=some (.int .u64 (wt:Int)):=H.cell 1 rfl 1
 have c2:w2.cell? ⟨g,2,none⟩=some (.int .i64 (m:Int)):=H.cell 1 rfl 2
 obtain⟨i0,hi,hz0,hz1,hz2⟩:=info_parts info8
 by_cases h0:0<m
 ·have h0' : (0:Int)<m:=by omega
  go_wp2_with (at_builtin; refine wpList_append_sp rfl _ _ 23 rfl 5 i0 (.int .u8 0) 1 1 Tryz.underlying23 hi hz0 hz1 hz2 rfl (by decide) u q (cells8 bs) rfl (H.newBk [.int .u8 ((wt:Int) % 256)] _).swap (some ⟨w2.heap.size,0,none⟩) 1 1 [.int .u8 ((wt:Int) % 256)] rfl rfl (Rd.of_blk ((H.newBk [.int .u8 ((wt:Int) % 256)] _).blk 0 rfl)) (by intro u hu; rw [List.mem_singleton.1 hu]; rfl) (by unfold maxLen; omega) (by omega) ?_)
  intro v' w' H2 _
  clear c1 c2
  go_wp2
  go_ret
  refine⟨_,rfl,?_⟩
  have H3:=Sp.swap (HA.out _ _ (H2.pick 4 [2,3,0]))
  rw [HB.out,if_pos h0,HC.out]
  have e7:cells8 (bs++[UInt8.ofNat (wt % 256)])=cells8 bs++[.int .u8 ((wt:Int) % 256)]:=by simp [cells8]
  rw [e7]
  exact H3
 ·have h0' : ¬ (0:Int)<m:=by omega
  clear c1
  go_wp2
  go_ret
  refine⟨_,rfl,?_⟩
  rw [HB.out,if_neg h0,HE.out]
  exact(HA.out _ _ (H.pick 3 [1,2,0])).swap
namespace PBits
theorem le_drop (l:List UInt8) (q:Nat):le (l.drop q)=le l / 256 ^ q:=by
 by_cases h:q<=l.length
 ·conv=>rhs; rw [<- List.take_append_drop q l,le_append]
  have h1:=le_lt (l.take q)
  have h2:(l.take q).length=q:=by simp [h]
  rw [h2] at h1 ⊢
  rw [Nat.add_mul_div_left _ _ (Nat.pow_pos (by decide)),Nat.div_eq_of_lt h1,Nat.zero_add]
 ·rw [List.drop_eq_nil_of_le (by omega)]
  have h1:=le_lt l
  rw [Nat.div_eq_of_lt (Nat.lt_of_lt_of_le h1 (Nat.pow_le_pow_right (by decide) (by omega)))]
  rfl
theorem le_byte (l:List UInt8) (i:Nat):le l / 256 ^ i % 256=(l.getD i 0).toNat:=by
 rw [<- le_drop]
 by_cases h:i<l.length
 ·rw [List.drop_eq_getElem_cons h,le,List.getD_eq_getElem?_getD,List.getElem?_eq_getElem h]
  have:=l[i].toNat_lt
  simp only [Option.getD_some]
  omega
 ·rw [List.drop_eq_nil_of_le (by omega),List.getD_eq_getElem?_getD,List.getElem?_eq_none (by omega)]
  rfl
theorem mod_next (R k:Nat):R % 256 ^ (k+1)=R % 256 ^ k+256 ^ k * (R / 256 ^ k % 256):=by
 rw [Nat.pow_succ,Nat.mod_mul]
def peek (l:List UInt8) (at_ k:Nat):Nat:=le l / 2 ^ at_ % 2 ^ k
theorem peek_of (l:List UInt8) (at_ k K:Nat) (hK:k+7<=8 * K):(le l / 256 ^ (at_ / 8)) % 256 ^ K / 2 ^ (at_ % 8) % 2 ^ k=peek l at_ k:=by
 unfold peek
 have e1:(256:Nat) ^ K=2 ^ (at_ % 8) * (2 ^ k * 2 ^ (8 * K - k - at_ % 8)):=by
  rw [show(256:Nat)=2 ^ 8 by decide,<- Nat.pow_mul,<- Nat.pow_add,<- Nat.pow_add]
  congr 1; omega
 have e2:(256:Nat) ^ (at_ / 8) * 2 ^ (at_ % 8)=2 ^ at_:=by
  rw [show(256:Nat)=2 ^ 8 by decide,<- Nat.pow_mul,<- Nat.pow_add]
  congr 1; omega
 rw [e1,Nat.mod_mul_right_div_self,Nat.mod_mul_right_mod,Nat.div_div_eq_div_mul,e2]
end PBits
def RrB (g:Nat) (v:Value) (at_:Nat):Pr:=Bk g 167 [v,.int .i64 (at_:Int),.bool true]
def Rr (g:Nat) (l:List UInt8) (at_:Nat):Pr:=Ex fun v:Value=>Star (RrB g v at_) (Row 5 1 v l.length (cells8 l))
theorem rnone_any (g:Nat) (w:World) (c2:w.cell? ⟨g,2,none⟩=some (.bool true)) :
  Calls Tryz.prog 104 #[.pointer (some ⟨g,0,none⟩)] w fun e w'=>e=.returned (.bool false)/\w=w':=by
 go_enter Tryz.func104,Tryz.ntmps104
 go_wp2
 go_ret
 exact⟨rfl,rfl⟩
theorem rasks_ok (g:Nat) (m:Int) (w:World) (c2:w.cell? ⟨g,2,none⟩=some (.bool true)) (h0:0<=m) (h1:m<=57) :
  Calls Tryz.prog 170 #[.func (.func 104) #[.pointer (some ⟨g,0,none⟩)] #[],.int .i64 m,.bool true] w fun e w'=>e=.returned (.int .i64 0)/\w=w':=by
 go_enter Tryz.func170,Tryz.ntmps170
 go_wp2_with fail
 refine(rnone_any g _ c2).mono ?_
 rintro e w2 ⟨rfl,rfl⟩
 have k1:¬ (57:Int)<m:=by omega
 have k2:¬ m<0:=by omega
 go_wp2
 go_ret
 exact⟨rfl,rfl⟩
theorem newReader_ok {w0 w:World} {L:List Pr} {v:Value} {l:List UInt8} (H:Sp w0 L w) (hb:Byt w v l) (hl:l.length<=1000000000) :
  Calls Tryz.prog 99 #[v] w (Ret fun u w'=>∃g,u=.pointer (some ⟨g,0,none⟩)/\Sp w0 (Rr g l 0::L) w'):=by
 obtain⟨A,c,rfl,hr,h1,h2⟩:=id hb
 have HR:=Lib.hid hr
 clear hr
 go_enter Tryz.func99,Tryz.ntmps99
 go_wp2_with fail
 refine(clone_ok H hb hl).mono ?_
 rintro e w2 ⟨u,rfl,H⟩
 obtain⟨A1,c1,ev,_,_⟩:=Row.form H 0 rfl
 subst ev
 go_wp2
 go_ret
 exact⟨_,rfl,_,rfl,Sp.ex (.slice A1 l.length c1) (Sp.star (H.newBk _ _))⟩
theorem rr_open {w0 w:World} {L:List Pr} {g at_:Nat} {l:List UInt8} (H:Sp w0 (Rr g l at_::L) w) :
  ∃A c,Sp w0 (RrB g (.slice A l.length c) at_::Row 5 1 (.slice A l.length c) l.length (cells8 l)::L) w/\Byt w (.slice A l.length c) l /\
   w.cell? ⟨g,0,none⟩=some (.slice A l.length c)/\w.cell? ⟨g,1,none⟩=some (.int .i64 (at_:Int))/\w.cell? ⟨g,2,none⟩=some (.bool true):=by
 obtain⟨v,H⟩:=H.unex
 replace H:=H.unstar
 obtain⟨A,c,rfl,_,_⟩:=Row.form H 1 rfl
 exact⟨A,c,H,H.row_byt 1 rfl,H.cell 0 rfl 0,H.cell 0 rfl 1,H.cell 0 rfl 2⟩
theorem left_ok (g:Nat) (l:List UInt8) (at_:Nat) {w0 w:World} {L:List Pr} (H:Sp w0 (Rr g l at_::L) w) (ha:at_<=8 * l.length) (hl:l.length<=1000000000) :
  Calls Tryz.prog 160 #[.pointer (some ⟨g,0,none⟩)] w fun e w'=>e=.returned (.int .i64 ((8 * l.length - at_:Nat):Int))/\Keep w w':=by
 obtain⟨A,c,_,_,c0,c1,c2⟩:=rr_open H
 clear H
 obtain⟨n,hn⟩:∃n,l.length=n:=⟨_,rfl⟩
 rw [hn] at c0 ha hl ⊢
 clear hn
 have h8:(at_:Int)<=8 * n:=by omega
 go_enter Tryz.func160,Tryz.ntmps160
 go_wp2_with fail
 refine(rnone_any g _ c2).mono ?_
 rintro e w2 ⟨rfl,rfl⟩
 go_wp2
 go_quiet (fail)
 go_wp2
 go_ret
 exact⟨ret_i64 (by omega),Keep.drewN _ _⟩
theorem at_ok (g:Nat) (at_:Nat) {w:World} (c1:w.cell? ⟨g,1,none⟩=some (.int .i64 (at_:Int))) (c2:w.cell? ⟨g,2,none⟩=some (.bool true)) :
  Calls Tryz.prog 63 #[.pointer (some ⟨g,0,none⟩)] w fun e w'=>e=.returned (.int .i64 (at_:Int))/\w=w':=by
 go_enter Tryz.func63,Tryz.ntmps63
 go_wp2_with fail
 refine(rnone_any g _ c2).mono ?_
 rintro e w2 ⟨rfl,rfl⟩
 go_wp2
 go_ret
 exact⟨rfl,rfl⟩
theorem skip_ok (g:Nat) (l:List UInt8) (at_ k:Nat) {w0 w:World} {L:List Pr} (H:Sp w0 (Rr g l at_::L) w) (ha:at_+k<=8 * l.length) (hk:k<=57) (hl:l.length<=1000000000) :
  Calls Tryz.prog 178 #[.pointer (some ⟨g,0,none⟩),.int .i64 (k:Int)] w fun e w'=>e=.returned (.int .i64 0)/\Sp w0 (Rr g l (at_+k)::L) w':=by
 obtain⟨_,_,_,_,_,_,c2⟩:=rr_open H
 go_enter Tryz.func178,Tryz.ntmps178
 go_wp2_with fail
 refine(rasks_ok g k _ c2 (by omega) (by omega)).mono ?_
 rintro e w2 ⟨rfl,rfl⟩
 go_wp2_with fail
 refine(left_ok g l at_ H (by omega) hl).mono ?_
 rintro e w2 ⟨rfl,hK⟩
 replace H:=hK.sep H
 clear hK c2
 obtain⟨A,c,H,_,c0,c1,c2⟩:=rr_open H
 have z1:w2.frozen? ⟨g,1,none⟩=false:=H.frozen 0 rfl 1
 have h1:¬ ((8 * l.length - at_:Nat):Int)<k:=by omega
 have h2:(at_:Int)<=9000000000:=by omega
 go_wp2
 go_ret
 refine⟨rfl,Sp.ex (.slice A l.length c) (Sp.star ?_)⟩
 have:=H.set 1 (.int .i64 ((at_:Int)+k))
 unfold RrB
 rw [Int.natCast_add]
 exact this
theorem skip_short (g:Nat) (l:List UInt8) (at_ k:Nat) {w0 w:World} {L:List Pr} (H:Sp w0 (Rr g l at_::L) w) (ha:at_<=8 * l.length) (hs:8 * l.length<at_+k) (hk:k<=57) (hl:l.length<=1000000000) :
  Calls Tryz.prog 178 #[.pointer (some ⟨g,0,none⟩),.int .i64 (k:Int)] w fun e w'=>e=.returned (.int .i64 4)/\Keep w w':=by
 obtain⟨_,_,_,_,_,_,c2⟩:=rr_open H
 go_enter Tryz.func178,Tryz.ntmps178
 go_wp2_with fail
 refine(rasks_ok g k _ c2 (by omega) (by omega)).mono ?_
 rintro e w2 ⟨rfl,rfl⟩
 go_wp2_with fail
 refine(left_ok g l at_ H (by omega) hl).mono ?_
 rintro e w2 ⟨rfl,hK⟩
 have h1:((8 * l.length - at_:Nat):Int)<k:=by omega
 go_wp2
 go_ret
 exact⟨rfl,hK⟩
end Go.Proofs.YtloijdbkikccgaaGreatDoor

