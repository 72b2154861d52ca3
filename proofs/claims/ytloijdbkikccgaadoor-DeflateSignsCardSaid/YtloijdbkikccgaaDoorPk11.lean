/- A pack of texts: HuffCode HuffS HuffT HuffKnown HuffU BitsW BitsS BitsS2 BitsS3 BitsR BitsQ BitsThing BitsRow InfPlain. -/
import Derived.Deep.CutRange
import Derived.Laws.BitsAllLaws
import Derived.StillTailTactics
import Derived.Test.YtloijdbkikccgaaDoorProg
import Derived.Test.YtloijdbkikccgaaDoorPk01
import Derived.Test.YtloijdbkikccgaaDoorPk02
import Derived.Test.YtloijdbkikccgaaDoorPk09
import Derived.Test.YtloijdbkikccgaaDoorPk10
namespace Go.Proofs.YtloijdbkikccgaaDoor
set_option linter.unusedVariables false
namespace PH
theorem tal_pos (m:List Nat) (n:Nat) (h:n≠0):tal m n=m.count n:=by unfold tal; rw [if_neg h]
theorem rank_lt (m:List Nat) (i n:Nat) (hi:i<m.length) (hn:m.getD i 0=n):(m.take i).count n<m.count n:=by
 have h:=List.take_append_drop i m
 have hd:m.drop i=m[i]::m.drop (i+1):=List.drop_eq_getElem_cons hi
 have hg:m[i]=n:=by rw [<- hn,List.getD_eq_getElem?_getD,List.getElem?_eq_getElem hi]; rfl
 have e:m.count n=(m.take i).count n+(m.drop i).count n:=by
  conv=>lhs; rw [<- h]
  rw [List.count_append]
 rw [e,hd,hg,List.count_cons_self]; omega
theorem codeAt_of (m:List Nat) (i n:Nat) (hn:m.getD i 0=n) (h0:n≠0):codeAt m i=fst m n+(m.take i).count n:=by
 unfold codeAt; rw [hn,if_neg h0]
theorem codeAt_lt (m:List Nat) (i n:Nat) (hi:i<m.length) (hn:m.getD i 0=n) (h0:n≠0):fst m n<=codeAt m i/\codeAt m i<fst m n+tal m n:=by
 rw [codeAt_of m i n hn h0,tal_pos m n h0]
 have:=rank_lt m i n hi hn
 omega
theorem fst_share15 (m:List Nat) (n:Nat) (h1:1<=n) (h:n<=15):fst m n * 2 ^ (15 - n)=share m n:=by
 have:=fst_share m n h1 (by omega)
 rw [show 16 - n=(15 - n)+1 by omega,Nat.pow_succ,<- Nat.mul_assoc] at this
 omega
theorem share_next (m:List Nat) (n:Nat) (h1:1<=n) (h:n<=15):(fst m n+tal m n) * 2 ^ (15 - n)=share m (n+1):=by
 rw [Nat.add_mul,fst_share15 m n h1 h,share]
theorem share_one (m:List Nat):share m 1=0:=by simp [share,tal]
def hit (m:List Nat) (R i:Nat):Prop:=m.getD i 0≠0/\R / 2 ^ (15 - m.getD i 0)=codeAt m i
instance (m:List Nat) (R i:Nat):Decidable (hit m R i):=inferInstanceAs (Decidable (_/\_))
theorem tal_le_rows (m:List Nat) (n:Nat) (h1:1<=n) (h:n<=15):tal m n<=(rows m).length:=by
 obtain⟨p,rfl⟩:∃p,n=p+1:=⟨n - 1,by omega⟩
 have h2:=rowsB_tal m p
 have h3:=rowsB_mono m (p+1) 15 h
 unfold rows; omega
theorem sum_none (m:List Nat) (h:(rows m).length=0):sum m=0:=by
 have key:∀n,n<=16->share m n=0:=by
  intro n
  induction n with
  | zero=>intro _; rfl
  | succ n ih =>
   intro hn
   rw [share,ih (by omega)]
   rcases Nat.eq_zero_or_pos n with h0 | h0
   ·subst h0; simp [tal]
   ·have:=tal_le_rows m n h0 (by omega)
    rw [show tal m n=0 by omega]; simp
 exact key 16 (Nat.le_refl _)
theorem sum_single (m:List Nat) (h:(rows m).length=1) (h1:tal m 1=1):sum m=16384:=by
 have hz:∀n,2<=n->n<=15->tal m n=0:=by
  intro n h2 h3
  obtain⟨p,rfl⟩:∃p,n=p+1:=⟨n - 1,by omega⟩
  have q1:=rowsB_tal m 0
  have q2:=rowsB_mono m 1 p (by omega)
  have q3:=rowsB_tal m p
  have q4:=rowsB_mono m (p+1) 15 h3
  unfold rows at h
  rw [show(rowsB m 0).length=0 from rfl,show 0+1=1 from rfl] at q1
  omega
 have key:∀n,2<=n->n<=16->share m n=16384:=by
  intro n
  induction n with
  | zero=>intro h; omega
  | succ n ih =>
   intro h2 hn
   rcases Nat.lt_or_ge n 2 with q | q
   ·obtain rfl:n=1:=by omega
    rw [share,share_one,h1]
   ·rw [share,ih q (by omega),hz n q (by omega)]; simp
 exact key 16 (by omega) (by omega)
theorem share_two (m:List Nat):share m 2=tal m 1 * 16384:=by rw [share,share_one]; simp
theorem many_no_book (m:List Nat) (h:PH.state m=1):mayBook m=false:=by
 have hs:32768<sum m:=by
  unfold PH.state at h
  by_cases q:sum m<32768
  ·rw [if_pos q] at h; omega
  ·rw [if_neg q] at h
   by_cases q2:32768<sum m
   ·exact q2
   ·rw [if_neg q2] at h; omega
 cases hb:mayBook m with
 | false=>rfl
 | true =>
  exfalso
  unfold mayBook at hb
  simp only [Bool.or_eq_true,Bool.and_eq_true,decide_eq_true_eq] at hb
  rcases hb with h2 | h2 | ⟨h1,h2⟩
  ·omega
  ·rw [sum_none m h2] at hs; omega
  ·rw [sum_single m h1 h2] at hs; omega
end PH
open Go.RowKit
namespace PH
theorem tal_append (a b:List Nat) (n:Nat):tal (a++b) n=tal a n+tal b n:=by
 unfold tal
 split
 ·rfl
 ·exact List.count_append
theorem share_append (a b:List Nat) (k:Nat):share (a++b) k=share a k+share b k:=by
 induction k with
 | zero=>rfl
 | succ k ih=>rw [share,share,share,ih,tal_append,Nat.add_mul]; omega
theorem share_single (x:Nat) (k:Nat):share [x] k=if 0<x/\x<k then 2 ^ (15 - x) else 0:=by
 induction k with
 | zero=>rw [if_neg (by omega)]; rfl
 | succ k ih =>
  rw [share,ih]
  have ht:tal [x] k=if k=0 then 0 else if x=k then 1 else 0:=by
   unfold tal
   by_cases h0:k=0
   ·rw [if_pos h0,if_pos h0]
   ·rw [if_neg h0,if_neg h0,List.count_singleton]
    by_cases h1:x=k
    ·rw [if_pos h1,if_pos (by simpa using h1)]
    ·rw [if_neg h1,if_neg (by simpa using h1)]
  rw [ht]
  by_cases h1:x=k
  ·subst h1
   by_cases h0:x=0
   ·rw [if_pos h0,if_neg (by omega),if_neg (by omega)]; simp
   ·rw [if_neg h0,if_pos rfl,if_neg (by omega),if_pos (by omega)]; omega
  ·rw [show(if k=0 then 0 else if x=k then 1 else 0)=0 by simp [h1],Nat.zero_mul,Nat.add_zero]
   by_cases h2:0<x/\x<k
   ·rw [if_pos h2,if_pos (by omega)]
   ·rw [if_neg h2,if_neg (by omega)]
theorem sum_take (m:List Nat) (i:Nat) (hi:i<m.length) (x:Nat) (hx:m[i]=x) (h15:x<=15):sum (m.take (i+1))=sum (m.take i)+if 0<x then 2 ^ (15 - x) else 0:=by
 unfold sum
 rw [List.take_succ_eq_append_getElem hi,share_append,hx,share_single]
 congr 1
 by_cases h:0<x
 ·rw [if_pos h,if_pos (by omega)]
 ·rw [if_neg h,if_neg (by omega)]
end PH
def laid (m:List Nat) (q i j:Nat):Nat:=if m.getD j 0=0 then 0 else if m.getD j 0<q∨(m.getD j 0=q/\j<i) then PH.codeAt m j else 0
namespace PH
theorem mayBook_sum (m:List Nat) (h:mayBook m=true):sum m<=32768:=by
 rcases Nat.lt_or_ge 32768 (sum m) with q | q
 ·have:PH.state m=1:=by
   unfold PH.state
   rw [if_neg (by omega),if_pos q]
  rw [many_no_book m this] at h; cases h
 ·exact q
end PH
def fxl (i:Nat):Nat:=if i<144 then 8 else if i<256 then 9 else if i<280 then 7 else 8
def fixedL:List Nat:=(List.range 288).map fxl
namespace PH
def nat (l:List Int):List Nat:=l.map Int.toNat
def ecI (l:List Int):Int:=if may l=true then (if PH.state (nat l)=1 then 20 else 0) else 1
def okB (l:List Int):Bool:=may l && mayBook (nat l)
def cn (l:List Int):Nat:=if ecI l=0 then l.length else 0
theorem nextFrom_err (m:List Nat) (l:List Bool) (k n:Nat) (hn:n<=l.length) (hk:n+k<=15) (hk0:n+k<=l.length∨True) :
  n<=(nextFrom m l k n).1/\(nextFrom m l k n).1<=l.length/\((nextFrom m l k n).2.1=0/\n+1<=(nextFrom m l k n).1∨(nextFrom m l k n).2.1=4∨(nextFrom m l k n).2.1=20):=by
 induction k generalizing n with
 | zero=>exact⟨Nat.le_refl _,hn,.inr (.inr rfl)⟩
 | succ k ih =>
  rw [nextFrom]
  by_cases h:l.length<=n
  ·rw [if_pos h]; exact⟨Nat.le_refl _,hn,.inr (.inl rfl)⟩
  ·rw [if_neg h]
   by_cases h2:numb (l.take (n+1))<fst m (n+1)+tal m (n+1)
   ·rw [if_pos h2]
    exact⟨by show n<=n+1; omega,by show n+1<=_; omega,.inl ⟨rfl,Nat.le_refl _⟩⟩
   ·rw [if_neg h2]
    obtain⟨a,b,c⟩:=ih (n+1) (by omega) (by omega) (.inr trivial)
    refine⟨by omega,b,?_⟩
    rcases c with ⟨c1,c2⟩ | c | c
    ·exact .inl ⟨c1,by omega⟩
    ·exact .inr (.inl c)
    ·exact .inr (.inr c)
end PH
section
variable (A:Option Addr) (n c:Nat) (l:List Int) {w0 w:World} {L:List Pr}
end

theorem sw_words (s M x:Nat) (hx:x<18446744073709551616) (hM:M<18446744073709551616) (hM2:M * 2 ^ s<18446744073709551616) (p:Int) (hp:p=((2 ^ s:Nat):Int)) :
  bits .or .u64 (bits .and .u64 ((x:Int) / p) (M:Int)) (IntKind.u64.wrap (bits .and .u64 (x:Int) (M:Int) * p))=((PBits.sw s M x:Nat):Int):=by
 subst hp
 have h0:(x:Int) / ((2 ^ s:Nat):Int)=((x / 2 ^ s:Nat):Int):=by rw [Int.natCast_ediv]
 have h1:x / 2 ^ s<18446744073709551616:=Nat.lt_of_le_of_lt (Nat.div_le_self _ _) hx
 have h2:(x &&& M) * 2 ^ s<18446744073709551616:=Nat.lt_of_le_of_lt (Nat.mul_le_mul_right _ Nat.and_le_right) hM2
 have h3:(x / 2 ^ s &&& M)<18446744073709551616:=Nat.lt_of_le_of_lt Nat.and_le_right hM
 rw [h0,u64_and_nat _ _ h1 hM,u64_and_nat _ _ hx hM,<- Int.natCast_mul,IntKind.wrap_u64,Int.emod_eq_of_lt (by omega) (by omega),u64_or_nat _ _ h3 h2]
 rfl
theorem sw_words32 (x:Nat) (hx:x<18446744073709551616) :
  bits .or .u64 ((x:Int) / 4294967296) (IntKind.u64.wrap ((x:Int) * 4294967296))=((PBits.sw 32 4294967295 x:Nat):Int):=by
 have h1:x / 4294967296<18446744073709551616:=by omega
 have h2:(x &&& 4294967295)=x % 4294967296:=Nat.and_two_pow_sub_one_eq_mod x 32
 have h3:(x / 4294967296 &&& 4294967295)=x / 4294967296:=by
  rw [show(4294967295:Nat)=2 ^ 32 - 1 by decide,Nat.and_two_pow_sub_one_eq_mod]; omega
 have h4:IntKind.u64.wrap ((x:Int) * 4294967296)=((x % 4294967296 * 4294967296:Nat):Int):=by rw [IntKind.wrap_u64]; omega
 have h5:(x:Int) / 4294967296=((x / 4294967296:Nat):Int):=by omega
 rw [h4,h5,u64_or_nat _ _ h1 (by omega)]
 unfold PBits.sw
 rw [h2,show(2:Nat) ^ 32=4294967296 by decide,h3]

theorem revBytes_any (x:Nat) (w:World) (hx:x<18446744073709551616) :
  Calls Tryd.prog 169 #[.int .u64 (x:Int)] w fun e w'=>e=.returned (.int .u64 (PBits.sw 32 4294967295 (PBits.sw 16 281470681808895 (PBits.sw 8 71777214294589695 x)):Nat))/\w=w':=by
 have l8:=PBits.sw_lt 8 71777214294589695 x (by decide) (by decide)
 have e8:=sw_words 8 71777214294589695 x hx (by decide) (by decide) 256 (by decide)
 have l16:=PBits.sw_lt 16 281470681808895 (PBits.sw 8 71777214294589695 x) (by decide) (by decide)
 have e16:=sw_words 16 281470681808895 _ l8 (by decide) (by decide) 65536 (by decide)
 have e32:=sw_words32 _ l16
 simp only [Int.cast_ofNat_Int] at e8 e16
 go_enter Tryd.func169,Tryd.ntmps169
 go_wp2
 go_ret
 exact⟨rfl,rfl⟩
theorem rev64_any (x:Nat) (w:World) (hx:x<18446744073709551616) :
  Calls Tryd.prog 167 #[.int .u64 (x:Int)] w fun e w'=>e=.returned (.int .u64 (PBits.rev64 x:Nat))/\w=w':=by
 have l1:=PBits.sw_lt 1 6148914691236517205 x (by decide) (by decide)
 have e1:=sw_words 1 6148914691236517205 x hx (by decide) (by decide) 2 (by decide)
 have l2:=PBits.sw_lt 2 3689348814741910323 (PBits.sw 1 6148914691236517205 x) (by decide) (by decide)
 have e2:=sw_words 2 3689348814741910323 _ l1 (by decide) (by decide) 4 (by decide)
 have l4:=PBits.sw_lt 4 1085102592571150095 (PBits.sw 2 3689348814741910323 (PBits.sw 1 6148914691236517205 x)) (by decide) (by decide)
 have e4:=sw_words 4 1085102592571150095 _ l2 (by decide) (by decide) 16 (by decide)
 simp only [Int.cast_ofNat_Int] at e1 e2 e4
 go_enter Tryd.func167,Tryd.ntmps167
 go_wp2_with fail
 refine(revBytes_any _ _ l4).mono ?_
 rintro e w2 ⟨rfl,rfl⟩
 go_wp2
 go_ret
 exact⟨rfl,rfl⟩
theorem reverse_any (x K:Nat) (m:Int) (w:World) (hx:x<18446744073709551616) (hK:(K:Int)=min (max m 0) 64) :
  Calls Tryd.prog 162 #[.int .u64 (x:Int),.int .i64 m] w fun e w'=>e=.returned (.int .u64 (PBits.rev x K:Nat))/\w=w':=by
 have hk64:K<=64:=by omega
 have f1:∀W:World,(Builtin.max_ #[3,3] 3 #[.int .i64 m,.int .i64 0]).run Tryd.prog W=.ok (.int .i64 (max m 0)) W:=fun W=>by
  simp [Builtin.max_,Builtin.max2]
  split <;> omega
 have f2:∀W:World,(Builtin.min_ #[3,3] 3 #[.int .i64 (max m 0),.int .i64 64]).run Tryd.prog W=.ok (.int .i64 (K:Int)) W:=fun W=>by
  simp [Builtin.min_,Builtin.min2]
  split <;> omega
 clear hK
 have hr:=PBits.rev64_lt x
 go_enter Tryd.func162,Tryd.ntmps162
 by_cases h0:K=0
 ·subst h0
  go_wp2
  go_ret
  exact⟨rfl,rfl⟩
 ·have hq:=PBits.rev64_rev x K hk64
  go_wp2_with fail
  refine(rev64_any _ _ hx).mono ?_
  rintro e w2 ⟨rfl,rfl⟩
  go_wp2
  go_ret
  refine⟨?_,rfl⟩
  rw [<- hq]
  simp [Int.natCast_ediv]
def WrB (g:Nat) (v:Value) (wait many:Nat):Pr:=Bk g 160 [v,.int .u64 (wait:Int),.int .i64 (many:Int),.bool true]
def Wr (g V N:Nat):Pr:=Ex fun v:Value=>Star (WrB g v (V / 256 ^ (N / 8)) (N % 8)) (Row 5 1 v (N / 8) (cells8 (PBits.bytesOf V (N / 8))))
theorem wnone_any (g:Nat) (w:World) (c3:w.cell? ⟨g,3,none⟩=some (.bool true)) :
  Calls Tryd.prog 85 #[.pointer (some ⟨g,0,none⟩)] w fun e w'=>e=.returned (.bool false)/\w=w':=by
 go_enter Tryd.func85,Tryd.ntmps85
 go_wp2
 go_ret
 exact⟨rfl,rfl⟩
theorem wasks_ok (g:Nat) (m:Int) (w:World) (c3:w.cell? ⟨g,3,none⟩=some (.bool true)) (h0:0<=m) (h1:m<=57) :
  Calls Tryd.prog 145 #[.func (.func 85) #[.pointer (some ⟨g,0,none⟩)] #[],.int .i64 m,.bool true] w fun e w'=>e=.returned (.int .i64 0)/\w=w':=by
 go_enter Tryd.func145,Tryd.ntmps145
 go_wp2_with fail
 refine(wnone_any g _ c3).mono ?_
 rintro e w2 ⟨rfl,rfl⟩
 have k1:¬ (57:Int)<m:=by omega
 have k2:¬ m<0:=by omega
 go_wp2
 go_ret
 exact⟨rfl,rfl⟩
theorem two64 (a:Nat) (h:a<=64):2 ^ a<=18446744073709551616:=by
 have:=Nat.pow_le_pow_right (n:=2) (by decide) h
 exact this
theorem wait_lt (V N:Nat) (h:V<2 ^ N):V / 256 ^ (N / 8)<2 ^ (N % 8):=by
 have h1:(256:Nat) ^ (N / 8)=2 ^ (8 * (N / 8)):=by rw [show(256:Nat)=2 ^ 8 by decide,<- Nat.pow_mul]
 rw [h1]
 apply Nat.div_lt_of_lt_mul
 rw [<- Nat.pow_add]
 rwa [show 8 * (N / 8)+N % 8=N by omega]
set_option maxRecDepth 100000 in
set_option maxHeartbeats 2000000 in
theorem put_ok (g V N n k:Nat) {w0 w:World} {L:List Pr} (H:Sp w0 (Wr g V N::L) w) (hV:V<2 ^ N) (hk:k<=57) (hn:n<2 ^ k) (hN:N<=1000000000) :
  Calls Tryd.prog 110 #[.pointer (some ⟨g,0,none⟩),.int .u64 (n:Int),.int .i64 (k:Int)] w fun e w'=>e=.returned (.int .i64 0)/\Sp w0 (Wr g (V+n * 2 ^ N) (N+k)::L) w':=by
 obtain⟨v,H⟩:=H.unex
 replace H:=H.unstar
 have d1:((n:Int) / 2 ^ k == 0)=true:=by
  rw [beq_iff_eq]
  have:n / 2 ^ k=0:=Nat.div_eq_of_lt hn
  exact_mod_cast this
 have c3:w.cell? ⟨g,3,none⟩=some (.bool true):=H.cell 0 rfl 3
 go_enter Tryd.func110,Tryd.ntmps110
 go_wp2_with fail
 refine(wasks_ok g k _ c3 (by omega) (by omega)).mono ?_
 rintro e w2 ⟨rfl,rfl⟩
 clear d1 c3
 obtain⟨m,hm⟩:∃m,m=N % 8:=⟨_,rfl⟩
 obtain⟨wt,hwt⟩:∃wt,wt=V / 256 ^ (N / 8):=⟨_,rfl⟩
 rw [<- hm,<- hwt] at H
 have hm8:m<8:=by omega
 have hwm:wt<2 ^ m:=by rw [hwt,hm]; exact wait_lt V N hV
 have hw64:wt<18446744073709551616:=Nat.lt_of_lt_of_le hwm (two64 _ (by omega))
 have hx:n * 2 ^ m<18446744073709551616:=by
  have h1:n * 2 ^ m<2 ^ k * 2 ^ m:=Nat.mul_lt_mul_of_pos_right hn (Nat.two_pow_pos m)
  rw [<- Nat.pow_add] at h1
  exact Nat.lt_of_lt_of_le h1 (two64 _ (by omega))
 have s1:IntKind.u64.wrap ((n:Int) * 2 ^ m)=((n * 2 ^ m:Nat):Int):=by
  rw [show((n:Int) * 2 ^ m)=((n * 2 ^ m:Nat):Int) by simp,IntKind.wrap_u64]
  generalize n * 2 ^ m=q at hx
  omega
 have s2:bits .or .u64 (wt:Int) ((n * 2 ^ m:Nat):Int)=((wt+n * 2 ^ m:Nat):Int):=by
  rw [u64_or_nat _ _ hw64 hx,Nat.mul_comm n,Nat.add_comm,Nat.two_pow_add_eq_or_of_lt hwm,Nat.or_comm]
 obtain⟨sh,hsh⟩:∃sh,sh=n * 2 ^ m:=⟨_,rfl⟩
 rw [<- hsh] at s1 s2
 obtain⟨w1,hw1⟩:∃w1,w1=wt+sh:=⟨_,rfl⟩
 rw [<- hw1] at s2
 have e1:w1=(V+n * 2 ^ N) / 256 ^ (N / 8):=by rw [PBits.put_wait,hw1,hsh,hwt,hm]
 have e2:m+k=N+k - 8 * (N / 8):=by rw [hm]; omega
 have E1:=Lib.hid e1
 have E2:=Lib.hid e2
 clear hsh hw1 hx hm hwt e1 e2
 have c1:w.cell? ⟨g,1,none⟩=some (.int .u64 (wt:Int)):=H.cell 0 rfl 1
 have c2:w.cell? ⟨g,2,none⟩=some (.int .i64 (m:Int)):=H.cell 0 rfl 2
 have z1:w.frozen? ⟨g,1,none⟩=false:=H.frozen 0 rfl 1
 have z2:w.frozen? ⟨g,2,none⟩=false:=H.frozen 0 rfl 2
 go_wp2
 go_still_tail 13,(by kernel_rfl)
 change wpList _ _ _ _ _ w.drew
 go_wp2
 go_loopw [] (fun wr=>∃(q mm:Nat) (v:Value),N / 8<=q/\mm+8 * q=N+k/\Sp w0 (WrB g v ((V+n * 2 ^ N) / 256 ^ q) mm::Row 5 1 v q (cells8 (PBits.bytesOf (V+n * 2 ^ N) q))::L) wr) (fun wr=>match wr.cell? ⟨g,2,none⟩ with | some i=>(intOf i).toNat | none=>0)
 case atStart =>
  refine⟨N / 8,m+k,v,Nat.le_refl _,by rw [E2.out]; omega,?_⟩
  rw [PBits.put_bytes,<- E1.out]
  exact(H.drew.set 1 (.int .u64 (w1:Int))).set 2 (.int .i64 ((m:Int)+k))
 case round =>
  obtain⟨q,mm,v',hq1,hq2,H⟩:=hrel
  clear z1 z2 c1 c2 s1 s2
  have r2:wr.cell? ⟨g,2,none⟩=some (.int .i64 (mm:Int)):=H.cell 0 rfl 2
  by_cases h8:8<=mm
  ·have h8' : (8:Int)<=mm:=by omega
   go_wp2
   obtain⟨ww,hww⟩:∃ww,ww=(V+n * 2 ^ N) / 256 ^ q:=⟨_,rfl⟩
   obtain⟨bs,hbs⟩:∃bs,bs=cells8 (PBits.bytesOf (V+n * 2 ^ N) q):=⟨_,rfl⟩
   rw [<- hww,<- hbs] at H
   have H0:=H
   have HW:=Lib.hid hww
   have HB:=Lib.hid hbs
   clear hww hbs
   refine wp_region_sc (L:=L) [some (.pointer (some ⟨g,0,none⟩)),some (.pointer (some ⟨g,0,none⟩)),some (.pointer (some ⟨g,0,none⟩)),some (.pointer (some ⟨g,0,none⟩)),some (v'),some (.pointer (some ⟨g,0,none⟩)),some (.pointer (some ⟨g,0,none⟩)),some (.pointer (some ⟨g,1,none⟩)),some (.int .u64 (ww:Int)),some (.int .u8 ((ww:Int) % 256)),none,none,some (.pointer (some ⟨g,0,none⟩)),some (.pointer (some ⟨g,0,none⟩)),some (undef)] (fun ix vx=>match ix with | 10=>(fun v=>v=.slice (some ⟨v.ownBlock.getD 0,0,none⟩) 1 1) vx | 11=>(fun _=>True) vx | _=>True) (fun ix vx=>match ix with | 10=>(fun v=>[Bk (v.ownBlock.getD 0) 5 [.int .u8 ((ww:Int) % 256)]]) vx | 11=>(fun v=>[Row 5 1 v (q+1) (bs++[.int .u8 ((ww:Int) % 256)])]) vx | 14=>(fun _=>[Ex fun u=>Star (WrB g u ww mm) (Row 5 1 u (q+1) (bs++[.int .u8 ((ww:Int) % 256)]))]) vx | _=>[]) (fun ix=>match ix with | 11=>[Row 5 1 v' q bs] | 14=>[WrB g v' ww mm] | _=>[]) 15 77
    [some 49,some 50,some 51,some 52,some 53,some 54,some 55,some 56,some 57,some 58,some 59,some 60,some 61,some 62,none]
    [[],[],[1],[2],[3],[],[5],[6],[7],[8],[9],[4,10],[0,0,1,2,3,4,5,6,7,8,9,10,11],[12,0,1,2,3,4,5,6,7,8,9,10,11],[13,11,11,0,1,2,3,4,5,6,7,8,9,10,11]]
    [[],[],[1],[1,2],[1,2,3],[],[5],[5,6],[5,6,7],[5,6,7,8],[5,6,7,8,9],[1,2,3,4,5,6,7,8,9,10],[0,1,2,3,4,5,6,7,8,9,10,11],[0,1,2,3,4,5,6,7,8,9,10,11,12],[0,1,2,3,4,5,6,7,8,9,10,11,12,13]]
    [[],[],[],[],[],[],[],[],[],[],[],[10],[],[],[11]] [[],[],[],[],[14],[],[],[],[14],[],[],[],[],[],[]] [(0,.pointer (some ⟨g,0,none⟩))]
    (by kernel_rfl) rfl (by decide) (by rfl) (by decide +kernel) rfl rfl (by simp) ((H.pick 2 [1,0])) ?hstep ?hend
   case hstep =>
    refine⟨?p0,⟨?p1,⟨?p2,⟨?p3,⟨?p4,⟨?p5,⟨?p6,⟨?p7,⟨?p8,⟨?p9,⟨?p10,⟨?p11,⟨?p12,⟨?p13,⟨?p14,trivial⟩⟩⟩⟩⟩⟩⟩⟩⟩⟩⟩⟩⟩⟩⟩
    case p0 | p1 | p2 | p3 | p5 | p6 | p7 | p9 | p12 | p13 =>
     intro x wx A rest hDf hF hS hE H K hK
     replace hK:=Lib.hid hK
     clear hS hE hDf
     repeat (obtain⟨_,hF⟩:=hF)
     change Oper.wp _ _ A wx K _
     go_step
     exact hK.out _ _ rfl H
    case p4 =>
     intro x wx A rest hDf hF hS hE H K hK0
     replace hDf:=Lib.hid hDf
     have e52:A.tmps[52]?.getD undef=.pointer (some ⟨g,0,none⟩):=((hS 3 (by decide)).2 52 rfl).trans (hS 3 (by decide)).1
     replace H:Sp w0 ((WrB g v' ww mm)::rest) wx:=H
     have hK:Hid (∀(v:Value) (w' : World),v=v'->Sp w0 ((WrB g v' ww mm)::rest) w'->K (A.put (some 53) v) w'):=Lib.hid hK0
     clear hK0 hF hS hE
     have c:wx.cell? ⟨g,0,none⟩=some v':=H.cell 0 rfl 0
     change Oper.wp _ _ A wx K _
     go_step
     exact hK.out _ _ rfl (H)
    case p8 =>
     intro x wx A rest hDf hF hS hE H K hK0
     replace hDf:=Lib.hid hDf
     have e56:A.tmps[56]?.getD undef=.pointer (some ⟨g,1,none⟩):=((hS 7 (by decide)).2 56 rfl).trans (hS 7 (by decide)).1
     replace H:Sp w0 ((WrB g v' ww mm)::rest) wx:=H
     have hK:Hid (∀(v:Value) (w' : World),v=.int .u64 (ww:Int)->Sp w0 ((WrB g v' ww mm)::rest) w'->K (A.put (some 57) v) w'):=Lib.hid hK0
     clear hK0 hF hS hE
     have c:wx.cell? ⟨g,1,none⟩=some (.int .u64 (ww:Int)):=H.cell 0 rfl 1
     change Oper.wp _ _ A wx K _
     go_step
     exact hK.out _ _ rfl (H)
    case p10 =>
     intro x wx A rest hDf hF hS hE H K hK0
     replace hDf:=Lib.hid hDf
     have e58:A.tmps[58]?.getD undef=.int .u8 ((ww:Int) % 256):=((hS 9 (by decide)).2 58 rfl).trans (hS 9 (by decide)).1
     replace H:Sp w0 (rest) wx:=H
     have hK:Hid (∀(v:Value) (w' : World),v=.slice (some ⟨v.ownBlock.getD 0,0,none⟩) 1 1->Sp w0 ((Bk (v.ownBlock.getD 0) 5 [.int .u8 ((ww:Int) % 256)])::rest) w'->K (A.put (some 59) v) w'):=Lib.hid hK0
     clear hK0 hF hS hE
     change Oper.wp _ _ A wx K _
     go_step
     exact hK.out _ _ rfl (H.newBk _ _)
    case p11 =>
     intro x wx A rest hDf hF hS hE H K hK0
     replace hDf:=Lib.hid hDf
     have e53:A.tmps[53]?.getD undef=v':=((hS 4 (by decide)).2 53 rfl).trans (hS 4 (by decide)).1
     have q59:(x 10)=.slice (some ⟨(x 10).ownBlock.getD 0,0,none⟩) 1 1:=(hS 10 (by decide)).1
     have e59:A.tmps[59]?.getD undef=x 10:=(hS 10 (by decide)).2 59 rfl
     replace H:Sp w0 ((Row 5 1 v' q bs)::(Bk ((x 10).ownBlock.getD 0) 5 [.int .u8 ((ww:Int) % 256)])::rest) wx:=H
     have hK:Hid (∀(v:Value) (w' : World),True->Sp w0 ((Row 5 1 v (q+1) (bs++[.int .u8 ((ww:Int) % 256)]))::rest) w'->K (A.put (some 60) v) w'):=Lib.hid hK0
     clear hK0 hF hS hE
     obtain⟨g9,e9⟩:∃g9,(x 10).ownBlock.getD 0=g9:=⟨_,rfl⟩
     rw [q59] at e59
     rw [e9] at e59 H
     change Oper.wp _ _ A wx K _
     obtain⟨i0,hi,hz0,hz1,hz2⟩:=info_parts info8
     refine wp_append_sp _ _ 25 rfl 5 i0 (.int .u8 0) 1 1 Tryd.underlying25 hi hz0 hz1 hz2 rfl (by decide) v' q bs (ev e53) H (some ⟨g9,0,none⟩) 1 1 [.int .u8 ((ww:Int) % 256)] (ev e59) rfl (Rd.of_blk (H.blk 1 rfl)) (by intro u hu; rw [List.mem_singleton.1 hu]; rfl) (by simp only [maxLen]; omega) (by omega) ?_
     intro v1 w2 H2 _
     exact hK.out _ _ trivial H2.swap.tail
    case p14 =>
     intro x wx A rest hDf hF hS hE H K hK0
     replace hDf:=Lib.hid hDf
     have e62:A.tmps[62]?.getD undef=.pointer (some ⟨g,0,none⟩):=((hS 13 (by decide)).2 62 rfl).trans (hS 13 (by decide)).1
     have q60:True:=(hS 11 (by decide)).1
     have e60:A.tmps[60]?.getD undef=x 11:=(hS 11 (by decide)).2 60 rfl
     replace H:Sp w0 ((WrB g v' ww mm)::(Row 5 1 (x 11) (q+1) (bs++[.int .u8 ((ww:Int) % 256)]))::rest) wx:=H
     have hK:Hid (∀(v:Value) (w' : World),v=undef->Sp w0 ((Ex fun u=>Star (WrB g u ww mm) (Row 5 1 u (q+1) (bs++[.int .u8 ((ww:Int) % 256)])))::rest) w'->K (A.put none v) w'):=Lib.hid hK0
     clear hK0 hF hS hE
     have c:wx.cell? ⟨g,0,none⟩=some v':=H.cell 0 rfl 0
     have z:wx.frozen? ⟨g,0,none⟩=false:=H.frozen 0 rfl 0
     obtain⟨A1,c1,ea,_,_⟩:=Row.form H 1 rfl
     change Oper.wp _ _ A wx K _
     rw [ea] at e60 H
     go_step
     exact hK.out _ _ rfl (Sp.ex (.slice A1 (q+1) c1) (Sp.star (H.set 0 (.slice A1 (q+1) c1))))
   case hend =>
    intro x wx A hA hS H
    replace H:Sp w0 ((Ex fun u=>Star (WrB g u ww mm) (Row 5 1 u (q+1) (bs++[.int .u8 ((ww:Int) % 256)])))::L) wx:=H
    clear hS
    simp only [putAll,Act.put,List.setIfInBounds_toArray,List.set_cons_succ,List.set_cons_zero,Nat.reduceAdd] at hA
    subst hA
    obtain⟨u,H⟩:=H.unex
    replace H:=H.unstar
    have d1:wx.cell? ⟨g,1,none⟩=some (.int .u64 (ww:Int)):=H.cell 0 rfl 1
    have d2:wx.cell? ⟨g,2,none⟩=some (.int .i64 (mm:Int)):=H.cell 0 rfl 2
    have z1:wx.frozen? ⟨g,1,none⟩=false:=H.frozen 0 rfl 1
    have z2:wx.frozen? ⟨g,2,none⟩=false:=H.frozen 0 rfl 2
    clear r2
    have hm8'' : mm<=1000000100:=by omega
    go_wp2
    go_roundw
    case rel =>
     refine⟨q+1,mm - 8,u,by omega,by omega,?_⟩
     rw [PBits.byte_next,<- PBits.div_next,<- HW.out]
     have e8:cells8 (PBits.bytesOf (V+n * 2 ^ N) q++[UInt8.ofNat (ww % 256)])=bs++[.int .u8 ((ww:Int) % 256)]:=by
      rw [HB.out]; simp [cells8]
     rw [e8]
     have H2:=(H.set 1 (.int .u64 ((ww:Int) / 256))).set 2 (.int .i64 ((mm:Int) - 8))
     have ea:((ww / 256:Nat):Int)=(ww:Int) / 256:=by omega
     have eb:((mm - 8:Nat):Int)=(mm:Int) - 8:=by omega
     unfold WrB
     rw [ea,eb]
     exact H2
    case measure =>
     have m1:wr.cell? ⟨g,2,none⟩=some (.int .i64 (mm:Int)):=H0.cell 0 rfl 2
     have m2:=((H.set 1 (.int .u64 ((ww:Int) / 256))).set 2 (.int .i64 ((mm:Int) - 8))).cell 0 rfl 2
     simp only [m1,m2]
     simp [intOf]
     omega
  ·have h8' : ¬ (8:Int)<=mm:=by omega
   go_wp2
   go_ret
   obtain rfl:q=(N+k) / 8:=by omega
   obtain rfl:mm=(N+k) % 8:=by omega
   exact⟨rfl,H.star.ex v'⟩
theorem wr_made {w0 w:World} {L:List Pr} {g V N:Nat} (H:Sp w0 (Wr g V N::L) w):w.cell? ⟨g,3,none⟩=some (.bool true):=by
 obtain⟨v,H⟩:=H.unex
 exact H.unstar.cell 0 rfl 3
theorem code_ok (g V N n k:Nat) {w0 w:World} {L:List Pr} (H:Sp w0 (Wr g V N::L) w) (hV:V<2 ^ N) (hk:k<=57) (hn:n<2 ^ k) (hN:N<=1000000000) :
  Calls Tryd.prog 146 #[.pointer (some ⟨g,0,none⟩),.int .u64 (n:Int),.int .i64 (k:Int)] w fun e w'=>e=.returned (.int .i64 0)/\Sp w0 (Wr g (V+PBits.rev n k * 2 ^ N) (N+k)::L) w':=by
 have d1:((n:Int) / 2 ^ k == 0)=true:=by
  rw [beq_iff_eq]
  have:n / 2 ^ k=0:=Nat.div_eq_of_lt hn
  exact_mod_cast this
 have c3:=wr_made H
 go_enter Tryd.func146,Tryd.ntmps146
 go_wp2_with fail
 refine(wasks_ok g k _ c3 (by omega) (by omega)).mono ?_
 rintro e w2 ⟨rfl,rfl⟩
 clear d1 c3
 go_wp2_with fail
 refine(reverse_any n k (k:Int) _ (Nat.lt_of_lt_of_le hn (two64 _ (by omega))) (by omega)).mono ?_
 rintro e w2 ⟨rfl,rfl⟩
 go_wp2_with fail
 refine(put_ok g V N (PBits.rev n k) k H hV hk (PBits.rev_lt n k) hN).mono ?_
 rintro e w2 ⟨rfl,H⟩
 go_wp2
 go_ret
 exact⟨rfl,H⟩
theorem newWriter_ok {w0 w:World} {L:List Pr} (H:Sp w0 L w) :
  Calls Tryd.prog 51 #[] w (Ret fun v w'=>∃g,v=.pointer (some ⟨g,0,none⟩)/\Sp w0 (Wr g 0 0::L) w'):=by
 go_enter Tryd.func51,Tryd.ntmps51
 go_wp2
 go_ret
 exact⟨_,rfl,_,rfl,Sp.ex (.slice none 0 0) (Sp.star (((H.rowNil 5 1).newBk _ _)))⟩
theorem i64_and7 (x:Int):bits .and .i64 x 7=x % 8:=by
 have e2:(BitVec.ofInt 64 (7:Int)).toNat=7:=rfl
 show IntKind.i64.wrap ((BitVec.ofInt 64 x &&& BitVec.ofInt 64 (7:Int)).toNat:Int)=_
 rw [BitVec.toNat_and,BitVec.toNat_ofInt,e2,nat_mask3,IntKind.wrap_i64]
 omega
theorem align_ok (g V N:Nat) {w0 w:World} {L:List Pr} (H:Sp w0 (Wr g V N::L) w) (hV:V<2 ^ N) (hN:N<=1000000000) :
  Calls Tryd.prog 109 #[.pointer (some ⟨g,0,none⟩)] w fun e w'=>e=.returned (.int .i64 0)/\Sp w0 (Wr g V ((N+7) / 8 * 8)::L) w':=by
 have c3:=wr_made H
 obtain⟨m,hm⟩:∃m,m=N % 8:=⟨_,rfl⟩
 have c2:w.cell? ⟨g,2,none⟩=some (.int .i64 (m:Int)):=by
  obtain⟨v,H⟩:=H.unex
  rw [hm]
  exact H.unstar.cell 0 rfl 2
 have hm8:m<8:=by omega
 have HM:=Lib.hid hm
 clear hm
 have ha:bits .and .i64 (-(m:Int)) 7=(((8 - m) % 8:Nat):Int):=by rw [i64_and7]; omega
 go_enter Tryd.func109,Tryd.ntmps109
 go_wp2_with fail
 refine(wnone_any g _ c3).mono ?_
 rintro e w2 ⟨rfl,rfl⟩
 go_wp2_with fail
 refine(put_ok g V N 0 ((8 - m) % 8) H hV (by omega) (Nat.two_pow_pos _) hN).mono ?_
 rintro e w2 ⟨rfl,H⟩
 clear ha
 go_wp2
 go_ret
 refine⟨rfl,?_⟩
 have e1:N+(8 - m) % 8=(N+7) / 8 * 8:=by rw [HM.out]; omega
 rwa [Nat.zero_mul,Nat.add_zero,e1] at H
theorem bytes_ok (g V N:Nat) {v:Value} {l:List UInt8} {w0 w:World} {L:List Pr} (H:Sp w0 (Wr g V N::L) w) (hb:Byt w v l) (hN8:N % 8=0) (hV:V<2 ^ N) (hN:N<=1000000000) (hl:l.length<=1000000000) :
  Calls Tryd.prog 111 #[.pointer (some ⟨g,0,none⟩),v] w fun e w'=>e=.returned (.int .i64 0)/\Sp w0 (Wr g (V+PBits.le l * 2 ^ N) (N+8 * l.length)::L) w':=by
 have c3:=wr_made H
 have HN:=Lib.hid hN8
 obtain⟨u,H⟩:=H.unex
 replace H:=H.unstar
 rw [hN8] at H
 clear hN8
 have c2:w.cell? ⟨g,2,none⟩=some (.int .i64 0):=H.cell 0 rfl 2
 have c0:w.cell? ⟨g,0,none⟩=some u:=H.cell 0 rfl 0
 have z0:w.frozen? ⟨g,0,none⟩=false:=H.frozen 0 rfl 0
 obtain⟨A,c,rfl,hr,h1,h2⟩:=hb
 obtain⟨i0,hi,hz0,hz1,hz2⟩:=info_parts info8
 go_enter Tryd.func111,Tryd.ntmps111
 go_wp2_with fail
 refine(wasks_ok g 0 _ c3 (by omega) (by omega)).mono ?_
 rintro e w2 ⟨rfl,rfl⟩
 go_wp2_with (at_builtin; refine wpList_append_sp rfl _ _ 25 rfl 5 i0 (.int .u8 0) 1 1 Tryd.underlying25 hi hz0 hz1 hz2 rfl (by decide) u (N / 8) (cells8 (PBits.bytesOf V (N / 8))) rfl H.swap A l.length c (cells8 l) rfl (by simp [cells8]) hr (cells8_one l) (by unfold maxLen; omega) (by omega) ?_)
 intro v' w' H2 _
 clear c0 z0 c2 c3
 have c0:w'.cell? ⟨g,0,none⟩=some u:=H2.cell 1 rfl 0
 have z0:w'.frozen? ⟨g,0,none⟩=false:=H2.frozen 1 rfl 0
 obtain⟨A1,c1,rfl,_,_⟩:=Row.form H2 0 rfl
 go_wp2
 go_ret
 refine⟨rfl,Sp.ex (.slice A1 (N / 8+l.length) c1) (Sp.star ?_)⟩
 have H3:=H2.swap.set 0 (.slice A1 (N / 8+l.length) c1)
 have e1:=HN.out
 have e2:(N+8 * l.length) / 8=N / 8+l.length:=by omega
 have e3:(N+8 * l.length) % 8=0:=by omega
 have hVl:V<256 ^ (N / 8):=by
  have:=PBits.pow_parts N
  rw [e1] at this
  simpa [this] using hV
 have e4:(V+PBits.le l * 2 ^ N) / 256 ^ (N / 8+l.length)=0:=by
  have h5:=PBits.le_lt l
  rw [PBits.pow_parts N,e1,Nat.pow_zero,Nat.one_mul,Nat.pow_add,<- Nat.div_div_eq_div_mul,Nat.add_mul_div_right _ _ (Nat.pow_pos (by decide)),Nat.div_eq_of_lt hVl,Nat.zero_add,Nat.div_eq_of_lt h5]
 have e5:PBits.bytesOf (V+PBits.le l * 2 ^ N) (N / 8+l.length)=PBits.bytesOf V (N / 8)++l:=by
  rw [PBits.bytesOf_add,PBits.put_bytes,PBits.pow_parts N,e1,Nat.pow_zero,Nat.one_mul,Nat.add_mul_div_right _ _ (Nat.pow_pos (by decide)),Nat.div_eq_of_lt hVl,Nat.zero_add,PBits.bytesOf_le]
 have e6:V / 256 ^ (N / 8)=0:=Nat.div_eq_of_lt hVl
 rw [e2,e3,e4,e5]
 rw [e6] at H3
 have e7:cells8 (PBits.bytesOf V (N / 8)++l)=cells8 (PBits.bytesOf V (N / 8))++cells8 l:=by simp [cells8]
 rw [e7]
 exact H3
theorem len_ok (g V N:Nat) {w0 w:World} {L:List Pr} (H:Sp w0 (Wr g V N::L) w) (hN:N<=2000000000) :
  Calls Tryd.prog 84 #[.pointer (some ⟨g,0,none⟩)] w fun e w'=>e=.returned (.int .i64 (N:Int))/\Keep w w':=by
 have c3:=wr_made H
 obtain⟨v,H⟩:=H.unex
 replace H:=H.unstar
 obtain⟨q,hq⟩:∃q,q=N / 8:=⟨_,rfl⟩
 obtain⟨m,hm⟩:∃m,m=N % 8:=⟨_,rfl⟩
 rw [<- hq,<- hm] at H
 have hN' : N=8 * q+m:=by omega
 clear hq hm
 have HN:=Lib.hid hN'
 obtain⟨A,c,rfl,h1,h2⟩:=Row.form H 1 rfl
 have c0:w.cell? ⟨g,0,none⟩=some (.slice A q c):=H.cell 0 rfl 0
 have c2:w.cell? ⟨g,2,none⟩=some (.int .i64 (m:Int)):=H.cell 0 rfl 2
 have hb:q<=250000000:=by omega
 have hb2:m<=2000000000:=by omega
 clear hN hN'
 go_enter Tryd.func84,Tryd.ntmps84
 go_wp2_with fail
 refine(wnone_any g _ c3).mono ?_
 rintro e w2 ⟨rfl,rfl⟩
 go_wp2
 go_quiet (fail)
 go_wp2
 go_ret
 exact⟨ret_i64 (by rw [HN.out]; omega),Keep.drewN _ _⟩
theorem done_ok (g V N:Nat) {w0 w:World} {L:List Pr} (H:Sp w0 (Wr g V N::L) w) (hN:N<=1000000000) :
  Calls Tryd.prog 55 #[.pointer (some ⟨g,0,none⟩)] w (Ret fun v w'=>Sp w0 (Row 5 1 v ((N+7) / 8) (cells8 (PBits.bytesOf V ((N+7) / 8)))::Wr g V N::L) w'):=by
 have c3:=wr_made H
 obtain⟨v,H⟩:=H.unex
 replace H:=H.unstar
 obtain⟨q,hq⟩:∃q,N / 8=q:=⟨_,rfl⟩
 obtain⟨m,hm⟩:∃m,N % 8=m:=⟨_,rfl⟩
 obtain⟨wt,hwt⟩:∃wt,V / 256 ^ q=wt:=⟨_,rfl⟩
 obtain⟨bs,hbs⟩:∃bs,PBits.bytesOf V q=bs:=⟨_,rfl⟩
 have hbl:bs.length=q:=by rw [<- hbs]; exact PBits.bytesOf_length _ _
 have hF:∀L' w',Sp w0 (WrB g v wt m::Row 5 1 v q (cells8 bs)::L') w'->Sp w0 (Wr g V N::L') w':=fun L' w' H'=>Sp.ex v (Sp.star (by rw [hq,hm,hwt,hbs]; exact H'))
 rw [hq,hm,hwt,hbs] at H
 have hq2:q<=130000000:=by omega
 have hm8:m<8:=by omega
 have hcase:(N+7) / 8=if 0<m then q+1 else q:=by split <;> omega
 have hlast:PBits.bytesOf V (q+1)=bs++[UInt8.ofNat (wt % 256)]:=by rw [PBits.byte_next,hbs,hwt]
 have hrow:Byt w v bs:=H.row_byt 1 (e:=5) (by rw [hbl]; rfl)
 have HA:=Lib.hid hF
 have HB:=Lib.hid hcase
 have HC:=Lib.hid hlast
 have HD:=Lib.hid hbl
 have HE:=Lib.hid hbs
 clear hF hcase hlast hbl hq hm hwt hbs hN
 obtain⟨A,c,ev,_,_⟩:=Row.form H 1 rfl
 subst ev
 have c0:w.cell? ⟨g,0,none⟩=some (.slice A q c):=H.cell 0 rfl 0
 go_enter Tryd.func55,Tryd.ntmps55
 go_wp2_with fail
 refine(wnone_any g _ c3).mono ?_
 rintro e w2 ⟨rfl,rfl⟩
 go_wp2_with fail
 refine(clone_ok H hrow (by rw [HD.out]; omega)).mono ?_
 rintro e w2 ⟨u,rfl,H⟩
 rw [HD.out] at H
 clear c0 c3
 have c1:w2.cell? ⟨g,1,none⟩=some (.int .u64 (wt:Int)):=H.cell 1 rfl 1
 have c2:w2.cell? ⟨g,2,none⟩=some (.int .i64 (m:Int)):=H.cell 1 rfl 2
 obtain⟨i0,hi,hz0,hz1,hz2⟩:=info_parts info8
 by_cases h0:0<m
 ·have h0' : (0:Int)<m:=by omega
  go_wp2_with (at_builtin; refine wpList_append_sp rfl _ _ 25 rfl 5 i0 (.int .u8 0) 1 1 Tryd.underlying25 hi hz0 hz1 hz2 rfl (by decide) u q (cells8 bs) rfl (H.newBk [.int .u8 ((wt:Int) % 256)] _).swap (some ⟨w2.heap.size,0,none⟩) 1 1 [.int .u8 ((wt:Int) % 256)] rfl rfl (Rd.of_blk ((H.newBk [.int .u8 ((wt:Int) % 256)] _).blk 0 rfl)) (by intro u hu; rw [List.mem_singleton.1 hu]; rfl) (by unfold maxLen; omega) (by omega) ?_)
  intro v' w' H2 _
  clear c1 c2
  go_wp2
  go_ret
  refine⟨_,rfl,?_⟩
  have H3:=Sp.swap (HA.out _ _ (H2.pick 4 [2,3,0]))
  rw [HB.out,if_pos h0,HC.out]
  have e7:cells8 (bs++[UInt8.ofNat (wt % 256)])=cells8 bs++[.int .u8 ((wt:Int) % 256)]:=by simp [cells8]
  rw [e7]
  exact H3
 ·have h0' : ¬ (0:Int)<m:=by omega
  clear c1
  go_wp2
  go_ret
  refine⟨_,rfl,?_⟩
  rw [HB.out,if_neg h0,HE.out]
  exact(HA.out _ _ (H.pick 3 [1,2,0])).swap
namespace PBits
end PBits
def RrB (g:Nat) (v:Value) (at_:Nat):Pr:=Bk g 137 [v,.int .i64 (at_:Int),.bool true]
def Rr (g:Nat) (l:List UInt8) (at_:Nat):Pr:=Ex fun v:Value=>Star (RrB g v at_) (Row 5 1 v l.length (cells8 l))
structure Thing where
 n:Nat
 m:Nat
 c:Bool
 b:List UInt8
 v:Value
namespace Thing
def k (x:Thing):Nat:=x.m % 58
def num (x:Thing):Nat:=x.n % 2 ^ x.k
def by_ (x:Thing):List UInt8:=x.b.take 20
def lies (x:Thing):Nat:=if x.by_≠[] then PBits.le x.by_ else if x.c then PBits.rev x.num x.k else x.num
def from_ (x:Thing) (N:Nat):Nat:=if x.by_≠[] then (N+7) / 8 * 8 else N
def size (x:Thing):Nat:=if x.by_≠[] then 8 * x.by_.length else x.k
def stp (s:Nat × Nat) (x:Thing):Nat × Nat:=(s.1+x.lies * 2 ^ x.from_ s.2,x.from_ s.2+x.size)
def st (l:List Thing):Nat × Nat:=l.foldl stp (0,0)
def row (l:List Thing):List UInt8:=PBits.bytesOf (st l).1 (((st l).2+7) / 8)
end Thing
namespace PBits
def num:List Bool->Nat
 | []=>0
 | b::l=>b.toNat+2 * num l
def bitsOf (n:Nat):Nat->List Bool
 | 0=>[]
 | k+1=>(n % 2 == 1)::bitsOf (n / 2) k
theorem bitsOf_length (n k:Nat):(bitsOf n k).length=k:=by
 induction k generalizing n with
 | zero=>rfl
 | succ k ih=>simp [bitsOf,ih]
theorem num_lt (l:List Bool):num l<2 ^ l.length:=by
 induction l with
 | nil=>simp [num]
 | cons b l ih =>
  have:b.toNat<=1:=by cases b <;> decide
  simp only [num,List.length_cons,Nat.pow_succ]
  omega
theorem num_append (a b:List Bool):num (a++b)=num a+2 ^ a.length * num b:=by
 induction a with
 | nil=>simp [num]
 | cons x a ih =>
  simp only [List.cons_append,num,ih,List.length_cons,Nat.pow_succ,Nat.mul_add]
  rw [<- Nat.mul_assoc,Nat.mul_comm 2 (2 ^ a.length)]
  omega
theorem num_bitsOf (n k:Nat):num (bitsOf n k)=n % 2 ^ k:=by
 induction k generalizing n with
 | zero=>simp [bitsOf,num,Nat.mod_one]
 | succ k ih =>
  have h:=Nat.mod_mul (x:=n) (a:=2) (b:=2 ^ k)
  have e:(2:Nat) ^ (k+1)=2 * 2 ^ k:=by rw [Nat.pow_succ,Nat.mul_comm]
  have hb:(n % 2 == 1).toNat=n % 2:=by
   rcases Nat.mod_two_eq_zero_or_one n with h | h <;> rw [h] <;> rfl
  simp only [bitsOf,num,ih,hb,e,h]
theorem num_rev_bitsOf (n k:Nat):num (bitsOf n k).reverse=rev n k:=by
 induction k generalizing n with
 | zero=>rfl
 | succ k ih =>
  have hb:(n % 2 == 1).toNat=n % 2:=by
   rcases Nat.mod_two_eq_zero_or_one n with h | h <;> rw [h] <;> rfl
  rw [bitsOf,List.reverse_cons,num_append,ih,List.length_reverse,bitsOf_length,rev]
  simp only [num,hb]
  rw [Nat.mul_zero,Nat.add_zero,Nat.mul_comm,Nat.add_comm]
theorem num_false (m:Nat):num (List.replicate m false)=0:=by
 induction m with
 | zero=>rfl
 | succ m ih=>simp [List.replicate_succ,num,ih]
def ofB:List UInt8->List Bool
 | []=>[]
 | c::l=>bitsOf c.toNat 8++ofB l
theorem ofB_length (l:List UInt8):(ofB l).length=8 * l.length:=by
 induction l with
 | nil=>rfl
 | cons c l ih=>simp only [ofB,List.length_append,bitsOf_length,ih,List.length_cons]; omega
theorem num_ofB (l:List UInt8):num (ofB l)=le l:=by
 induction l with
 | nil=>rfl
 | cons c l ih =>
  have hc:=c.toNat_lt
  rw [ofB,num_append,num_bitsOf,bitsOf_length,ih,le,Nat.mod_eq_of_lt hc]
end PBits
set_option linter.unusedSimpArgs false
namespace PI
def numAt (B:List Bool) (a k:Nat):Nat:=PBits.num ((B.drop a).take k)
def number (B:List Bool) (a k:Nat):Except Nat (Nat × Nat):=if a+k<=B.length then .ok (a+k,numAt B a k) else .error 4
def mostN (m:List Nat):Nat:=if PH.state m=0 then 15 else 1
theorem mostN_of (m:List Nat):mostOf m=(mostN m:Int):=by unfold mostOf mostN; split <;> rfl
theorem mostN_le (m:List Nat):mostN m<=15:=by unfold mostN; split <;> omega
def sign (B:List Bool) (m:List Nat) (a:Nat):Except Nat (Nat × Nat) :=
 if (PH.nextFrom m (B.drop a) (mostN m) 0).2.1=0 then .ok (a+(PH.nextFrom m (B.drop a) (mostN m) 0).1,(PH.nextFrom m (B.drop a) (mostN m) 0).2.2) else .error (PH.nextFrom m (B.drop a) (mostN m) 0).2.1.toNat
def lengthsT:List (Nat × Nat):=[(3,0),(4,0),(5,0),(6,0),(7,0),(8,0),(9,0),(10,0),(11,1),(13,1),(15,1),(17,1),(19,2),(23,2),(27,2),(31,2),(35,3),(43,3),(51,3),(59,3),(67,4),(83,4),(99,4),(115,4),(131,5),(163,5),(195,5),(227,5)]
def awayT:List (Nat × Nat):=[(1,0),(2,0),(3,0),(4,0),(5,1),(7,1),(9,2),(13,2),(17,3),(25,3),(33,4),(49,4),(65,5),(97,5),(129,6),(193,6),(257,7),(385,7),(513,8),(769,8),(1025,9),(1537,9),(2049,10),(3073,10),(4097,11),(6145,11),(8193,12),(12289,12),(16385,13),(24577,13)]
def orderT:List Nat:=[16,17,18,0,8,7,9,6,10,5,11,4,12,3,13,2,14,1,15]
def count (B:List Bool) (t:List (Nat × Nat)) (s a:Nat):Except Nat (Nat × Nat) :=
 if s<t.length then (number B a (t.getD s (0,0)).2).bind fun r=>.ok (r.1,(t.getD s (0,0)).1+r.2) else .error 20
def length (B:List Bool) (s a:Nat):Except Nat (Nat × Nat):=if s=28 then .ok (a,258) else count B lengthsT s a
def copy (back:Nat):Nat->List UInt8->List UInt8
 | 0,out=>out
 | n+1,out=>copy back n (out++[out.getD (out.length - back) 0])
theorem copy_len (back n:Nat) (out:List UInt8):(copy back n out).length=out.length+n:=by
 induction n generalizing out with
 | zero=>rfl
 | succ n ih=>rw [copy,ih]; simp; omega
def stepP (B:List Bool) (most:Nat) (m d:List Nat) (a:Nat) (out:List UInt8):Except Nat (Bool × Nat × List UInt8) :=
 (sign B m a).bind fun r =>
  if r.2=256 then .ok (true,r.1,out)
  else if r.2<256 then (if most - out.length<1 then .error 22 else .ok (false,r.1,out++[UInt8.ofNat r.2]))
  else (length B (r.2 - 257) r.1).bind fun n=>(sign B d n.1).bind fun t=>(count B awayT t.2 t.1).bind fun k =>
   if out.length<k.2 then .error 20 else if most - out.length<n.2 then .error 22 else .ok (false,k.1,copy k.2 n.2 out)
def pressed (B:List Bool) (most:Nat) (m d:List Nat):Nat->Nat->List UInt8->Except Nat (Nat × List UInt8)
 | 0,_,_=>.error 0
 | f+1,a,out=>(stepP B most m d a out).bind fun r=>if r.1 then .ok r.2 else pressed B most m d f r.2.1 r.2.2
def fill (many:Nat) (acc:List Nat) (v k a:Nat):Except Nat (Nat × List Nat):=if many - acc.length<k then .error 20 else .ok (a,acc++List.replicate k v)
def stepL (B:List Bool) (m:List Nat) (many a:Nat) (acc:List Nat):Except Nat (Nat × List Nat) :=
 (sign B m a).bind fun r =>
  if r.2=16 then (if acc.length=0 then .error 20 else (number B r.1 2).bind fun n=>fill many acc (acc.getD (acc.length - 1) 0) (3+n.2) n.1)
  else if r.2=17 then (number B r.1 3).bind fun n=>fill many acc 0 (3+n.2) n.1
  else if r.2=18 then (number B r.1 7).bind fun n=>fill many acc 0 (11+n.2) n.1
  else fill many acc r.2 1 r.1
def lens (B:List Bool) (m:List Nat) (many:Nat):Nat->Nat->List Nat->Except Nat (Nat × List Nat)
 | 0,_,_=>.error 0
 | f+1,a,acc=>if acc.length<many then (stepL B m many a acc).bind fun r=>lens B m many f r.1 r.2 else .ok (a,acc)
def firsts (B:List Bool):List Nat->Nat->List Nat->Except Nat (Nat × List Nat)
 | [],a,l=>.ok (a,l)
 | s::rest,a,l=>(number B a 3).bind fun r=>firsts B rest r.1 (l.set s r.2)
def book (m:List Nat):Bool:=PH.okB (castI m)
def dynamic (B:List Bool) (a:Nat):Except Nat (Nat × List Nat × List Nat) :=
 (number B a 5).bind fun l=>(number B l.1 5).bind fun d=>(number B d.1 4).bind fun c =>
  if 286<l.2+257∨30<d.2+1 then .error 20 else
  (firsts B (orderT.take (c.2+4)) c.1 (List.replicate 19 0)).bind fun f =>
  if book f.2=true then
   (lens B f.2 (l.2+257+(d.2+1)) (l.2+257+(d.2+1)+1) f.1 []).bind fun r =>
   if r.2.getD 256 0=0 then .error 20 else
   if book (r.2.take (l.2+257))=true then (if book (r.2.drop (l.2+257))=true then .ok (r.1,r.2.take (l.2+257),r.2.drop (l.2+257)) else .error 20) else .error 20
  else .error 20
def fixedL:List Nat:=List.replicate 144 8++List.replicate 112 9++List.replicate 24 7++List.replicate 8 8
def fixedD:List Nat:=List.replicate 32 5
def bytesAt (B:List Bool) (a n:Nat):List UInt8:=(List.range n).map fun i=>UInt8.ofNat (numAt B (a+8 * i) 8)
def stored (B:List Bool) (most a:Nat) (out:List UInt8):Except Nat (Nat × List UInt8) :=
 (number B ((a+7) / 8 * 8) 16).bind fun n=>(number B n.1 16).bind fun k =>
  if k.2≠65535 - n.2 then .error 20 else
  if (B.length - k.1) / 8<n.2 then (if most - out.length<(B.length - k.1) / 8 then .error 22 else .error 4) else
  if most - out.length<n.2 then .error 22 else .ok (k.1+8 * n.2,out++bytesAt B k.1 n.2)
def body (B:List Bool) (most kind a:Nat) (out:List UInt8):Except Nat (Nat × List UInt8) :=
 if kind=0 then stored B most a out
 else if kind=1 then pressed B most fixedL fixedD (B.length+1) a out
 else if kind=2 then (dynamic B a).bind fun r=>pressed B most r.2.1 r.2.2 (B.length+1) r.1 out
 else .error 20
structure Blk where
 kind:Nat
 last:Bool
 from_:Nat
 to_:Nat
deriving DecidableEq
def block (B:List Bool) (most a:Nat) (out:List UInt8):Except Nat (Bool × Nat × Nat × List UInt8) :=
 (number B a 1).bind fun l=>(number B l.1 2).bind fun k=>(body B most k.2 k.1 out).bind fun r=>.ok (l.2 == 1,k.2,r.1,r.2)
def blocks (B:List Bool) (most:Nat):Nat->Nat->List UInt8->List Blk->Except Nat (Nat × List UInt8 × List Blk)
 | 0,_,_,_=>.error 0
 | f+1,a,out,bl=>(block B most a out).bind fun r =>
  if r.1 then .ok (r.2.2.1,r.2.2.2,bl++[⟨r.2.1,r.1,out.length,r.2.2.2.length⟩]) else blocks B most f r.2.2.1 r.2.2.2 (bl++[⟨r.2.1,r.1,out.length,r.2.2.2.length⟩])
def all (B:List Bool) (most:Nat):Except Nat (Nat × List UInt8 × List Blk):=blocks B most (B.length+1) 0 [] []

/-! What goes on, and what is enough. -/
theorem number_ok {B:List Bool} {a k:Nat} {r:Nat × Nat} (h:number B a k=.ok r):r=(a+k,numAt B a k)/\a+k<=B.length:=by
 unfold number at h
 split at h
 ·rename_i h2; cases h; exact⟨rfl,h2⟩
 ·cases h
theorem number_err {B:List Bool} {a k e:Nat} (h:number B a k=.error e):e=4/\B.length<a+k:=by
 unfold number at h
 split at h
 ·cases h
 ·cases h; exact⟨rfl,by omega⟩
theorem next_facts (m:List Nat) (l:List Bool) (mo:Nat) (h:mo<=15):(PH.nextFrom m l mo 0).1<=l.length/\((PH.nextFrom m l mo 0).2.1=0/\1<=(PH.nextFrom m l mo 0).1∨(PH.nextFrom m l mo 0).2.1=4∨(PH.nextFrom m l mo 0).2.1=20):=by
 have:=PH.nextFrom_err m l mo 0 (Nat.zero_le _) (by omega) (.inr trivial)
 exact⟨this.2.1,this.2.2⟩
theorem sign_ok {B:List Bool} {m:List Nat} {a:Nat} {r:Nat × Nat} (ha:a<=B.length) (h:sign B m a=.ok r):a<r.1/\r.1<=B.length:=by
 have h1:=next_facts m (B.drop a) (mostN m) (mostN_le m)
 unfold sign at h
 split at h
 ·rename_i h2
  cases h
  rw [List.length_drop] at h1
  show a<a+_/\a+_<=_
  omega
 ·cases h
theorem sign_err {B:List Bool} {m:List Nat} {a e:Nat} (h:sign B m a=.error e):e=4∨e=20:=by
 have h1:=next_facts m (B.drop a) (mostN m) (mostN_le m)
 unfold sign at h
 split at h
 ·cases h
 ·cases h; omega
theorem bind_ok {α β:Type} {x:Except Nat α} {f:α->Except Nat β} {b:β} (h:x.bind f=.ok b):∃a,x=.ok a/\f a=.ok b:=by
 cases x with
 | error e=>cases h
 | ok a=>exact⟨a,rfl,h⟩
theorem count_ok {B:List Bool} {t:List (Nat × Nat)} {s a:Nat} {r:Nat × Nat} (h:count B t s a=.ok r):a<=r.1/\(a<=B.length->r.1<=B.length):=by
 unfold count at h
 split at h
 ·obtain⟨q,hq,h2⟩:=bind_ok h
  cases h2
  obtain⟨rfl,h3⟩:=number_ok hq
  exact⟨by show a<=a+_; omega,fun _=>h3⟩
 ·cases h
theorem length_ok {B:List Bool} {s a:Nat} {r:Nat × Nat} (h:length B s a=.ok r):a<=r.1/\(a<=B.length->r.1<=B.length):=by
 unfold length at h
 split at h
 ·cases h; exact⟨Nat.le_refl _,id⟩
 ·exact count_ok h
theorem stepP_ok {B:List Bool} {most:Nat} {m d:List Nat} {a:Nat} {out:List UInt8} {r:Bool × Nat × List UInt8} (ha:a<=B.length) (h:stepP B most m d a out=.ok r):a<r.2.1/\r.2.1<=B.length/\(out.length<=most->r.2.2.length<=most):=by
 unfold stepP at h
 obtain⟨s,hs,h⟩:=bind_ok h
 obtain⟨h1,h2⟩:=sign_ok ha hs
 split at h
 ·cases h; exact⟨h1,h2,id⟩
 split at h
 ·split at h
  ·cases h
  ·cases h; exact⟨h1,h2,fun _=>by simp; omega⟩
 obtain⟨n,hn,h⟩:=bind_ok h
 obtain⟨t,ht,h⟩:=bind_ok h
 obtain⟨k,hk,h⟩:=bind_ok h
 obtain⟨h3,h4⟩:=length_ok hn
 obtain⟨h5,h6⟩:=sign_ok (h4 h2) ht
 obtain⟨h7,h8⟩:=count_ok hk
 split at h
 ·cases h
 split at h
 ·cases h
 ·cases h; exact⟨by show a<k.1; omega,h8 h6,fun _=>by show(copy _ _ _).length<=_; rw [copy_len]; omega⟩
theorem pressed_more {B:List Bool} {most:Nat} {m d:List Nat} : ∀(f g a:Nat) (out:List UInt8),a<=B.length->B.length<a+f->B.length<a+g->pressed B most m d f a out=pressed B most m d g a out:=by
 intro f
 induction f with
 | zero=>intro g a out h1 h2; omega
 | succ f ih =>
  intro g a out h1 h2 h3
  cases g with
  | zero=>omega
  | succ g =>
   rw [pressed,pressed]
   cases hs:stepP B most m d a out with
   | error e=>rfl
   | ok r =>
    obtain⟨h4,h5,_⟩:=stepP_ok h1 hs
    show(if r.1 then _ else _)=(if r.1 then _ else _)
    split
    ·rfl
    ·exact ih g _ _ h5 (by omega) (by omega)
end PI
end Go.Proofs.YtloijdbkikccgaaDoor

