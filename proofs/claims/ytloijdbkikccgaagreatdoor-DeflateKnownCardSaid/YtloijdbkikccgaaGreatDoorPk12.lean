/- A pack of texts: BitsP BitsO BitsThing BitsRow InfPlain InfFine. -/
import Derived.Test.YtloijdbkikccgaaGreatDoorPk11
namespace Go.Proofs.YtloijdbkikccgaaGreatDoor
open Go.RowKit
theorem p256 (j:Nat):(256:Nat) ^ j=2 ^ (8 * j):=by rw [show(256:Nat)=2 ^ 8 by decide,<- Nat.pow_mul]
theorem peek_step (R j b:Nat) (hj:j<=7) (hb:b=R / 256 ^ j % 256) :
  bits .or .u64 ((R:Int) % 256 ^ j) (IntKind.u64.wrap ((b:Int) * 2 ^ (8 * j)))=((R % 256 ^ (j+1):Nat):Int):=by
 have hb2:b<256:=by rw [hb]; exact Nat.mod_lt _ (by decide)
 have e0:((R:Int) % 256 ^ j)=((R % 256 ^ j:Nat):Int):=by simp
 have hx:R % 256 ^ j<2 ^ (8 * j):=by rw [<- p256]; exact Nat.mod_lt _ (Nat.pow_pos (by decide))
 have h64:(2:Nat) ^ (8 * j)<=72057594037927936:=Nat.pow_le_pow_right (n:=2) (by decide) (show 8 * j<=56 by omega)
 have hy:b * 2 ^ (8 * j)<18446744073709551616:=by
  have:=Nat.mul_le_mul (show b<=255 by omega) h64
  omega
 have e1:IntKind.u64.wrap ((b:Int) * 2 ^ (8 * j))=((b * 2 ^ (8 * j):Nat):Int):=by
  rw [show((b:Int) * 2 ^ (8 * j))=((b * 2 ^ (8 * j):Nat):Int) by simp,IntKind.wrap_u64]
  generalize b * 2 ^ (8 * j)=y at hy
  omega
 rw [e0,e1,u64_or_nat _ _ (by omega) hy,Nat.mul_comm b,Nat.or_comm,<- Nat.two_pow_add_eq_or_of_lt hx,PBits.mod_next,<- hb,p256,Nat.add_comm]
theorem u64_mask (x k:Nat) (hx:x<18446744073709551616) (hk:k<=63):bits .and .u64 (x:Int) (IntKind.u64.wrap (IntKind.u64.wrap (2 ^ k) - 1))=((x % 2 ^ k:Nat):Int):=by
 have h1:(2:Nat) ^ k<=9223372036854775808:=Nat.pow_le_pow_right (n:=2) (by decide) hk
 have h0:0<(2:Nat) ^ k:=Nat.two_pow_pos k
 have e1:((2:Int) ^ k)=((2 ^ k:Nat):Int):=by simp
 have e2:IntKind.u64.wrap (IntKind.u64.wrap (2 ^ k) - 1)=((2 ^ k - 1:Nat):Int):=by
  rw [e1,IntKind.wrap_u64,IntKind.wrap_u64]
  generalize (2:Nat) ^ k=y at h1 h0
  omega
 rw [e2,u64_and_nat _ _ hx (by omega),Nat.and_two_pow_sub_one_eq_mod]
theorem peek_end (R j r k:Nat) (hj:j<=8) (hk:k<=57) :
  bits .and .u64 ((R:Int) % 256 ^ j / 2 ^ r) (IntKind.u64.wrap (IntKind.u64.wrap (2 ^ k) - 1))=((R % 256 ^ j / 2 ^ r % 2 ^ k:Nat):Int):=by
 have e0:((R:Int) % 256 ^ j / 2 ^ r)=((R % 256 ^ j / 2 ^ r:Nat):Int):=by simp
 have h1:R % 256 ^ j<256 ^ j:=Nat.mod_lt _ (Nat.pow_pos (by decide))
 have h2:(256:Nat) ^ j<=18446744073709551616:=Nat.pow_le_pow_right (n:=256) (by decide) hj
 have h3:R % 256 ^ j / 2 ^ r<=R % 256 ^ j:=Nat.div_le_self _ _
 rw [e0,u64_mask _ _ (by omega) (by omega)]
set_option maxRecDepth 100000 in
set_option maxHeartbeats 1000000 in
theorem peek_ok (g:Nat) (l:List UInt8) (at_:Nat) (m:Int) (k:Nat) {w0 w:World} {L:List Pr} (H:Sp w0 (Rr g l at_::L) w) (ha:at_<=8 * l.length) (hl:l.length<=1000000000) (hk:(k:Int)=min (min (max m 0) 57) ((8 * l.length - at_:Nat):Int)) :
  Calls Tryz.prog 177 #[.pointer (some ⟨g,0,none⟩),.int .i64 m] w fun e w'=>e=.returned (.tuple #[.int .u64 (PBits.peek l at_ k:Nat),.int .i64 (k:Int)])/\Keep w w':=by
 obtain⟨_,_,_,_,_,_,c2⟩:=rr_open H
 have hk57:k<=57:=by omega
 have f1:∀W:World,(Builtin.max_ #[3,3] 3 #[.int .i64 m,.int .i64 0]).run Tryz.prog W=.ok (.int .i64 (max m 0)) W:=fun W=>by
  simp [Builtin.max_,Builtin.max2]
  split <;> omega
 have f2:∀W:World,(Builtin.min_ #[3,3,3] 3 #[.int .i64 (max m 0),.int .i64 57,.int .i64 ((8 * l.length - at_:Nat):Int)]).run Tryz.prog W=.ok (.int .i64 (k:Int)) W:=fun W=>by
  rw [hk]
  simp [Builtin.min_,Builtin.min2]
  split <;> split <;> omega
 have HK:=Lib.hid hk
 clear hk
 go_enter Tryz.func177,Tryz.ntmps177
 go_wp2_with fail
 refine(rnone_any g _ c2).mono ?_
 rintro e w2 ⟨rfl,rfl⟩
 go_wp2_with fail
 refine(left_ok g l at_ H ha hl).mono ?_
 rintro e w2 ⟨rfl,hKp⟩
 replace H:=hKp.sep H
 clear c2
 go_wp2_with fail
 clear f1 f2
 obtain⟨A,c,H,hB,c0,c1,c2⟩:=rr_open H
 obtain⟨q,hq0⟩:∃q,q=at_ / 8:=⟨_,rfl⟩
 have hq:(at_:Int) / 8=(q:Int):=by omega
 have hql:q<=l.length:=by omega
 obtain⟨R,hR⟩:∃R,R=PBits.le l / 256 ^ q:=⟨_,rfl⟩
 have HQ:=Lib.hid hq0
 have HR:=Lib.hid hR
 have HB:=Lib.hid hB
 clear hq0 hR hB
 obtain⟨_,_,eA,_,_,hcm⟩:=id HB.out
 unfold maxLen at hcm
 clear eA
 go_loop [6,7] (fun n i=>∃j:Nat,j<=8/\8 * j<=k+14/\i=.int .i64 (j:Int)/\n=.int .u64 ((R % 256 ^ j:Nat):Int)) (fun _ i=>8 - (intOf i).toNat)
 case atStart=>exact⟨0,by omega,by omega,rfl,by simp [Nat.mod_one]⟩
 case round =>
  obtain⟨j,hj1,hj2,rfl,rfl⟩:=hrel
  by_cases hlt:8 * j<k+7
  ·have hlt' : (8:Int) * j<k+7:=by omega
   by_cases hin:q+j<l.length
   ·have hin' : (q:Int)+j<l.length:=by omega
    have hin0:(0:Int)<=(q:Int)+j:=by omega
    obtain⟨_,_,eA,hr,_,_⟩:=id HB.out
    injection eA with eA _ eC
    subst eA eC
    obtain⟨ad,rfl,hc⟩:=hr.at8 hin
    clear hr
    obtain⟨b,hb⟩:∃b,l[q+j].toNat=b:=⟨_,rfl⟩
    rw [hb] at hc
    have hb2:b<256:=by rw [<- hb]; exact(l[q+j]).toNat_lt
    have HBB:=Lib.hid hb
    clear hb
    have hst:=Lib.hid (peek_step R j b (by omega) (by rw [HR.out,Nat.div_div_eq_div_mul,<- Nat.pow_add,PBits.le_byte,List.getD_eq_getElem?_getD,List.getElem?_eq_getElem hin]; exact HBB.out.symm))
    go_wp2
    go_round
    case rel=>exact⟨j+1,by omega,by omega,by go_num,by rw [<- hst.out]⟩
    case measure=>simp [intOf]; omega
   ·have hin' : ¬ (q:Int)+j<l.length:=by omega
    have hst:Hid (R % 256 ^ j=R % 256 ^ (j+1)):=by
     have h1:=PBits.le_lt (l.drop q)
     rw [PBits.le_drop,<- HR.out] at h1
     have h2:R<256 ^ j:=Nat.lt_of_lt_of_le h1 (Nat.pow_le_pow_right (by decide) (by simp; omega))
     have h3:R<256 ^ (j+1):=Nat.lt_of_lt_of_le h2 (Nat.pow_le_pow_right (by decide) (by omega))
     show _=_
     rw [Nat.mod_eq_of_lt h2,Nat.mod_eq_of_lt h3]
    go_wp2
    go_round
    case rel=>exact⟨j+1,by omega,by omega,by go_num,by rw [<- hst.out]⟩
    case measure=>simp [intOf]; omega
  ·have hlt' : ¬ (8:Int) * j<k+7:=by omega
   obtain⟨r,hr⟩:∃r,at_ % 8=r:=⟨_,rfl⟩
   have hr' : (at_:Int) % 8=(r:Int):=by omega
   have hr8:r<8:=by omega
   have HX:=Lib.hid hr
   clear hr
   go_wp2
   go_quiet (fail)
   go_wp2
   go_ret2
   have e:=peek_end R j r k hj1 hk57
   have e2:=PBits.peek_of l at_ k j (by omega)
   rw [<- HQ.out,<- HR.out,HX.out] at e2
   rw [e2] at e
   exact⟨congrArg (fun x=>Ending.returned (.tuple #[.int .u64 x,.int .i64 (k:Int)])) e,hKp.trans (Keep.drewN _ _)⟩
theorem get_ok (g:Nat) (l:List UInt8) (at_ k:Nat) {w0 w:World} {L:List Pr} (H:Sp w0 (Rr g l at_::L) w) (ha:at_+k<=8 * l.length) (hk:k<=57) (hl:l.length<=1000000000) :
  Calls Tryz.prog 157 #[.pointer (some ⟨g,0,none⟩),.int .i64 (k:Int)] w fun e w'=>e=.returned (.tuple #[.int .u64 (PBits.peek l at_ k:Nat),.int .i64 0])/\Sp w0 (Rr g l (at_+k)::L) w':=by
 obtain⟨_,_,_,_,_,_,c2⟩:=rr_open H
 go_enter Tryz.func157,Tryz.ntmps157
 go_wp2_with fail
 refine(rnone_any g _ c2).mono ?_
 rintro e w2 ⟨rfl,rfl⟩
 clear c2
 go_wp2_with fail
 refine(peek_ok g l at_ k k H (by omega) hl (by omega)).mono ?_
 rintro e w2 ⟨rfl,hK⟩
 replace H:=hK.sep H
 clear hK
 go_wp2_with fail
 refine(skip_ok g l at_ k H ha hk hl).mono ?_
 rintro e w2 ⟨rfl,H⟩
 go_wp2
 go_ret2
 exact⟨rfl,H⟩
theorem get_short (g:Nat) (l:List UInt8) (at_ k:Nat) {w0 w:World} {L:List Pr} (H:Sp w0 (Rr g l at_::L) w) (ha:at_<=8 * l.length) (hs:8 * l.length<at_+k) (hk:k<=57) (hl:l.length<=1000000000) :
  Calls Tryz.prog 157 #[.pointer (some ⟨g,0,none⟩),.int .i64 (k:Int)] w fun e w'=>e=.returned (.tuple #[.int .u64 0,.int .i64 4])/\Keep w w':=by
 obtain⟨_,_,_,_,_,_,c2⟩:=rr_open H
 go_enter Tryz.func157,Tryz.ntmps157
 go_wp2_with fail
 refine(rnone_any g _ c2).mono ?_
 rintro e w2 ⟨rfl,rfl⟩
 clear c2
 go_wp2_with fail
 refine(peek_ok g l at_ k (8 * l.length - at_) H (by omega) hl (by omega)).mono ?_
 rintro e w2 ⟨rfl,hK⟩
 replace H:=hK.sep H
 go_wp2_with fail
 refine(skip_short g l at_ k H ha hs hk hl).mono ?_
 rintro e w2 ⟨rfl,hK2⟩
 go_wp2
 go_ret2
 exact⟨rfl,hK.trans hK2⟩
set_option maxRecDepth 100000 in
theorem ralign_ok (g:Nat) (l:List UInt8) (at_:Nat) {w0 w:World} {L:List Pr} (H:Sp w0 (Rr g l at_::L) w) (ha:at_<=8 * l.length) (hl:l.length<=1000000000) :
  Calls Tryz.prog 159 #[.pointer (some ⟨g,0,none⟩)] w fun e w'=>e=.returned (.int .i64 0)/\Sp w0 (Rr g l ((at_+7) / 8 * 8)::L) w':=by
 obtain⟨A,c,H,_,c0,c1,c2⟩:=rr_open H
 have z1:w.frozen? ⟨g,1,none⟩=false:=H.frozen 0 rfl 1
 have h1:(at_:Int)<=9000000000:=by omega
 have e1:bits .and .i64 (-(at_:Int)) 7=(((8 - at_ % 8) % 8:Nat):Int):=by rw [i64_and7]; omega
 obtain⟨d,hd⟩:∃d,(8 - at_ % 8) % 8=d:=⟨_,rfl⟩
 rw [hd] at e1
 have hd8:d<8:=by omega
 have HD:=Lib.hid hd
 clear hd
 go_enter Tryz.func159,Tryz.ntmps159
 go_wp2_with fail
 refine(rnone_any g _ c2).mono ?_
 rintro e w2 ⟨rfl,rfl⟩
 go_wp2
 go_still_tail 13,(by kernel_rfl)
 change wpList _ _ _ _ _ w.drew
 go_wp2
 go_ret
 refine⟨rfl,Sp.ex (.slice A l.length c) (Sp.star ?_)⟩
 have e2:(((at_+7) / 8 * 8:Nat):Int)=(at_:Int)+d:=by have:=HD.out; omega
 unfold RrB
 rw [e2,e1]
 exact(H.set 1 (.int .i64 ((at_:Int)+d))).drew
set_option maxRecDepth 100000 in
theorem rbytes_ok (g:Nat) (l:List UInt8) (q k:Nat) {w0 w:World} {L:List Pr} (H:Sp w0 (Rr g l (8 * q)::L) w) (ha:q+k<=l.length) (hl:l.length<=1000000000) :
  Calls Tryz.prog 162 #[.pointer (some ⟨g,0,none⟩),.int .i64 (k:Int)] w (Ret fun v w'=>∃u,v=.tuple #[u,.int .i64 0]/\Sp w0 (Row 5 1 u k (cells8 ((l.drop q).take k))::Rr g l (8 * (q+k))::L) w'):=by
 obtain⟨_,_,_,_,_,c1,c2⟩:=rr_open H
 rw [Int.natCast_mul] at c1
 have hq2:(q:Int)<=1000000000:=by omega
 have hk2:(k:Int)<=1000000000:=by omega
 have t0:((8:Int) * q % 8 == 0)=true:=by rw [beq_iff_eq]; omega
 go_enter Tryz.func162,Tryz.ntmps162
 go_wp2_with fail
 refine(rasks_ok g 0 _ c2 (by omega) (by omega)).mono ?_
 rintro e w2 ⟨rfl,rfl⟩
 clear t0 c1 c2
 go_wp2_with fail
 refine(left_ok g l (8 * q) H (by omega) hl).mono ?_
 rintro e w2 ⟨rfl,hK⟩
 replace H:=hK.sep H
 clear hK
 obtain⟨A,c,H,hB,c0,c1,c2⟩:=rr_open H
 have z1:w2.frozen? ⟨g,1,none⟩=false:=H.frozen 0 rfl 1
 rw [Int.natCast_mul] at c1
 have hcm:c<=maxLen:=by obtain⟨_,_,e,_,_,h⟩:=hB; injection e with _ _ e; omega
 have hcl:l.length<=c:=by obtain⟨_,_,e,_,h,_⟩:=hB; injection e with _ _ e; omega
 unfold maxLen at hcm
 have t1:¬ ((8 * l.length - 8 * q:Nat):Int) / 8<k:=by omega
 have t2:(8:Int) * q / 8=q:=by omega
 have t3:(q:Int)+k<=c:=by omega
 have t4:(0:Int)<=(q:Int)+k:=by omega
 have e8:((8 * (q+k):Nat):Int)=8 * (q:Int)+8 * k:=by omega
 have H2:Sp w0 (RrB g (.slice A l.length c) (8 * (q+k))::Row 5 1 (.slice A l.length c) l.length (cells8 l)::L) (w2.setCell ⟨g,1,none⟩ (.int .i64 (8 * (q:Int)+8 * k))):=by
  have:=H.set 1 (.int .i64 (8 * (q:Int)+8 * k))
  unfold RrB
  rw [e8]
  exact this
 clear e8
 have hB2:Byt (w2.setCell ⟨g,1,none⟩ (.int .i64 (8 * (q:Int)+8 * k))) (.slice A l.length c) l:=H2.row_byt 1 rfl
 by_cases hcq:c=q
 ·subst hcq
  obtain rfl:k=0:=by omega
  go_wp2_with fail
  refine(clone_ok (l:=[]) H2 ⟨_,_,rfl,Rd.nil,Nat.zero_le _,by simp [maxLen]⟩ (by simp)).mono ?_
  rintro e w3 ⟨u,rfl,H3⟩
  go_wp2
  go_ret2
  exact⟨_,rfl,_,rfl,Sp.swap (Sp.ex (.slice A l.length c) (Sp.star (by simpa using H3.pick 3 [1,2,0])))⟩
 ·have hs:=(hB2.drop q (by omega)).take k (by simp; omega)
  go_wp2_with fail
  refine(clone_ok H2 hs (by simp; omega)).mono ?_
  rintro e w3 ⟨u,rfl,H3⟩
  go_wp2
  go_ret2
  refine⟨_,rfl,_,rfl,Sp.swap (Sp.ex (.slice A l.length c) (Sp.star ?_))⟩
  have e9:((l.drop q).take k).length=k:=by simp; omega
  rw [e9] at H3
  exact H3.pick 3 [1,2,0]
structure Thing where
 n:Nat
 m:Nat
 c:Bool
 b:List UInt8
 v:Value
namespace Thing
def k (x:Thing):Nat:=x.m % 58
def num (x:Thing):Nat:=x.n % 2 ^ x.k
def by_ (x:Thing):List UInt8:=x.b.take 20
def lies (x:Thing):Nat:=if x.by_≠[] then PBits.le x.by_ else if x.c then PBits.rev x.num x.k else x.num
def from_ (x:Thing) (N:Nat):Nat:=if x.by_≠[] then (N+7) / 8 * 8 else N
def size (x:Thing):Nat:=if x.by_≠[] then 8 * x.by_.length else x.k
def stp (s:Nat × Nat) (x:Thing):Nat × Nat:=(s.1+x.lies * 2 ^ x.from_ s.2,x.from_ s.2+x.size)
def st (l:List Thing):Nat × Nat:=l.foldl stp (0,0)
def row (l:List Thing):List UInt8:=PBits.bytesOf (st l).1 (((st l).2+7) / 8)
end Thing
namespace PBits
def num:List Bool->Nat
 | []=>0
 | b::l=>b.toNat+2 * num l
def bitsOf (n:Nat):Nat->List Bool
 | 0=>[]
 | k+1=>(n % 2 == 1)::bitsOf (n / 2) k
theorem bitsOf_length (n k:Nat):(bitsOf n k).length=k:=by
 induction k generalizing n with
 | zero=>rfl
 | succ k ih=>simp [bitsOf,ih]
theorem num_lt (l:List Bool):num l<2 ^ l.length:=by
 induction l with
 | nil=>simp [num]
 | cons b l ih =>
  have:b.toNat<=1:=by cases b <;> decide
  simp only [num,List.length_cons,Nat.pow_succ]
  omega
theorem num_append (a b:List Bool):num (a++b)=num a+2 ^ a.length * num b:=by
 induction a with
 | nil=>simp [num]
 | cons x a ih =>
  simp only [List.cons_append,num,ih,List.length_cons,Nat.pow_succ,Nat.mul_add]
  rw [<- Nat.mul_assoc,Nat.mul_comm 2 (2 ^ a.length)]
  omega
theorem num_bitsOf (n k:Nat):num (bitsOf n k)=n % 2 ^ k:=by
 induction k generalizing n with
 | zero=>simp [bitsOf,num,Nat.mod_one]
 | succ k ih =>
  have h:=Nat.mod_mul (x:=n) (a:=2) (b:=2 ^ k)
  have e:(2:Nat) ^ (k+1)=2 * 2 ^ k:=by rw [Nat.pow_succ,Nat.mul_comm]
  have hb:(n % 2 == 1).toNat=n % 2:=by
   rcases Nat.mod_two_eq_zero_or_one n with h | h <;> rw [h] <;> rfl
  simp only [bitsOf,num,ih,hb,e,h]
theorem bitsOf_num (l:List Bool):bitsOf (num l) l.length=l:=by
 induction l with
 | nil=>rfl
 | cons b l ih =>
  have h1:((b.toNat+2 * num l) % 2 == 1)=b:=by
   cases b <;> simp <;> omega
  have h2:(b.toNat+2 * num l) / 2=num l:=by
   have:b.toNat<=1:=by cases b <;> decide
   omega
  simp only [num,List.length_cons,bitsOf,h1,h2,ih]
theorem num_rev_bitsOf (n k:Nat):num (bitsOf n k).reverse=rev n k:=by
 induction k generalizing n with
 | zero=>rfl
 | succ k ih =>
  have hb:(n % 2 == 1).toNat=n % 2:=by
   rcases Nat.mod_two_eq_zero_or_one n with h | h <;> rw [h] <;> rfl
  rw [bitsOf,List.reverse_cons,num_append,ih,List.length_reverse,bitsOf_length,rev]
  simp only [num,hb]
  rw [Nat.mul_zero,Nat.add_zero,Nat.mul_comm,Nat.add_comm]
theorem num_false (m:Nat):num (List.replicate m false)=0:=by
 induction m with
 | zero=>rfl
 | succ m ih=>simp [List.replicate_succ,num,ih]
theorem num_drop (l:List Bool) (q:Nat):num (l.drop q)=num l / 2 ^ q:=by
 by_cases h:q<=l.length
 ·conv=>rhs; rw [<- List.take_append_drop q l,num_append]
  have h1:=num_lt (l.take q)
  have h2:(l.take q).length=q:=by simp [h]
  rw [h2] at h1 ⊢
  rw [Nat.add_mul_div_left _ _ (Nat.two_pow_pos q),Nat.div_eq_of_lt h1,Nat.zero_add]
 ·rw [List.drop_eq_nil_of_le (by omega)]
  have h1:=num_lt l
  rw [Nat.div_eq_of_lt (Nat.lt_of_lt_of_le h1 (Nat.pow_le_pow_right (by decide) (by omega)))]
  rfl
theorem num_take (l:List Bool) (k:Nat) (h:k<=l.length):num (l.take k)=num l % 2 ^ k:=by
 conv=>rhs; rw [<- List.take_append_drop k l,num_append]
 have h2:(l.take k).length=k:=by simp [h]
 have h1:=num_lt (l.take k)
 rw [h2] at h1 ⊢
 rw [Nat.add_mul_mod_self_left,Nat.mod_eq_of_lt h1]
theorem num_inj (a b:List Bool) (hl:a.length=b.length) (h:num a=num b):a=b:=by
 rw [<- bitsOf_num a,<- bitsOf_num b,h,hl]
def ofB:List UInt8->List Bool
 | []=>[]
 | c::l=>bitsOf c.toNat 8++ofB l
theorem ofB_length (l:List UInt8):(ofB l).length=8 * l.length:=by
 induction l with
 | nil=>rfl
 | cons c l ih=>simp only [ofB,List.length_append,bitsOf_length,ih,List.length_cons]; omega
theorem num_ofB (l:List UInt8):num (ofB l)=le l:=by
 induction l with
 | nil=>rfl
 | cons c l ih =>
  have hc:=c.toNat_lt
  rw [ofB,num_append,num_bitsOf,bitsOf_length,ih,le,Nat.mod_eq_of_lt hc]
theorem num_mid (l:List Bool) (a k:Nat) (h:a+k<=l.length):num ((l.drop a).take k)=num l / 2 ^ a % 2 ^ k:=by
 rw [num_take _ _ (by simp; omega),num_drop]
end PBits
set_option linter.unusedVariables false
set_option linter.unusedSimpArgs false
namespace PI
def numAt (B:List Bool) (a k:Nat):Nat:=PBits.num ((B.drop a).take k)
def number (B:List Bool) (a k:Nat):Except Nat (Nat × Nat):=if a+k<=B.length then .ok (a+k,numAt B a k) else .error 4
def mostN (m:List Nat):Nat:=if PH.state m=0 then 15 else 1
theorem mostN_of (m:List Nat):mostOf m=(mostN m:Int):=by unfold mostOf mostN; split <;> rfl
theorem mostN_le (m:List Nat):mostN m<=15:=by unfold mostN; split <;> omega
def sign (B:List Bool) (m:List Nat) (a:Nat):Except Nat (Nat × Nat) :=
 if (PH.nextFrom m (B.drop a) (mostN m) 0).2.1=0 then .ok (a+(PH.nextFrom m (B.drop a) (mostN m) 0).1,(PH.nextFrom m (B.drop a) (mostN m) 0).2.2) else .error (PH.nextFrom m (B.drop a) (mostN m) 0).2.1.toNat
def lengthsT:List (Nat × Nat):=[(3,0),(4,0),(5,0),(6,0),(7,0),(8,0),(9,0),(10,0),(11,1),(13,1),(15,1),(17,1),(19,2),(23,2),(27,2),(31,2),(35,3),(43,3),(51,3),(59,3),(67,4),(83,4),(99,4),(115,4),(131,5),(163,5),(195,5),(227,5)]
def awayT:List (Nat × Nat):=[(1,0),(2,0),(3,0),(4,0),(5,1),(7,1),(9,2),(13,2),(17,3),(25,3),(33,4),(49,4),(65,5),(97,5),(129,6),(193,6),(257,7),(385,7),(513,8),(769,8),(1025,9),(1537,9),(2049,10),(3073,10),(4097,11),(6145,11),(8193,12),(12289,12),(16385,13),(24577,13)]
def orderT:List Nat:=[16,17,18,0,8,7,9,6,10,5,11,4,12,3,13,2,14,1,15]
def count (B:List Bool) (t:List (Nat × Nat)) (s a:Nat):Except Nat (Nat × Nat) :=
 if s<t.length then (number B a (t.getD s (0,0)).2).bind fun r=>.ok (r.1,(t.getD s (0,0)).1+r.2) else .error 20
def length (B:List Bool) (s a:Nat):Except Nat (Nat × Nat):=if s=28 then .ok (a,258) else count B lengthsT s a
def copy (back:Nat):Nat->List UInt8->List UInt8
 | 0,out=>out
 | n+1,out=>copy back n (out++[out.getD (out.length - back) 0])
theorem copy_len (back n:Nat) (out:List UInt8):(copy back n out).length=out.length+n:=by
 induction n generalizing out with
 | zero=>rfl
 | succ n ih=>rw [copy,ih]; simp; omega
def stepP (B:List Bool) (most:Nat) (m d:List Nat) (a:Nat) (out:List UInt8):Except Nat (Bool × Nat × List UInt8) :=
 (sign B m a).bind fun r =>
  if r.2=256 then .ok (true,r.1,out)
  else if r.2<256 then (if most - out.length<1 then .error 22 else .ok (false,r.1,out++[UInt8.ofNat r.2]))
  else (length B (r.2 - 257) r.1).bind fun n=>(sign B d n.1).bind fun t=>(count B awayT t.2 t.1).bind fun k =>
   if out.length<k.2 then .error 20 else if most - out.length<n.2 then .error 22 else .ok (false,k.1,copy k.2 n.2 out)
def pressed (B:List Bool) (most:Nat) (m d:List Nat):Nat->Nat->List UInt8->Except Nat (Nat × List UInt8)
 | 0,_,_=>.error 0
 | f+1,a,out=>(stepP B most m d a out).bind fun r=>if r.1 then .ok r.2 else pressed B most m d f r.2.1 r.2.2
def fill (many:Nat) (acc:List Nat) (v k a:Nat):Except Nat (Nat × List Nat):=if many - acc.length<k then .error 20 else .ok (a,acc++List.replicate k v)
def stepL (B:List Bool) (m:List Nat) (many a:Nat) (acc:List Nat):Except Nat (Nat × List Nat) :=
 (sign B m a).bind fun r =>
  if r.2=16 then (if acc.length=0 then .error 20 else (number B r.1 2).bind fun n=>fill many acc (acc.getD (acc.length - 1) 0) (3+n.2) n.1)
  else if r.2=17 then (number B r.1 3).bind fun n=>fill many acc 0 (3+n.2) n.1
  else if r.2=18 then (number B r.1 7).bind fun n=>fill many acc 0 (11+n.2) n.1
  else fill many acc r.2 1 r.1
def lens (B:List Bool) (m:List Nat) (many:Nat):Nat->Nat->List Nat->Except Nat (Nat × List Nat)
 | 0,_,_=>.error 0
 | f+1,a,acc=>if acc.length<many then (stepL B m many a acc).bind fun r=>lens B m many f r.1 r.2 else .ok (a,acc)
def firsts (B:List Bool):List Nat->Nat->List Nat->Except Nat (Nat × List Nat)
 | [],a,l=>.ok (a,l)
 | s::rest,a,l=>(number B a 3).bind fun r=>firsts B rest r.1 (l.set s r.2)
def book (m:List Nat):Bool:=PH.okB (castI m)
def dynamic (B:List Bool) (a:Nat):Except Nat (Nat × List Nat × List Nat) :=
 (number B a 5).bind fun l=>(number B l.1 5).bind fun d=>(number B d.1 4).bind fun c =>
  if 286<l.2+257∨30<d.2+1 then .error 20 else
  (firsts B (orderT.take (c.2+4)) c.1 (List.replicate 19 0)).bind fun f =>
  if book f.2=true then
   (lens B f.2 (l.2+257+(d.2+1)) (l.2+257+(d.2+1)+1) f.1 []).bind fun r =>
   if r.2.getD 256 0=0 then .error 20 else
   if book (r.2.take (l.2+257))=true then (if book (r.2.drop (l.2+257))=true then .ok (r.1,r.2.take (l.2+257),r.2.drop (l.2+257)) else .error 20) else .error 20
  else .error 20
def fixedL:List Nat:=List.replicate 144 8++List.replicate 112 9++List.replicate 24 7++List.replicate 8 8
def fixedD:List Nat:=List.replicate 32 5
def bytesAt (B:List Bool) (a n:Nat):List UInt8:=(List.range n).map fun i=>UInt8.ofNat (numAt B (a+8 * i) 8)
def stored (B:List Bool) (most a:Nat) (out:List UInt8):Except Nat (Nat × List UInt8) :=
 (number B ((a+7) / 8 * 8) 16).bind fun n=>(number B n.1 16).bind fun k =>
  if k.2≠65535 - n.2 then .error 20 else
  if (B.length - k.1) / 8<n.2 then (if most - out.length<(B.length - k.1) / 8 then .error 22 else .error 4) else
  if most - out.length<n.2 then .error 22 else .ok (k.1+8 * n.2,out++bytesAt B k.1 n.2)
def body (B:List Bool) (most kind a:Nat) (out:List UInt8):Except Nat (Nat × List UInt8) :=
 if kind=0 then stored B most a out
 else if kind=1 then pressed B most fixedL fixedD (B.length+1) a out
 else if kind=2 then (dynamic B a).bind fun r=>pressed B most r.2.1 r.2.2 (B.length+1) r.1 out
 else .error 20
structure Blk where
 kind:Nat
 last:Bool
 from_:Nat
 to_:Nat
deriving DecidableEq
def block (B:List Bool) (most a:Nat) (out:List UInt8):Except Nat (Bool × Nat × Nat × List UInt8) :=
 (number B a 1).bind fun l=>(number B l.1 2).bind fun k=>(body B most k.2 k.1 out).bind fun r=>.ok (l.2 == 1,k.2,r.1,r.2)
def blocks (B:List Bool) (most:Nat):Nat->Nat->List UInt8->List Blk->Except Nat (Nat × List UInt8 × List Blk)
 | 0,_,_,_=>.error 0
 | f+1,a,out,bl=>(block B most a out).bind fun r =>
  if r.1 then .ok (r.2.2.1,r.2.2.2,bl++[⟨r.2.1,r.1,out.length,r.2.2.2.length⟩]) else blocks B most f r.2.2.1 r.2.2.2 (bl++[⟨r.2.1,r.1,out.length,r.2.2.2.length⟩])
def all (B:List Bool) (most:Nat):Except Nat (Nat × List UInt8 × List Blk):=blocks B most (B.length+1) 0 [] []

/-! What goes on, and what is enough. -/
theorem number_ok {B:List Bool} {a k:Nat} {r:Nat × Nat} (h:number B a k=.ok r):r=(a+k,numAt B a k)/\a+k<=B.length:=by
 unfold number at h
 split at h
 ·rename_i h2; cases h; exact⟨rfl,h2⟩
 ·cases h
theorem number_err {B:List Bool} {a k e:Nat} (h:number B a k=.error e):e=4/\B.length<a+k:=by
 unfold number at h
 split at h
 ·cases h
 ·cases h; exact⟨rfl,by omega⟩
theorem numAt_lt (B:List Bool) (a k:Nat):numAt B a k<2 ^ k:=by
 have h1:=PBits.num_lt ((B.drop a).take k)
 have h2:(2:Nat) ^ ((B.drop a).take k).length<=2 ^ k:=Nat.pow_le_pow_right (by omega) (by rw [List.length_take]; omega)
 unfold numAt; omega
theorem next_facts (m:List Nat) (l:List Bool) (mo:Nat) (h:mo<=15):(PH.nextFrom m l mo 0).1<=l.length/\((PH.nextFrom m l mo 0).2.1=0/\1<=(PH.nextFrom m l mo 0).1∨(PH.nextFrom m l mo 0).2.1=4∨(PH.nextFrom m l mo 0).2.1=20):=by
 have:=PH.nextFrom_err m l mo 0 (Nat.zero_le _) (by omega) (.inr trivial)
 exact⟨this.2.1,this.2.2⟩
theorem sign_ok {B:List Bool} {m:List Nat} {a:Nat} {r:Nat × Nat} (ha:a<=B.length) (h:sign B m a=.ok r):a<r.1/\r.1<=B.length:=by
 have h1:=next_facts m (B.drop a) (mostN m) (mostN_le m)
 unfold sign at h
 split at h
 ·rename_i h2
  cases h
  rw [List.length_drop] at h1
  show a<a+_/\a+_<=_
  omega
 ·cases h
theorem sign_err {B:List Bool} {m:List Nat} {a e:Nat} (h:sign B m a=.error e):e=4∨e=20:=by
 have h1:=next_facts m (B.drop a) (mostN m) (mostN_le m)
 unfold sign at h
 split at h
 ·cases h
 ·cases h; omega
theorem bind_ok {α β:Type} {x:Except Nat α} {f:α->Except Nat β} {b:β} (h:x.bind f=.ok b):∃a,x=.ok a/\f a=.ok b:=by
 cases x with
 | error e=>cases h
 | ok a=>exact⟨a,rfl,h⟩
theorem count_ok {B:List Bool} {t:List (Nat × Nat)} {s a:Nat} {r:Nat × Nat} (h:count B t s a=.ok r):a<=r.1/\(a<=B.length->r.1<=B.length):=by
 unfold count at h
 split at h
 ·obtain⟨q,hq,h2⟩:=bind_ok h
  cases h2
  obtain⟨rfl,h3⟩:=number_ok hq
  exact⟨by show a<=a+_; omega,fun _=>h3⟩
 ·cases h
theorem length_ok {B:List Bool} {s a:Nat} {r:Nat × Nat} (h:length B s a=.ok r):a<=r.1/\(a<=B.length->r.1<=B.length):=by
 unfold length at h
 split at h
 ·cases h; exact⟨Nat.le_refl _,id⟩
 ·exact count_ok h
theorem stepP_ok {B:List Bool} {most:Nat} {m d:List Nat} {a:Nat} {out:List UInt8} {r:Bool × Nat × List UInt8} (ha:a<=B.length) (h:stepP B most m d a out=.ok r):a<r.2.1/\r.2.1<=B.length/\(out.length<=most->r.2.2.length<=most):=by
 unfold stepP at h
 obtain⟨s,hs,h⟩:=bind_ok h
 obtain⟨h1,h2⟩:=sign_ok ha hs
 split at h
 ·cases h; exact⟨h1,h2,id⟩
 split at h
 ·split at h
  ·cases h
  ·cases h; exact⟨h1,h2,fun _=>by simp; omega⟩
 obtain⟨n,hn,h⟩:=bind_ok h
 obtain⟨t,ht,h⟩:=bind_ok h
 obtain⟨k,hk,h⟩:=bind_ok h
 obtain⟨h3,h4⟩:=length_ok hn
 obtain⟨h5,h6⟩:=sign_ok (h4 h2) ht
 obtain⟨h7,h8⟩:=count_ok hk
 split at h
 ·cases h
 split at h
 ·cases h
 ·cases h; exact⟨by show a<k.1; omega,h8 h6,fun _=>by show(copy _ _ _).length<=_; rw [copy_len]; omega⟩
theorem pressed_more {B:List Bool} {most:Nat} {m d:List Nat} : ∀(f g a:Nat) (out:List UInt8),a<=B.length->B.length<a+f->B.length<a+g->pressed B most m d f a out=pressed B most m d g a out:=by
 intro f
 induction f with
 | zero=>intro g a out h1 h2; omega
 | succ f ih =>
  intro g a out h1 h2 h3
  cases g with
  | zero=>omega
  | succ g =>
   rw [pressed,pressed]
   cases hs:stepP B most m d a out with
   | error e=>rfl
   | ok r =>
    obtain⟨h4,h5,_⟩:=stepP_ok h1 hs
    show(if r.1 then _ else _)=(if r.1 then _ else _)
    split
    ·rfl
    ·exact ih g _ _ h5 (by omega) (by omega)
theorem fill_ok {many:Nat} {acc:List Nat} {v k a:Nat} {r:Nat × List Nat} (h:fill many acc v k a=.ok r) (hk:1<=k) (ha:acc.length<many):r.1=a/\acc.length<r.2.length/\r.2.length<=many:=by
 unfold fill at h
 split at h
 ·cases h
 ·cases h; refine⟨rfl,?_,?_⟩ <;> simp <;> omega
end PI
namespace PI
def Er (e:Nat):Prop:=e=0∨e=4∨e=20∨e=22
structure Fine {Y:Type} (a o:Nat) (F:List Bool->Nat->Except Nat Y) (ps ol:Y->Nat):Prop where
 err:∀B most,a<=B.length->o<=most->∀e,F B most=.error e->Er e
 pos:∀B most,a<=B.length->o<=most->∀y,F B most=.ok y->a<=ps y/\ps y<=B.length/\o<=ol y/\ol y<=most
 ext:∀B most,a<=B.length->o<=most->∀y,F B most=.ok y->∀B' most',B'.take (ps y)=B.take (ps y)->ps y<=B'.length->ol y<=most'->F B' most'=.ok y
 short:∀B most,a<=B.length->o<=most->∀y,F B most=.ok y->∀p,a<=p->p<ps y->F (B.take p) most=.error 4
 cap:∀B most,a<=B.length->o<=most->∀y,F B most=.ok y->∀most',o<=most'->most' < ol y->F B most'=.error 22
section
variable {Y Z:Type} {a o:Nat}
theorem take_less {B B' : List Bool} {p q:Nat} (h:B'.take q=B.take q) (hp:p<=q):B'.take p=B.take p:=by
 have e1:B'.take p=(B'.take q).take p:=by rw [List.take_take,Nat.min_eq_left hp]
 have e2:B.take p=(B.take q).take p:=by rw [List.take_take,Nat.min_eq_left hp]
 rw [e1,e2,h]
theorem Fine.bind {F:List Bool->Nat->Except Nat Y} {G:Y->List Bool->Nat->Except Nat Z} {p1 o1:Y->Nat} {p2 o2:Z->Nat} (hF:Fine a o F p1 o1) (hG:∀y,Fine (p1 y) (o1 y) (G y) p2 o2) :
  Fine a o (fun B most=>(F B most).bind fun y=>G y B most) p2 o2:=by
 refine⟨fun B most ha ho e h=>?_,fun B most ha ho z h=>?_,fun B most ha ho z h B' most' ht hl hm=>?_,fun B most ha ho z h p hap hp=>?_,fun B most ha ho z h most' hm hm2=>?_⟩
 ·cases hf:F B most with
  | error e' =>
   simp only [hf] at h
   cases h
   exact hF.err B most ha ho _ hf
  | ok y =>
   simp only [hf] at h
   obtain⟨q1,q2,q3,q4⟩:=hF.pos B most ha ho y hf
   exact(hG y).err B most q2 q4 e h
 ·obtain⟨y,hf,h⟩:=bind_ok h
  obtain⟨q1,q2,q3,q4⟩:=hF.pos B most ha ho y hf
  obtain⟨r1,r2,r3,r4⟩:=(hG y).pos B most q2 q4 z h
  exact⟨by omega,r2,by omega,r4⟩
 ·obtain⟨y,hf,h⟩:=bind_ok h
  obtain⟨q1,q2,q3,q4⟩:=hF.pos B most ha ho y hf
  obtain⟨r1,r2,r3,r4⟩:=(hG y).pos B most q2 q4 z h
  have e1:=hF.ext B most ha ho y hf B' most' (take_less ht r1) (by omega) (by omega)
  show(F B' most').bind _=_
  rw [e1]
  exact(hG y).ext B most q2 q4 z h B' most' ht hl hm
 ·obtain⟨y,hf,h⟩:=bind_ok h
  obtain⟨q1,q2,q3,q4⟩:=hF.pos B most ha ho y hf
  obtain⟨r1,r2,r3,r4⟩:=(hG y).pos B most q2 q4 z h
  show(F (B.take p) most).bind _=_
  by_cases hpy:p<p1 y
  ·rw [hF.short B most ha ho y hf p hap hpy]; rfl
  ·have e1:=hF.ext B most ha ho y hf (B.take p) most (by rw [List.take_take,Nat.min_eq_left (by omega)]) (by rw [List.length_take]; omega) q4
   rw [e1]
   exact(hG y).short B most q2 q4 z h p (by omega) hp
 ·obtain⟨y,hf,h⟩:=bind_ok h
  obtain⟨q1,q2,q3,q4⟩:=hF.pos B most ha ho y hf
  show(F B most').bind _=_
  by_cases hmy:most' < o1 y
  ·rw [hF.cap B most ha ho y hf most' hm hmy]; rfl
  ·have e1:=hF.ext B most ha ho y hf B most' rfl q2 (by omega)
   rw [e1]
   exact(hG y).cap B most q2 q4 z h most' (by omega) hm2
theorem Fine.ok (y:Y) (p2 o2:Y->Nat) (hp:p2 y=a) (ho:o2 y=o):Fine a o (fun _ _=>.ok y) p2 o2 :=
 ⟨fun _ _ _ _ _ h=>(by cases h),fun B most ha hb z h=>by cases h; omega,fun B most ha hb z h B' most' _ _ _=>h,fun B most ha hb z h p h1 h2=>by cases h; omega,fun B most ha hb z h m h1 h2=>by cases h; omega⟩
theorem Fine.error (e:Nat) (p2 o2:Y->Nat) (he:Er e):Fine a o (fun _ _=>(.error e:Except Nat Y)) p2 o2 :=
 ⟨fun _ _ _ _ _ h=>(by cases h; exact he),fun _ _ _ _ z h=>(by cases h),fun _ _ _ _ z h=>(by cases h),fun _ _ _ _ z h=>(by cases h),fun _ _ _ _ z h=>(by cases h)⟩
theorem Fine.ite {c:Prop} [Decidable c] {F G:List Bool->Nat->Except Nat Y} {p2 o2:Y->Nat} (hF:c->Fine a o F p2 o2) (hG:¬ c->Fine a o G p2 o2):Fine a o (fun B most=>if c then F B most else G B most) p2 o2:=by
 by_cases h:c
 ·have e:(fun B most=>if c then F B most else G B most)=F:=by funext B most; rw [if_pos h]
  rw [e]; exact hF h
 ·have e:(fun B most=>if c then F B most else G B most)=G:=by funext B most; rw [if_neg h]
  rw [e]; exact hG h
theorem Fine.room (n:Nat) (y:Y) (p2 o2:Y->Nat) (hp:p2 y=a) (ho:o2 y=o+n):Fine a o (fun _ most=>if most - o<n then .error 22 else .ok y) p2 o2:=by
 refine⟨fun B most ha h0 e h=>?_,fun B most ha h0 z h=>?_,fun B most ha h0 z h B' most' _ _ hm=>?_,fun B most ha h0 z h p h1 h2=>?_,fun B most ha h0 z h m h1 h2=>?_⟩
 ·split at h <;> cases h; exact .inr (.inr (.inr rfl))
 ·split at h <;> cases h; omega
 ·split at h <;> cases h
  rw [if_neg (by omega)]
 ·split at h <;> cases h; omega
 ·split at h <;> cases h
  rw [if_pos (by omega)]
theorem Fine.number (b k:Nat) (hb:a<=b):Fine a o (fun B _=>number B b k) (fun r=>r.1) (fun _=>o):=by
 refine⟨fun B most ha h0 e h=>?_,fun B most ha h0 z h=>?_,fun B most ha h0 z h B' most' ht hl hm=>?_,fun B most ha h0 z h p h1 h2=>?_,fun B most ha h0 z h m h1 h2=>?_⟩
 ·exact .inr (.inl (number_err h).1)
 ·obtain⟨rfl,h2⟩:=number_ok h
  exact⟨by show a<=b+k; omega,h2,Nat.le_refl _,h0⟩
 ·obtain⟨rfl,h2⟩:=number_ok h
  have hl' : b+k<=B'.length:=hl
  have ht' : B'.take (b+k)=B.take (b+k):=ht
  have e:(B'.drop b).take k=(B.drop b).take k:=by
   rw [List.take_drop,List.take_drop,ht']
  show PI.number B' b k=_
  unfold PI.number numAt
  rw [if_pos hl',e]
 ·obtain⟨rfl,h3⟩:=number_ok h
  have h2' : p<b+k:=h2
  show PI.number (B.take p) b k=_
  unfold PI.number
  rw [if_neg (by rw [List.length_take]; omega)]
 ·omega
theorem next_ext (m:List Nat) (l l' : List Bool) (c s:Nat):∀k n,n+k<=15->n<=l.length->PH.nextFrom m l k n=(c,0,s)->l'.take c=l.take c->c<=l'.length->PH.nextFrom m l' k n=(c,0,s):=by
 intro k
 induction k with
 | zero=>intro n _ _ h; simp [PH.nextFrom] at h
 | succ k ih =>
  intro n h15 hn h ht hc
  have hc1:n+1<=c:=by
   have h9:=PH.nextFrom_err m l (k+1) n hn (by omega) (.inr trivial)
   rw [h] at h9
   rcases h9.2.2 with h9 | h9 | h9
   ·exact h9.2
   ·simp at h9
   ·simp at h9
  have e:=take_less ht hc1
  rw [PH.nextFrom] at h ⊢
  rw [if_neg (by omega),e]
  split at h
  ·simp at h
  split at h
  ·rename_i h3; rw [if_pos h3]; exact h
  ·rename_i h2 h3
   rw [if_neg h3]
   exact ih (n+1) (by omega) (by omega) h ht hc
theorem next_short (m:List Nat) (l:List Bool) (c s p:Nat):∀k n,n+k<=15->n<=l.length->PH.nextFrom m l k n=(c,0,s)->n<=p->p<c->(PH.nextFrom m (l.take p) k n).2.1=4:=by
 intro k
 induction k with
 | zero=>intro n _ _ h; simp [PH.nextFrom] at h
 | succ k ih =>
  intro n h15 hn h hp hpc
  rw [PH.nextFrom]
  by_cases hpn:p=n
  ·rw [if_pos (by rw [List.length_take]; omega)]
  ·rw [PH.nextFrom] at h
   split at h
   ·simp at h
   rename_i h2
   rw [if_neg (by rw [List.length_take]; omega),List.take_take,Nat.min_eq_left (by omega)]
   split at h
   ·simp only [Prod.mk.injEq] at h; omega
   ·rename_i h3
    rw [if_neg h3]
    exact ih (n+1) (by omega) (by omega) h (by omega) hpc
theorem Fine.sign (m:List Nat):Fine a o (fun B _=>PI.sign B m a) (fun r=>r.1) (fun _=>o):=by
 refine⟨fun B most ha h0 e h=>?_,fun B most ha h0 z h=>?_,fun B most ha h0 z h B' most' ht hl hm=>?_,fun B most ha h0 z h p h1 h2=>?_,fun B most ha h0 z h m h1 h2=>?_⟩
 ·rcases sign_err h with h | h
  ·exact .inr (.inl h)
  ·exact .inr (.inr (.inl h))
 ·obtain⟨h1,h2⟩:=sign_ok ha h
  exact⟨by show a<=z.1; omega,h2,Nat.le_refl _,h0⟩
 ·obtain⟨h3,h4⟩:=sign_ok ha h
  have ht' : B'.take z.1=B.take z.1:=ht
  have hl' : z.1<=B'.length:=hl
  show PI.sign B' m a=_
  have h5:PI.sign B m a=.ok z:=h
  unfold PI.sign at h5
  obtain⟨⟨c,ee,s⟩,hr⟩:∃r,PH.nextFrom m (B.drop a) (mostN m) 0=r:=⟨_,rfl⟩
  rw [hr] at h5
  simp only at h5
  split at h5
  ·rename_i h0e
   subst h0e
   cases h5
   have hl2:a+c<=B'.length:=hl'
   have ht2:B'.take (a+c)=B.take (a+c):=ht'
   have e:=next_ext m (B.drop a) (B'.drop a) c s (mostN m) 0 (by have:=mostN_le m; omega) (Nat.zero_le _) hr (by rw [List.take_drop,List.take_drop,ht2]) (by rw [List.length_drop]; omega)
   unfold PI.sign
   rw [e]
   rfl
  ·cases h5
 ·have h5:PI.sign B m a=.ok z:=h
  have h2' : p<z.1:=h2
  show PI.sign (B.take p) m a=_
  unfold PI.sign at h5
  obtain⟨⟨c,ee,s⟩,hr⟩:∃r,PH.nextFrom m (B.drop a) (mostN m) 0=r:=⟨_,rfl⟩
  rw [hr] at h5
  simp only at h5
  split at h5
  ·rename_i h0e
   subst h0e
   cases h5
   have h2q:p<a+c:=h2'
   have e:=next_short m (B.drop a) c s (p - a) (mostN m) 0 (by have:=mostN_le m; omega) (Nat.zero_le _) hr (Nat.zero_le _) (by omega)
   have e2:(B.take p).drop a=(B.drop a).take (p - a):=by rw [List.drop_take]
   unfold PI.sign
   rw [e2,e]
   rfl
  ·cases h5
 ·have h2' : m<o:=h2
  omega
theorem Fine.count (t:List (Nat × Nat)) (s:Nat):Fine a o (fun B _=>PI.count B t s a) (fun r=>r.1) (fun _=>o):=by
 unfold PI.count
 refine Fine.ite (fun _=>?_) (fun _=>Fine.error 20 _ _ (.inr (.inr (.inl rfl))))
 exact Fine.bind (Fine.number a _ (Nat.le_refl _)) fun y=>Fine.ok _ _ _ rfl rfl
theorem Fine.length (s:Nat):Fine a o (fun B _=>PI.length B s a) (fun r=>r.1) (fun _=>o):=by
 unfold PI.length
 exact Fine.ite (fun _=>Fine.ok _ _ _ rfl rfl) (fun _=>Fine.count _ _)
theorem Fine.stepP (m d:List Nat) (out:List UInt8) (ho:out.length=o):Fine a o (fun B most=>PI.stepP B most m d a out) (fun r=>r.2.1) (fun r=>r.2.2.length):=by
 subst ho
 unfold PI.stepP
 refine Fine.bind (Fine.sign m) fun r=>?_
 refine Fine.ite (fun _=>Fine.ok _ _ _ rfl rfl) fun _=>?_
 refine Fine.ite (fun _=>Fine.room 1 _ _ _ rfl (by simp)) fun _=>?_
 refine Fine.bind (Fine.length _) fun n=>?_
 refine Fine.bind (Fine.sign d) fun t=>?_
 refine Fine.bind (Fine.count _ _) fun k=>?_
 refine Fine.ite (fun _=>Fine.error 20 _ _ (.inr (.inr (.inl rfl)))) fun _=>?_
 exact Fine.room n.2 _ _ _ rfl (copy_len _ _ _)
theorem Fine.pressedF (m d:List Nat):∀(f a:Nat) (out:List UInt8),Fine a out.length (fun B most=>PI.pressed B most m d f a out) (fun r=>r.1) (fun r=>r.2.length):=by
 intro f
 induction f with
 | zero=>intro a out; exact Fine.error 0 _ _ (.inl rfl)
 | succ f ih =>
  intro a out
  unfold PI.pressed
  refine Fine.bind (Fine.stepP m d out rfl) fun r=>?_
  exact Fine.ite (fun _=>Fine.ok _ _ _ rfl rfl) fun _=>ih _ _
theorem Fine.fuel {F:Nat->List Bool->Nat->Except Nat Y} {p2 o2:Y->Nat} (h:∀f,Fine a o (F f) p2 o2)
  (more:∀f g B most,a<=B.length->o<=most->B.length<a+f->B.length<a+g->F f B most=F g B most):Fine a o (fun B most=>F (B.length+1) B most) p2 o2:=by
 refine⟨fun B most ha h0 e k=>(h _).err B most ha h0 e k,fun B most ha h0 z k=>(h _).pos B most ha h0 z k,fun B most ha h0 z k B' most' ht hl hm=>?_,fun B most ha h0 z k p h1 h2=>?_,fun B most ha h0 z k m h1 h2=>(h _).cap B most ha h0 z k m h1 h2⟩
 ·obtain⟨q1,q2,q3,q4⟩:=(h _).pos B most ha h0 z k
  have e1:=more (B.length+1) (B.length+B'.length+1) B most ha h0 (by omega) (by omega)
  have e2:=(h (B.length+B'.length+1)).ext B most ha h0 z (by rw [<- e1]; exact k) B' most' ht hl hm
  show F (B'.length+1) B' most'=_
  rw [more (B'.length+1) (B.length+B'.length+1) B' most' (by omega) (by omega) (by omega) (by omega)]
  exact e2
 ·obtain⟨q1,q2,q3,q4⟩:=(h _).pos B most ha h0 z k
  have hlp:(B.take p).length=p:=by rw [List.length_take]; omega
  have e2:=(h (B.length+1)).short B most ha h0 z k p h1 h2
  show F ((B.take p).length+1) (B.take p) most=_
  rw [more ((B.take p).length+1) (B.length+1) (B.take p) most (by omega) h0 (by omega) (by omega)]
  exact e2
theorem Fine.pressed (m d:List Nat) (out:List UInt8) (ho:out.length=o):Fine a o (fun B most=>PI.pressed B most m d (B.length+1) a out) (fun r=>r.1) (fun r=>r.2.length):=by
 subst ho
 exact Fine.fuel (F:=fun f B most=>PI.pressed B most m d f a out) (fun f=>Fine.pressedF m d f a out) (fun f g B most h1 _ h2 h3=>pressed_more f g a out h1 h2 h3)
theorem Fine.fill (many:Nat) (acc:List Nat) (v k:Nat):Fine a o (fun _ _=>PI.fill many acc v k a) (fun r=>r.1) (fun _=>o):=by
 unfold PI.fill
 exact Fine.ite (fun _=>Fine.error 20 _ _ (.inr (.inr (.inl rfl)))) (fun _=>Fine.ok _ _ _ rfl rfl)
theorem Fine.stepL (m:List Nat) (many:Nat) (acc:List Nat):Fine a o (fun B _=>PI.stepL B m many a acc) (fun r=>r.1) (fun _=>o):=by
 unfold PI.stepL
 refine Fine.bind (Fine.sign m) fun r=>?_
 refine Fine.ite (fun _=>Fine.ite (fun _=>Fine.error 20 _ _ (.inr (.inr (.inl rfl)))) fun _=>?_) fun _=>?_
 ·exact Fine.bind (Fine.number _ _ (Nat.le_refl _)) fun n=>Fine.fill _ _ _ _
 refine Fine.ite (fun _=>?_) fun _=>?_
 ·exact Fine.bind (Fine.number _ _ (Nat.le_refl _)) fun n=>Fine.fill _ _ _ _
 refine Fine.ite (fun _=>?_) fun _=>Fine.fill _ _ _ _
 ·exact Fine.bind (Fine.number _ _ (Nat.le_refl _)) fun n=>Fine.fill _ _ _ _
theorem Fine.lens (m:List Nat) (many:Nat):∀(f a:Nat) (acc:List Nat),Fine a o (fun B _=>PI.lens B m many f a acc) (fun r=>r.1) (fun _=>o):=by
 intro f
 induction f with
 | zero=>intro a acc; exact Fine.error 0 _ _ (.inl rfl)
 | succ f ih =>
  intro a acc
  unfold PI.lens
  refine Fine.ite (fun _=>?_) fun _=>Fine.ok _ _ _ rfl rfl
  exact Fine.bind (Fine.stepL m many acc) fun r=>ih _ _
theorem Fine.firsts:∀(l:List Nat) (a:Nat) (f:List Nat),Fine a o (fun B _=>PI.firsts B l a f) (fun r=>r.1) (fun _=>o):=by
 intro l
 induction l with
 | nil=>intro a f; exact Fine.ok _ _ _ rfl rfl
 | cons s l ih =>
  intro a f
  unfold PI.firsts
  exact Fine.bind (Fine.number _ _ (Nat.le_refl _)) fun r=>ih _ _
theorem Fine.dynamic:Fine a o (fun B _=>PI.dynamic B a) (fun r=>r.1) (fun _=>o):=by
 unfold PI.dynamic
 have e20:Er 20:=.inr (.inr (.inl rfl))
 refine Fine.bind (Fine.number _ _ (Nat.le_refl _)) fun l=>?_
 refine Fine.bind (Fine.number _ _ (Nat.le_refl _)) fun d=>?_
 refine Fine.bind (Fine.number _ _ (Nat.le_refl _)) fun c=>?_
 refine Fine.ite (fun _=>Fine.error 20 _ _ e20) fun _=>?_
 refine Fine.bind (Fine.firsts _ _ _) fun f=>?_
 refine Fine.ite (fun _=>?_) fun _=>Fine.error 20 _ _ e20
 refine Fine.bind (Fine.lens _ _ _ _ _) fun r=>?_
 refine Fine.ite (fun _=>Fine.error 20 _ _ e20) fun _=>?_
 refine Fine.ite (fun _=>?_) fun _=>Fine.error 20 _ _ e20
 exact Fine.ite (fun _=>Fine.ok _ _ _ rfl rfl) fun _=>Fine.error 20 _ _ e20
theorem bytesAt_len (B:List Bool) (a n:Nat):(bytesAt B a n).length=n:=by simp [bytesAt]
theorem bytesAt_ext {B B' : List Bool} {a n:Nat} (h:B'.take (a+8 * n)=B.take (a+8 * n)):bytesAt B' a n=bytesAt B a n:=by
 unfold bytesAt
 refine List.map_congr_left fun i hi=>?_
 have hi:=List.mem_range.1 hi
 have e:=take_less h (p:=a+8 * i+8) (by omega)
 unfold numAt
 rw [List.take_drop,List.take_drop,e]
theorem Fine.laid (n:Nat) (out:List UInt8) (ho:out.length=o):Fine a o (fun B most=>if (B.length - a) / 8<n then (if most - out.length<(B.length - a) / 8 then .error 22 else .error 4) else
  if most - out.length<n then .error 22 else .ok (a+8 * n,out++bytesAt B a n)) (fun r=>r.1) (fun r=>r.2.length):=by
 subst ho
 refine⟨fun B most ha h0 e h=>?_,fun B most ha h0 z h=>?_,fun B most ha h0 z h B' most' ht hl hm=>?_,fun B most ha h0 z h p h1 h2=>?_,fun B most ha h0 z h m h1 h2=>?_⟩
 ·skip
  split at h
  ·split at h <;> cases h
   ·exact .inr (.inr (.inr rfl))
   ·exact .inr (.inl rfl)
  ·split at h <;> cases h
   exact .inr (.inr (.inr rfl))
 ·skip
  split at h
  ·split at h <;> cases h
  ·split at h <;> cases h
   simp only [List.length_append,bytesAt_len]
   omega
 ·skip
  split at h
  ·split at h <;> cases h
  ·split at h <;> cases h
   simp only [List.length_append,bytesAt_len] at hm hl ht
   rw [if_neg (by omega),if_neg (by omega),bytesAt_ext ht]
 ·skip
  split at h
  ·split at h <;> cases h
  ·split at h <;> cases h
   simp only at h2
   have hlp:(B.take p).length=p:=by rw [List.length_take]; omega
   rw [hlp,if_pos (by omega),if_neg (by omega)]
 ·skip
  split at h
  ·split at h <;> cases h
  ·split at h <;> cases h
   simp only [List.length_append,bytesAt_len] at h2
   rw [if_neg (by omega),if_pos (by omega)]
theorem Fine.stored (out:List UInt8) (ho:out.length=o):Fine a o (fun B most=>PI.stored B most a out) (fun r=>r.1) (fun r=>r.2.length):=by
 unfold PI.stored
 refine Fine.bind (Fine.number _ _ (by omega)) fun n=>?_
 refine Fine.bind (Fine.number _ _ (Nat.le_refl _)) fun k=>?_
 refine Fine.ite (fun _=>Fine.error 20 _ _ (.inr (.inr (.inl rfl)))) fun _=>?_
 exact Fine.laid n.2 out ho
theorem Fine.body (kind:Nat) (out:List UInt8) (ho:out.length=o):Fine a o (fun B most=>PI.body B most kind a out) (fun r=>r.1) (fun r=>r.2.length):=by
 unfold PI.body
 refine Fine.ite (fun _=>Fine.stored out ho) fun _=>?_
 refine Fine.ite (fun _=>Fine.pressed _ _ out ho) fun _=>?_
 refine Fine.ite (fun _=>?_) fun _=>Fine.error 20 _ _ (.inr (.inr (.inl rfl)))
 exact Fine.bind Fine.dynamic fun r=>Fine.pressed _ _ out ho
theorem Fine.block (out:List UInt8) (ho:out.length=o):Fine a o (fun B most=>PI.block B most a out) (fun r=>r.2.2.1) (fun r=>r.2.2.2.length):=by
 unfold PI.block
 refine Fine.bind (Fine.number _ _ (Nat.le_refl _)) fun l=>?_
 refine Fine.bind (Fine.number _ _ (Nat.le_refl _)) fun k=>?_
 refine Fine.bind (Fine.body _ out ho) fun r=>?_
 exact Fine.ok _ _ _ rfl rfl
theorem Fine.blocksF:∀(f a:Nat) (out:List UInt8) (bl:List Blk),Fine a out.length (fun B most=>PI.blocks B most f a out bl) (fun r=>r.1) (fun r=>r.2.1.length):=by
 intro f
 induction f with
 | zero=>intro a out bl; exact Fine.error 0 _ _ (.inl rfl)
 | succ f ih =>
  intro a out bl
  unfold PI.blocks
  refine Fine.bind (Fine.block out rfl) fun r=>?_
  exact Fine.ite (fun _=>Fine.ok _ _ _ rfl rfl) fun _=>ih _ _ _
theorem block_ok {B:List Bool} {most a:Nat} {out:List UInt8} {r:Bool × Nat × Nat × List UInt8} (ho:out.length<=most) (h:PI.block B most a out=.ok r):a<r.2.2.1/\r.2.2.1<=B.length/\r.2.2.2.length<=most/\out.length<=r.2.2.2.length:=by
 unfold PI.block at h
 obtain⟨l,hl,h⟩:=bind_ok h
 obtain⟨k,hk,h⟩:=bind_ok h
 obtain⟨b,hb,h⟩:=bind_ok h
 obtain⟨rfl,h1⟩:=number_ok hl
 obtain⟨rfl,h2⟩:=number_ok hk
 obtain⟨q1,q2,q3,q4⟩:=(Fine.body (a:=a+1+2) (o:=out.length) (PI.numAt B (a+1) 2) out rfl).pos B most h2 ho b hb
 cases h
 exact⟨by show a<b.1; omega,q2,q4,q3⟩
theorem blocks_more {B:List Bool} {most:Nat} : ∀(f g a:Nat) (out:List UInt8) (bl:List Blk),a<=B.length->out.length<=most->B.length<a+f->B.length<a+g->PI.blocks B most f a out bl=PI.blocks B most g a out bl:=by
 intro f
 induction f with
 | zero=>intro g a out bl h1 ho h2; omega
 | succ f ih =>
  intro g a out bl h1 ho h2 h3
  cases g with
  | zero=>omega
  | succ g =>
   rw [PI.blocks,PI.blocks]
   cases hs:PI.block B most a out with
   | error e=>rfl
   | ok r =>
    obtain⟨h4,h5,h6,h7⟩:=block_ok ho hs
    show(if r.1 then _ else _)=(if r.1 then _ else _)
    split
    ·rfl
    ·exact ih g _ _ _ h5 h6 (by omega) (by omega)
theorem Fine.all:Fine 0 0 (fun B most=>PI.all B most) (fun r=>r.1) (fun r=>r.2.1.length) :=
 Fine.fuel (F:=fun f B most=>PI.blocks B most f 0 [] []) (fun f=>Fine.blocksF f 0 [] []) (fun f g B most h1 h2 h3 h4=>blocks_more f g 0 [] [] h1 h2 h3 h4)
/-! Never out of rounds. -/
theorem no0 {α β:Type} {x:Except Nat α} {f:α->Except Nat β} (hx:x≠.error 0) (hf:∀a,x=.ok a->f a≠.error 0):x.bind f≠.error 0:=by
 cases x with
 | error e=>exact fun h=>hx (by cases h; rfl)
 | ok a=>exact hf a rfl
theorem number_no0 (B:List Bool) (a k:Nat):PI.number B a k≠.error 0:=fun h=>by have:=(number_err h).1; omega
theorem sign_no0 (B:List Bool) (m:List Nat) (a:Nat):PI.sign B m a≠.error 0:=fun h=>by have:=sign_err h; omega
theorem count_no0 (B:List Bool) (t:List (Nat × Nat)) (s a:Nat):PI.count B t s a≠.error 0:=by
 unfold PI.count
 split
 ·exact no0 (number_no0 _ _ _) fun _ _ h=>by cases h
 ·intro h; cases h
theorem stepP_no0 (B:List Bool) (most:Nat) (m d:List Nat) (a:Nat) (out:List UInt8):PI.stepP B most m d a out≠.error 0:=by
 unfold PI.stepP
 refine no0 (sign_no0 _ _ _) fun r _=>?_
 split
 ·intro h; cases h
 split
 ·split <;> (intro h; cases h)
 refine no0 ?_ fun n _=>no0 (sign_no0 _ _ _) fun t _=>no0 (count_no0 _ _ _ _) fun k _=>?_
 ·unfold PI.length
  split
  ·intro h; cases h
  ·exact count_no0 _ _ _ _
 ·split
  ·intro h; cases h
  ·split <;> (intro h; cases h)
theorem pressed_no0 {B:List Bool} {most:Nat} {m d:List Nat} : ∀(f a:Nat) (out:List UInt8),a<=B.length->B.length<a+f->PI.pressed B most m d f a out≠.error 0:=by
 intro f
 induction f with
 | zero=>intro a out h1 h2; omega
 | succ f ih =>
  intro a out h1 h2
  rw [PI.pressed]
  refine no0 (stepP_no0 _ _ _ _ _ _) fun r hr=>?_
  obtain⟨h4,h5,_⟩:=stepP_ok h1 hr
  split
  ·intro h; cases h
  ·exact ih _ _ h5 (by omega)
theorem fill_no0 (many:Nat) (acc:List Nat) (v k a:Nat):PI.fill many acc v k a≠.error 0:=by
 unfold PI.fill
 split <;> (intro h; cases h)
theorem stepL_no0 (B:List Bool) (m:List Nat) (many a:Nat) (acc:List Nat):PI.stepL B m many a acc≠.error 0:=by
 unfold PI.stepL
 refine no0 (sign_no0 _ _ _) fun r _=>?_
 split
 ·split
  ·intro h; cases h
  ·exact no0 (number_no0 _ _ _) fun _ _=>fill_no0 _ _ _ _ _
 split
 ·exact no0 (number_no0 _ _ _) fun _ _=>fill_no0 _ _ _ _ _
 split
 ·exact no0 (number_no0 _ _ _) fun _ _=>fill_no0 _ _ _ _ _
 ·exact fill_no0 _ _ _ _ _
theorem stepL_ok {B:List Bool} {m:List Nat} {many a:Nat} {acc:List Nat} {r:Nat × List Nat} (ha:a<=B.length) (hm:acc.length<many) (h:PI.stepL B m many a acc=.ok r):a<r.1/\r.1<=B.length/\acc.length<r.2.length/\r.2.length<=many:=by
 unfold PI.stepL at h
 obtain⟨s,hs,h⟩:=bind_ok h
 obtain⟨h1,h2⟩:=sign_ok ha hs
 split at h
 ·split at h
  ·cases h
  ·obtain⟨n,hn,h⟩:=bind_ok h
   obtain⟨rfl,h3⟩:=number_ok hn
   obtain⟨h4,h5,h6⟩:=fill_ok h (by omega) hm
   rw [h4]
   exact⟨by show a<s.1+2; omega,h3,h5,h6⟩
 split at h
 ·obtain⟨n,hn,h⟩:=bind_ok h
  obtain⟨rfl,h3⟩:=number_ok hn
  obtain⟨h4,h5,h6⟩:=fill_ok h (by omega) hm
  rw [h4]
  exact⟨by show a<s.1+3; omega,h3,h5,h6⟩
 split at h
 ·obtain⟨n,hn,h⟩:=bind_ok h
  obtain⟨rfl,h3⟩:=number_ok hn
  obtain⟨h4,h5,h6⟩:=fill_ok h (by omega) hm
  rw [h4]
  exact⟨by show a<s.1+7; omega,h3,h5,h6⟩
 ·obtain⟨h4,h5,h6⟩:=fill_ok h (by omega) hm
  rw [h4]
  exact⟨h1,h2,h5,h6⟩
theorem lens_no0 {B:List Bool} {m:List Nat} {many:Nat} : ∀(f a:Nat) (acc:List Nat),a<=B.length->acc.length<=many->many<acc.length+f->PI.lens B m many f a acc≠.error 0:=by
 intro f
 induction f with
 | zero=>intro a acc h1 h2 h3; omega
 | succ f ih =>
  intro a acc h1 h0 h2
  rw [PI.lens]
  split
  ·rename_i h3
   refine no0 (stepL_no0 _ _ _ _ _) fun r hr=>?_
   obtain⟨h4,h5,h6,h7⟩:=stepL_ok h1 h3 hr
   exact ih _ _ h5 h7 (by omega)
  ·intro h; cases h
theorem firsts_no0 (B:List Bool):∀(l:List Nat) (a:Nat) (f:List Nat),PI.firsts B l a f≠.error 0:=by
 intro l
 induction l with
 | nil=>intro a f h; cases h
 | cons s l ih=>intro a f; rw [PI.firsts]; exact no0 (number_no0 _ _ _) fun r _=>ih _ _
theorem dynamic_no0 (B:List Bool) (a:Nat) (ha:a<=B.length):PI.dynamic B a≠.error 0:=by
 unfold PI.dynamic
 refine no0 (number_no0 _ _ _) fun l hl=>no0 (number_no0 _ _ _) fun d hd=>no0 (number_no0 _ _ _) fun c hc=>?_
 split
 ·intro h; cases h
 refine no0 (firsts_no0 _ _ _ _) fun f hf=>?_
 obtain⟨_,h1⟩:=number_ok hc
 have h2:=((Fine.firsts (o:=0) (orderT.take (c.2+4)) c.1 (List.replicate 19 0)).pos B 0 (by rw [(number_ok hc).1]; exact h1) (Nat.le_refl _) f hf).2.1
 split
 ·refine no0 (lens_no0 _ _ _ h2 (Nat.zero_le _) (by simp)) fun r _=>?_
  split
  ·intro h; cases h
  split
  ·split <;> (intro h; cases h)
  ·intro h; cases h
 ·intro h; cases h
theorem body_no0 (B:List Bool) (most kind a:Nat) (out:List UInt8) (ha:a<=B.length):PI.body B most kind a out≠.error 0:=by
 unfold PI.body
 split
 ·unfold PI.stored
  refine no0 (number_no0 _ _ _) fun n _=>no0 (number_no0 _ _ _) fun k _=>?_
  split
  ·intro h; cases h
  split
  ·split <;> (intro h; cases h)
  ·split <;> (intro h; cases h)
 split
 ·exact pressed_no0 _ _ _ ha (by omega)
 split
 ·refine no0 (dynamic_no0 _ _ ha) fun r hr=>?_
  exact pressed_no0 _ _ _ ((Fine.dynamic (o:=0)).pos B 0 ha (Nat.le_refl _) r hr).2.1 (by omega)
 ·intro h; cases h
theorem block_no0 (B:List Bool) (most a:Nat) (out:List UInt8):PI.block B most a out≠.error 0:=by
 unfold PI.block
 refine no0 (number_no0 _ _ _) fun l _=>no0 (number_no0 _ _ _) fun k hk=>no0 (body_no0 _ _ _ _ _ ?_) fun r _ h=>by cases h
 obtain⟨h1,h2⟩:=number_ok hk
 rw [h1]; exact h2
theorem blocks_no0 {B:List Bool} {most:Nat} : ∀(f a:Nat) (out:List UInt8) (bl:List Blk),a<=B.length->out.length<=most->B.length<a+f->PI.blocks B most f a out bl≠.error 0:=by
 intro f
 induction f with
 | zero=>intro a out bl h1 ho h2; omega
 | succ f ih =>
  intro a out bl h1 ho h2
  rw [PI.blocks]
  refine no0 (block_no0 _ _ _ _) fun r hr=>?_
  obtain⟨h4,h5,h6,h7⟩:=block_ok ho hr
  split
  ·intro h; cases h
  ·exact ih _ _ _ h5 h6 (by omega)
theorem all_err {B:List Bool} {most e:Nat} (h:PI.all B most=.error e):e=4∨e=20∨e=22:=by
 have h1:=(Fine.all).err B most (Nat.zero_le _) (Nat.zero_le _) e h
 rcases h1 with rfl | h1
 ·exact absurd h (blocks_no0 _ _ _ _ (Nat.zero_le _) (Nat.zero_le _) (by omega))
 ·exact h1
end
end PI
end Go.Proofs.YtloijdbkikccgaaGreatDoor

