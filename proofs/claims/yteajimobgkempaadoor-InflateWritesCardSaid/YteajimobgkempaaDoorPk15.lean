/- A pack. -/
import Derived.Test.YteajimobgkempaaDoorPk14
set_option linter.all false
set_option maxRecDepth 100000
set_option maxHeartbeats 8000000
namespace Go.Proofs.YteajimobgkempaaDoor
variable {w0 w:World} {L:List Pr}
open Go.RowKit
namespace PBits
theorem le_drop (l:List UInt8) (q:Nat):le (l.drop q)=le l / 256 ^ q:=by
 by_cases h:q<=l.length
 ·conv=>rhs; rw [<- List.take_append_drop q l,le_append]
  have a:=le_lt (l.take q);have b:(l.take q).length=q:=by simp [h]
  rw [b] at a ⊢;rw [Nat.add_mul_div_left _ _ (Nat.pow_pos (by decide)),Nat.div_eq_of_lt a,Nat.zero_add]
 ·rw [List.drop_eq_nil_of_le (by omega)];have a:=le_lt l;rw [Nat.div_eq_of_lt (Nat.lt_of_lt_of_le a (Nat.pow_le_pow_right (by decide) (by omega)))];rfl
theorem le_byte (l:List UInt8) (i:Nat):le l / 256 ^ i % 256=(l.getD i 0).toNat:=by
 rw [<- le_drop];by_cases h:i<l.length
 ·rw [List.drop_eq_getElem_cons h,le,List.getD_eq_getElem?_getD,List.getElem?_eq_getElem h];have:=l[i].toNat_lt;simp only [Option.getD_some];omega
 ·rw [List.drop_eq_nil_of_le (by omega),List.getD_eq_getElem?_getD,List.getElem?_eq_none (by omega)];rfl
theorem mod_next (R k:Nat):R % 256 ^ (k+1)=R % 256 ^ k+256 ^ k * (R / 256 ^ k % 256):=by
 rw [Nat.pow_succ,Nat.mod_mul]
def peek (l:List UInt8) (at_ k:Nat):Nat:=le l / 2 ^ at_ % 2 ^ k
theorem peek_of (l:List UInt8) (at_ k K:Nat) (hK:k+7<=8 * K):(le l / 256 ^ (at_ / 8)) % 256 ^ K / 2 ^ (at_ % 8) % 2 ^ k=peek l at_ k:=by
 unfold peek;have a:(256:Nat) ^ K=2 ^ (at_ % 8) * (2 ^ k * 2 ^ (8 * K - k - at_ % 8)):=by
  rw [show(256:Nat)=2 ^ 8 by decide,<- Nat.pow_mul,<- Nat.pow_add,<- Nat.pow_add];congr 1; omega
 have b:(256:Nat) ^ (at_ / 8) * 2 ^ (at_ % 8)=2 ^ at_:=by
  rw [show(256:Nat)=2 ^ 8 by decide,<- Nat.pow_mul,<- Nat.pow_add];congr 1; omega
 rw [a,Nat.mod_mul_right_div_self,Nat.mod_mul_right_mod,Nat.div_div_eq_div_mul,b]
end PBits
def RrB (g:Nat) (v:Value) (at_:Nat):Pr:=Bk g 144 [v,.int .i64 at_,.bool true]
def Rr (g:Nat) (l:List UInt8) (at_:Nat):Pr:=Ex fun v:Value=>Star (RrB g v at_) (Row 5 1 v l.length (cells8 l))
theorem Zu (g:Nat) (w:World) (c2:w.cell? ⟨g,2,none⟩=some (.bool true)) :
  Calls Tryd.prog 63 #[.pointer (some ⟨g,0,none⟩)] w fun e w'=>e=.returned (.bool false)/\w=w':=by
 go_enter Tryd.func63,Tryd.ntmps63
 go_wp2;go_ret;exact⟨rfl,rfl⟩
theorem YL (g:Nat) (m:Int) (w:World) (c2:w.cell? ⟨g,2,none⟩=some (.bool true)) (h0:0<=m) (h1:m<=57) :
  Calls Tryd.prog 143 #[.func (.func 63) #[.pointer (some ⟨g,0,none⟩)] #[],.int .i64 m,.bool true] w fun e w'=>e=.returned (.int .i64 0)/\w=w':=by
 go_enter Tryd.func143,Tryd.ntmps143
 go_wp2_with fail
 refine(Zu g _ c2).mono ?_;rintro e a ⟨rfl,rfl⟩;have b:¬ (57:Int)<m:=by omega
 have c:¬ m<0:=by omega
 go_wp2;go_ret;exact⟨rfl,rfl⟩
theorem YX {v:Value} {l:List UInt8} (H:Sp w0 L w) (hb:Byt w v l) (hl:l.length<=1000000000) :
  Calls Tryd.prog 61 #[v] w (Ret fun u w'=>∃g,u=.pointer (some ⟨g,0,none⟩)/\Sp w0 (Rr g l 0::L) w'):=by
 obtain⟨A,c,rfl,a,f,h⟩:=id hb;have i:=hid a;clear a;go_enter Tryd.func61,Tryd.ntmps61
 go_wp2_with fail
 refine(YG H hb hl).mono ?_;rintro e j ⟨u,rfl,H⟩;obtain⟨b,d,ev,_,_⟩:=Row.form H 0 rfl;subst ev;go_wp2;go_ret;exact⟨_,rfl,_,rfl,Sp.ex (.slice b l.length d) (Sp.star (H.newBk _ _))⟩
theorem Zo {g at_:Nat} {l:List UInt8} (H:Sp w0 (Rr g l at_::L) w) :
  ∃A c,Sp w0 (RrB g (.slice A l.length c) at_::Row 5 1 (.slice A l.length c) l.length (cells8 l)::L) w/\Byt w (.slice A l.length c) l /\
   w.cell? ⟨g,0,none⟩=some (.slice A l.length c)/\w.cell? ⟨g,1,none⟩=some (.int .i64 at_)/\w.cell? ⟨g,2,none⟩=some (.bool true):=by
 obtain⟨v,H⟩:=H.unex;replace H:=H.unstar;obtain⟨A,c,rfl,_,_⟩:=Row.form H 1 rfl;exact⟨A,c,H,H.row_byt 1 rfl,H.cell 0 rfl 0,H.cell 0 rfl 1,H.cell 0 rfl 2⟩
theorem Yi (g:Nat) (l:List UInt8) (at_:Nat) (H:Sp w0 (Rr g l at_::L) w) (ha:at_<=8 * l.length) (hl:l.length<=1000000000) :
  Calls Tryd.prog 132 #[.pointer (some ⟨g,0,none⟩)] w fun e w'=>e=.returned (.int .i64 ((8 * l.length - at_:Nat):Int))/\Keep w w':=by
 obtain⟨A,c,_,_,b,f,d⟩:=Zo H;clear H;obtain⟨n,a⟩:=exq l.length;rw [a] at b ha hl ⊢;clear a;have h:(at_:Int)<=8 * n:=by omega
 go_enter Tryd.func132,Tryd.ntmps132
 go_wp2_with fail
 refine(Zu g _ d).mono ?_;rintro e i ⟨rfl,rfl⟩;go_wp2;go_quiet (fail)
 go_wp2;go_ret;exact⟨Yc (by omega),Keep.drewN _ _⟩
theorem VJ (g:Nat) (at_:Nat) {w:World} (c1:w.cell? ⟨g,1,none⟩=some (.int .i64 at_)) (c2:w.cell? ⟨g,2,none⟩=some (.bool true)) :
  Calls Tryd.prog 37 #[.pointer (some ⟨g,0,none⟩)] w fun e w'=>e=.returned (.int .i64 at_)/\w=w':=by
 go_enter Tryd.func37,Tryd.ntmps37
 go_wp2_with fail
 refine(Zu g _ c2).mono ?_;rintro e a ⟨rfl,rfl⟩;go_wp2;go_ret;exact⟨rfl,rfl⟩
theorem Vk (g:Nat) (l:List UInt8) (at_ k:Nat) (H:Sp w0 (Rr g l at_::L) w) (ha:at_+k<=8 * l.length) (hk:k<=57) (hl:l.length<=1000000000) :
  Calls Tryd.prog 154 #[.pointer (some ⟨g,0,none⟩),.int .i64 k] w fun e w'=>e=.returned (.int .i64 0)/\Sp w0 (Rr g l (at_+k)::L) w':=by
 obtain⟨_,_,_,_,_,_,a⟩:=Zo H;go_enter Tryd.func154,Tryd.ntmps154
 go_wp2_with fail
 refine(YL g k _ a (by omega) (by omega)).mono ?_;rintro e b ⟨rfl,rfl⟩;go_wp2_with fail
 refine(Yi g l at_ H (by omega) hl).mono ?_;rintro e b ⟨rfl,d⟩;replace H:=d.sep H;clear d a;obtain⟨A,c,H,_,f,h,a⟩:=Zo H;have i:b.frozen? ⟨g,1,none⟩=false:=H.frozen 0 rfl 1;have j:¬ ((8 * l.length - at_:Nat):Int)<k:=by omega
 have m:(at_:Int)<=9000000000:=by omega
 go_wp2;go_ret;refine⟨rfl,Sp.ex (.slice A l.length c) (Sp.star ?_)⟩;have:=H.set 1 (.int .i64 ((at_:Int)+k));unfold RrB;rw [Int.natCast_add];exact this
theorem XK (g:Nat) (l:List UInt8) (at_ k:Nat) (H:Sp w0 (Rr g l at_::L) w) (ha:at_<=8 * l.length) (hs:8 * l.length<at_+k) (hk:k<=57) (hl:l.length<=1000000000) :
  Calls Tryd.prog 154 #[.pointer (some ⟨g,0,none⟩),.int .i64 k] w fun e w'=>e=.returned (.int .i64 4)/\Keep w w':=by
 obtain⟨_,_,_,_,_,_,a⟩:=Zo H;go_enter Tryd.func154,Tryd.ntmps154
 go_wp2_with fail
 refine(YL g k _ a (by omega) (by omega)).mono ?_;rintro e b ⟨rfl,rfl⟩;go_wp2_with fail
 refine(Yi g l at_ H (by omega) hl).mono ?_;rintro e b ⟨rfl,c⟩;have d:((8 * l.length - at_:Nat):Int)<k:=by omega
 go_wp2;go_ret;exact⟨rfl,c⟩
theorem p256 (j:Nat):(256:Nat) ^ j=2 ^ (8 * j):=by rw [show(256:Nat)=2 ^ 8 by decide,<- Nat.pow_mul]
theorem X8 (R j b:Nat) (hj:j<=7) (hb:b=R / 256 ^ j % 256) :
  bits .or .u64 ((R:Int) % 256 ^ j) (IntKind.u64.wrap ((b:Int) * 2 ^ (8 * j)))=((R % 256 ^ (j+1):Nat):Int):=by
 have d:b<256:=by rw [hb]; exact Nat.mod_lt _ (by decide)
 have e:((R:Int) % 256 ^ j)=((R % 256 ^ j:Nat):Int):=by simp
 have f:R % 256 ^ j<2 ^ (8 * j):=by rw [<- p256]; exact Nat.mod_lt _ (Nat.pow_pos (by decide))
 have a:(2:Nat) ^ (8 * j)<=72057594037927936:=Nat.pow_le_pow_right (n:=2) (by decide) (show 8 * j<=56 by omega);have c:b * 2 ^ (8 * j)<18446744073709551616:=by
  have:=Nat.mul_le_mul (show b<=255 by omega) a;omega
 have g:IntKind.u64.wrap ((b:Int) * 2 ^ (8 * j))=((b * 2 ^ (8 * j):Nat):Int):=by
  rw [show((b:Int) * 2 ^ (8 * j))=((b * 2 ^ (8 * j):Nat):Int) by simp,IntKind.wrap_u64];generalize b * 2 ^ (8 * j)=y at c;omega
 rw [e,g,u64_or_nat _ _ (by omega) c,Nat.mul_comm b,Nat.or_comm,<- Nat.two_pow_add_eq_or_of_lt f,PBits.mod_next,<- hb,p256,Nat.add_comm]
theorem WK (x k:Nat) (hx:x<18446744073709551616) (hk:k<=63):bits .and .u64 (x:Int) (IntKind.u64.wrap (IntKind.u64.wrap (2 ^ k) - 1))=((x % 2 ^ k:Nat):Int):=by
 have a:(2:Nat) ^ k<=9223372036854775808:=Nat.pow_le_pow_right (n:=2) (by decide) hk;have b:0<(2:Nat) ^ k:=Nat.two_pow_pos k;have c:((2:Int) ^ k)=((2 ^ k:Nat):Int):=by simp
 have d:IntKind.u64.wrap (IntKind.u64.wrap (2 ^ k) - 1)=((2 ^ k - 1:Nat):Int):=by
  rw [c,IntKind.wrap_u64,IntKind.wrap_u64];generalize (2:Nat) ^ k=y at a b;omega
 rw [d,u64_and_nat _ _ hx (by omega),Nat.and_two_pow_sub_one_eq_mod]
theorem WL (R j r k:Nat) (hj:j<=8) (hk:k<=57) :
  bits .and .u64 ((R:Int) % 256 ^ j / 2 ^ r) (IntKind.u64.wrap (IntKind.u64.wrap (2 ^ k) - 1))=((R % 256 ^ j / 2 ^ r % 2 ^ k:Nat):Int):=by
 have a:((R:Int) % 256 ^ j / 2 ^ r)=((R % 256 ^ j / 2 ^ r:Nat):Int):=by simp
 have b:R % 256 ^ j<256 ^ j:=Nat.mod_lt _ (Nat.pow_pos (by decide));have c:(256:Nat) ^ j<=18446744073709551616:=Nat.pow_le_pow_right (n:=256) (by decide) hj;have d:R % 256 ^ j / 2 ^ r<=R % 256 ^ j:=Nat.div_le_self _ _;rw [a,WK _ _ (by omega) (by omega)]
theorem Wa (g:Nat) (l:List UInt8) (at_:Nat) (m:Int) (k:Nat) (H:Sp w0 (Rr g l at_::L) w) (ha:at_<=8 * l.length) (hl:l.length<=1000000000) (hk:(k:Int)=min (min (max m 0) 57) ((8 * l.length - at_:Nat):Int)) :
  Calls Tryd.prog 153 #[.pointer (some ⟨g,0,none⟩),.int .i64 m] w fun e w'=>e=.returned (.tuple #[.int .u64 (PBits.peek l at_ k:Nat),.int .i64 k])/\Keep w w':=by
 obtain⟨_,_,_,_,_,_,y⟩:=Zo H;have d:k<=57:=by omega
 have N:∀W:World,(Builtin.max_ #[3,3] 3 #[.int .i64 m,.int .i64 0]).run Tryd.prog W=.ok (.int .i64 (max m 0)) W:=fun W=>by
  simp [Builtin.max_,Builtin.max2];split <;> omega
 have O:∀W:World,(Builtin.min_ #[3,3,3] 3 #[.int .i64 (max m 0),.int .i64 57,.int .i64 ((8 * l.length - at_:Nat):Int)]).run Tryd.prog W=.ok (.int .i64 k) W:=fun W=>by
  rw [hk];simp [Builtin.min_,Builtin.min2];split <;> split <;> omega
 have HK:=hid hk;clear hk;go_enter Tryd.func153,Tryd.ntmps153
 go_wp2_with fail
 refine(Zu g _ y).mono ?_;rintro e P ⟨rfl,rfl⟩;go_wp2_with fail
 refine(Yi g l at_ H ha hl).mono ?_;rintro e P ⟨rfl,f⟩;replace H:=f.sep H;clear y;go_wp2_with fail
 clear N O;obtain⟨A,c,H,E,c0,c1,y⟩:=Zo H;obtain⟨q,h⟩:∃q,q=at_ / 8:=⟨_,rfl⟩;have hq:(at_:Int) / 8=(q:Int):=by omega
 have Q:q<=l.length:=by omega
 obtain⟨R,F⟩:∃R,R=PBits.le l / 256 ^ q:=⟨_,rfl⟩;have S:=hid h;have z:=hid F;have G:=hid E;clear h F E;obtain⟨_,_,o,_,_,B⟩:=id G.out;unfold maxLen at B;clear o;go_loop [6,7] (fun n i=>∃j:Nat,j<=8/\8 * j<=k+14/\i=.int .i64 j/\n=.int .u64 ((R % 256 ^ j:Nat):Int)) (fun _ i=>8 - (intOf i).toNat)
 case atStart=>exact⟨0,by omega,by omega,rfl,by simp [Nat.mod_one]⟩
 case round =>
  obtain⟨j,C,T,rfl,rfl⟩:=hrel;by_cases U:8 * j<k+7
  ·have p : (8:Int) * j<k+7:=by omega
   by_cases s:q+j<l.length
   ·have t : (q:Int)+j<l.length:=by omega
    have I:(0:Int)<=(q:Int)+j:=by omega
    obtain⟨_,_,o,u,_,_⟩:=id G.out;injection o with o _ eC
    subst o eC;obtain⟨ad,rfl,V⟩:=u.at8 s;clear u;obtain⟨b,v⟩:=exq (l[q+j].toNat);rw [v] at V;have X:b<256:=by rw [<- v]; exact(l[q+j]).toNat_lt
    have D:=hid v;clear v;have a:=hid (X8 R j b (by omega) (by rw [z.out,Nat.div_div_eq_div_mul,<- Nat.pow_add,PBits.le_byte,List.getD_eq_getElem?_getD,List.getElem?_eq_getElem s]; exact D.out.symm));go_wp2;go_round
    case rel=>exact⟨j+1,by omega,by omega,by go_num,by rw [<- a.out]⟩
    case measure=>simp [intOf]; omega
   ·have t : ¬ (q:Int)+j<l.length:=by omega
    have a:Hid (R % 256 ^ j=R % 256 ^ (j+1)):=by
     have J:=PBits.le_lt (l.drop q);rw [PBits.le_drop,<- z.out] at J;have K:R<256 ^ j:=Nat.lt_of_lt_of_le J (Nat.pow_le_pow_right (by decide) (by simp; omega));have Y:R<256 ^ (j+1):=Nat.lt_of_lt_of_le K (Nat.pow_le_pow_right (by decide) (by omega));show _=_;rw [Nat.mod_eq_of_lt K,Nat.mod_eq_of_lt Y]
    go_wp2;go_round
    case rel=>exact⟨j+1,by omega,by omega,by go_num,by rw [<- a.out]⟩
    case measure=>simp [intOf]; omega
  ·have p : ¬ (8:Int) * j<k+7:=by omega
   obtain⟨r,u⟩:=exq (at_ % 8);have Z : (at_:Int) % 8=(r:Int):=by omega
   have a0:r<8:=by omega
   have HX:=hid u;clear u;go_wp2;go_quiet (fail)
   go_wp2;go_ret2;have e:=WL R j r k C d;have M:=PBits.peek_of l at_ k j (by omega);rw [<- S.out,<- z.out,HX.out] at M;rw [M] at e;exact⟨congrArg (fun x=>Ending.returned (.tuple #[.int .u64 x,.int .i64 k])) e,f.trans (Keep.drewN _ _)⟩
theorem WZ (g:Nat) (l:List UInt8) (at_ k:Nat) (H:Sp w0 (Rr g l at_::L) w) (ha:at_+k<=8 * l.length) (hk:k<=57) (hl:l.length<=1000000000) :
  Calls Tryd.prog 129 #[.pointer (some ⟨g,0,none⟩),.int .i64 k] w fun e w'=>e=.returned (.tuple #[.int .u64 (PBits.peek l at_ k:Nat),.int .i64 0])/\Sp w0 (Rr g l (at_+k)::L) w':=by
 obtain⟨_,_,_,_,_,_,a⟩:=Zo H;go_enter Tryd.func129,Tryd.ntmps129
 go_wp2_with fail
 refine(Zu g _ a).mono ?_;rintro e b ⟨rfl,rfl⟩;clear a;go_wp2_with fail
 refine(Wa g l at_ k k H (by omega) hl (by omega)).mono ?_;rintro e b ⟨rfl,c⟩;replace H:=c.sep H;clear c;go_wp2_with fail
 refine(Vk g l at_ k H ha hk hl).mono ?_;rintro e b ⟨rfl,H⟩;go_wp2;go_ret2;exact⟨rfl,H⟩
theorem YY (g:Nat) (l:List UInt8) (at_ k:Nat) (H:Sp w0 (Rr g l at_::L) w) (ha:at_<=8 * l.length) (hs:8 * l.length<at_+k) (hk:k<=57) (hl:l.length<=1000000000) :
  Calls Tryd.prog 129 #[.pointer (some ⟨g,0,none⟩),.int .i64 k] w fun e w'=>e=.returned (.tuple #[.int .u64 0,.int .i64 4])/\Keep w w':=by
 obtain⟨_,_,_,_,_,_,b⟩:=Zo H;go_enter Tryd.func129,Tryd.ntmps129
 go_wp2_with fail
 refine(Zu g _ b).mono ?_;rintro e c ⟨rfl,rfl⟩;clear b;go_wp2_with fail
 refine(Wa g l at_ k (8 * l.length - at_) H (by omega) hl (by omega)).mono ?_;rintro e c ⟨rfl,d⟩;replace H:=d.sep H;go_wp2_with fail
 refine(XK g l at_ k H ha hs hk hl).mono ?_;rintro e c ⟨rfl,a⟩;go_wp2;go_ret2;exact⟨rfl,d.trans a⟩
theorem Wb (g:Nat) (l:List UInt8) (at_:Nat) (H:Sp w0 (Rr g l at_::L) w) (ha:at_<=8 * l.length) (hl:l.length<=1000000000) :
  Calls Tryd.prog 131 #[.pointer (some ⟨g,0,none⟩)] w fun e w'=>e=.returned (.int .i64 0)/\Sp w0 (Rr g l ((at_+7) / 8 * 8)::L) w':=by
 obtain⟨A,c,H,_,k,m,f⟩:=Zo H;have n:w.frozen? ⟨g,1,none⟩=false:=H.frozen 0 rfl 1;have o:(at_:Int)<=9000000000:=by omega
 have b:bits .and .i64 (-(at_:Int)) 7=(((8 - at_ % 8) % 8:Nat):Int):=by rw [WJ]; omega
 obtain⟨d,a⟩:=exq ((8 - at_ % 8) % 8);rw [a] at b;have h:d<8:=by omega
 have i:=hid a;clear a;go_enter Tryd.func131,Tryd.ntmps131
 go_wp2_with fail
 refine(Zu g _ f).mono ?_;rintro e p ⟨rfl,rfl⟩;go_wp2;go_still_tail 13,(by kernel_rfl)
 change wpList _ _ _ _ _ w.drew;go_wp2;go_ret;refine⟨rfl,Sp.ex (.slice A l.length c) (Sp.star ?_)⟩;have j:(((at_+7) / 8 * 8:Nat):Int)=(at_:Int)+d:=by have:=i.out; omega
 unfold RrB;rw [j,b];exact(H.set 1 (.int .i64 ((at_:Int)+d))).drew
theorem Wc (g:Nat) (l:List UInt8) (q k:Nat) (H:Sp w0 (Rr g l (8 * q)::L) w) (ha:q+k<=l.length) (hl:l.length<=1000000000) :
  Calls Tryd.prog 134 #[.pointer (some ⟨g,0,none⟩),.int .i64 k] w (Ret fun v w'=>∃u,v=.tuple #[u,.int .i64 0]/\Sp w0 (Row 5 1 u k (cells8 ((l.drop q).take k))::Rr g l (8 * (q+k))::L) w'):=by
 obtain⟨_,_,_,_,_,a,f⟩:=Zo H;rw [Int.natCast_mul] at a;have s:(q:Int)<=1000000000:=by omega
 have t:(k:Int)<=1000000000:=by omega
 have x:((8:Int) * q % 8 == 0)=true:=by rw [beq_iff_eq]; omega
 go_enter Tryd.func134,Tryd.ntmps134
 go_wp2_with fail
 refine(YL g 0 _ f (by omega) (by omega)).mono ?_;rintro e b ⟨rfl,rfl⟩;clear x a f;go_wp2_with fail
 refine(Yi g l (8 * q) H (by omega) hl).mono ?_;rintro e b ⟨rfl,o⟩;replace H:=o.sep H;clear o;obtain⟨A,c,H,p,D,a,f⟩:=Zo H;have E:b.frozen? ⟨g,1,none⟩=false:=H.frozen 0 rfl 1;rw [Int.natCast_mul] at a;have i:c<=maxLen:=by obtain⟨_,_,e,_,_,h⟩:=p; injection e with _ _ e; omega
 have y:l.length<=c:=by obtain⟨_,_,e,_,h,_⟩:=p; injection e with _ _ e; omega
 unfold maxLen at i;have F:¬ ((8 * l.length - 8 * q:Nat):Int) / 8<k:=by omega
 have G:(8:Int) * q / 8=q:=by omega
 have I:(q:Int)+k<=c:=by omega
 have J:(0:Int)<=(q:Int)+k:=by omega
 have r:((8 * (q+k):Nat):Int)=8 * (q:Int)+8 * k:=by omega
 have j:Sp w0 (RrB g (.slice A l.length c) (8 * (q+k))::Row 5 1 (.slice A l.length c) l.length (cells8 l)::L) (b.setCell ⟨g,1,none⟩ (.int .i64 (8 * (q:Int)+8 * k))):=by
  have:=H.set 1 (.int .i64 (8 * (q:Int)+8 * k));unfold RrB;rw [r];exact this
 clear r;have m:Byt (b.setCell ⟨g,1,none⟩ (.int .i64 (8 * (q:Int)+8 * k))) (.slice A l.length c) l:=j.row_byt 1 rfl;by_cases n:c=q
 ·subst n;obtain rfl:k=0:=by omega
  go_wp2_with fail
  refine(YG (l:=[]) j ⟨_,_,rfl,Rd.nil,Nat.zero_le _,by simp [maxLen]⟩ (by simp)).mono ?_;rintro e z ⟨u,rfl,d⟩;go_wp2;go_ret2;exact⟨_,rfl,_,rfl,Sp.swap (Sp.ex (.slice A l.length c) (Sp.star (by simpa using d.pick 3 [1,2,0])))⟩
 ·have B:=(m.drop q (by omega)).take k (by simp; omega);go_wp2_with fail
  refine(YG j B (by simp; omega)).mono ?_;rintro e z ⟨u,rfl,d⟩;go_wp2;go_ret2;refine⟨_,rfl,_,rfl,Sp.swap (Sp.ex (.slice A l.length c) (Sp.star ?_))⟩;have C:((l.drop q).take k).length=k:=by simp; omega
  rw [C] at d;exact d.pick 3 [1,2,0]
structure Thing where
 n:Nat
 m:Nat
 c:Bool
 b:List UInt8
 v:Value
namespace Thing
def k (x:Thing):Nat:=x.m % 58
def num (x:Thing):Nat:=x.n % 2 ^ x.k
def by_ (x:Thing):List UInt8:=x.b.take 20
def lies (x:Thing):Nat:=if x.by_≠[] then PBits.le x.by_ else if x.c then PBits.rev x.num x.k else x.num
def from_ (x:Thing) (N:Nat):Nat:=if x.by_≠[] then (N+7) / 8 * 8 else N
def size (x:Thing):Nat:=if x.by_≠[] then 8 * x.by_.length else x.k
def stp (s:Nat × Nat) (x:Thing):Nat × Nat:=(s.1+x.lies * 2 ^ x.from_ s.2,x.from_ s.2+x.size)
def st (l:List Thing):Nat × Nat:=l.foldl stp (0,0)
def row (l:List Thing):List UInt8:=PBits.bytesOf (st l).1 (((st l).2+7) / 8)
end Thing
namespace PBits
def num:List Bool->Nat
 | []=>0
 | b::l=>b.toNat+2 * num l
def bitsOf (n:Nat):Nat->List Bool
 | 0=>[]
 | k+1=>(n % 2 == 1)::bitsOf (n / 2) k
theorem bitsOf_length (n k:Nat):(bitsOf n k).length=k:=by
 induction k generalizing n with
 | zero=>rfl
 | succ k ih=>simp [bitsOf,ih]
theorem num_lt (l:List Bool):num l<2 ^ l.length:=by
 induction l with
 | nil=>simp [num]
 | cons b l ih =>
  have:b.toNat<=1:=by cases b <;> decide
  simp only [num,List.length_cons,Nat.pow_succ];omega
theorem num_append (a b:List Bool):num (a++b)=num a+2 ^ a.length * num b:=by
 induction a with
 | nil=>simp [num]
 | cons x a ih =>
  simp only [List.cons_append,num,ih,List.length_cons,Nat.pow_succ,Nat.mul_add];rw [<- Nat.mul_assoc,Nat.mul_comm 2 (2 ^ a.length)];omega
theorem num_bitsOf (n k:Nat):num (bitsOf n k)=n % 2 ^ k:=by
 induction k generalizing n with
 | zero=>simp [bitsOf,num,Nat.mod_one]
 | succ k ih =>
  have h:=Nat.mod_mul (x:=n) (a:=2) (b:=2 ^ k);have e:(2:Nat) ^ (k+1)=2 * 2 ^ k:=by rw [Nat.pow_succ,Nat.mul_comm]
  have c:(n % 2 == 1).toNat=n % 2:=by
   rcases Nat.mod_two_eq_zero_or_one n with h | h <;> rw [h] <;> rfl
  simp only [bitsOf,num,ih,c,e,h]
theorem bitsOf_snoc (n j:Nat):bitsOf n (j+1)=bitsOf n j++[n / 2 ^ j % 2 == 1]:=by
 induction j generalizing n with
 | zero=>simp [bitsOf]
 | succ j ih =>
  rw [bitsOf,ih (n / 2),bitsOf,Nat.div_div_eq_div_mul,Nat.pow_succ,Nat.mul_comm (2 ^ j) 2];rfl
theorem num_drop (l:List Bool) (q:Nat):num (l.drop q)=num l / 2 ^ q:=by
 by_cases h:q<=l.length
 ·conv=>rhs; rw [<- List.take_append_drop q l,num_append]
  have a:=num_lt (l.take q);have b:(l.take q).length=q:=by simp [h]
  rw [b] at a ⊢;rw [Nat.add_mul_div_left _ _ (Nat.two_pow_pos q),Nat.div_eq_of_lt a,Nat.zero_add]
 ·rw [List.drop_eq_nil_of_le (by omega)];have a:=num_lt l;rw [Nat.div_eq_of_lt (Nat.lt_of_lt_of_le a (Nat.pow_le_pow_right (by decide) (by omega)))];rfl
theorem num_take (l:List Bool) (k:Nat) (h:k<=l.length):num (l.take k)=num l % 2 ^ k:=by
 conv=>rhs; rw [<- List.take_append_drop k l,num_append]
 have b:(l.take k).length=k:=by simp [h]
 have a:=num_lt (l.take k);rw [b] at a ⊢;rw [Nat.add_mul_mod_self_left,Nat.mod_eq_of_lt a]
def ofB:List UInt8->List Bool
 | []=>[]
 | c::l=>bitsOf c.toNat 8++ofB l
theorem ofB_length (l:List UInt8):(ofB l).length=8 * l.length:=by
 induction l with
 | nil=>rfl
 | cons c l ih=>simp only [ofB,List.length_append,bitsOf_length,ih,List.length_cons]; omega
theorem num_ofB (l:List UInt8):num (ofB l)=le l:=by
 induction l with
 | nil=>rfl
 | cons c l ih =>
  have a:=c.toNat_lt;rw [ofB,num_append,num_bitsOf,bitsOf_length,ih,le,Nat.mod_eq_of_lt a]
theorem num_mid (l:List Bool) (a k:Nat) (h:a+k<=l.length):num ((l.drop a).take k)=num l / 2 ^ a % 2 ^ k:=by
 rw [num_take _ _ (by simp; omega),num_drop]
end PBits
namespace PI
def numAt (B:List Bool) (a k:Nat):Nat:=PBits.num ((B.drop a).take k)
def number (B:List Bool) (a k:Nat):Except Nat (Nat × Nat):=if a+k<=B.length then .ok (a+k,numAt B a k) else .error 4
def mostN (m:List Nat):Nat:=if PH.state m=0 then 15 else 1
theorem mostN_of (m:List Nat):mostOf m=(mostN m:Int):=by unfold mostOf mostN; split <;> rfl
theorem mostN_le (m:List Nat):mostN m<=15:=by unfold mostN; split <;> omega
def sign (B:List Bool) (m:List Nat) (a:Nat):Except Nat (Nat × Nat) :=
 if (PH.nextFrom m (B.drop a) (mostN m) 0).2.1=0 then .ok (a+(PH.nextFrom m (B.drop a) (mostN m) 0).1,(PH.nextFrom m (B.drop a) (mostN m) 0).2.2) else .error (PH.nextFrom m (B.drop a) (mostN m) 0).2.1.toNat
def lengthsT:List (Nat × Nat):=[(3,0),(4,0),(5,0),(6,0),(7,0),(8,0),(9,0),(10,0),(11,1),(13,1),(15,1),(17,1),(19,2),(23,2),(27,2),(31,2),(35,3),(43,3),(51,3),(59,3),(67,4),(83,4),(99,4),(115,4),(131,5),(163,5),(195,5),(227,5)]
def awayT:List (Nat × Nat):=[(1,0),(2,0),(3,0),(4,0),(5,1),(7,1),(9,2),(13,2),(17,3),(25,3),(33,4),(49,4),(65,5),(97,5),(129,6),(193,6),(257,7),(385,7),(513,8),(769,8),(1025,9),(1537,9),(2049,10),(3073,10),(4097,11),(6145,11),(8193,12),(12289,12),(16385,13),(24577,13)]
def orderT:List Nat:=[16,17,18,0,8,7,9,6,10,5,11,4,12,3,13,2,14,1,15]
def count (B:List Bool) (t:List (Nat × Nat)) (s a:Nat):Except Nat (Nat × Nat) :=
 if s<t.length then (number B a (t.getD s (0,0)).2).bind fun r=>.ok (r.1,(t.getD s (0,0)).1+r.2) else .error 20
def length (B:List Bool) (s a:Nat):Except Nat (Nat × Nat):=if s=28 then .ok (a,258) else count B lengthsT s a
def copy (back:Nat):Nat->List UInt8->List UInt8
 | 0,out=>out
 | n+1,out=>copy back n (out++[out.getD (out.length - back) 0])
theorem copy_len (back n:Nat) (out:List UInt8):(copy back n out).length=out.length+n:=by
 induction n generalizing out with
 | zero=>rfl
 | succ n ih=>rw [copy,ih]; simp; omega
def stepP (B:List Bool) (most:Nat) (m d:List Nat) (a:Nat) (out:List UInt8):Except Nat (Bool × Nat × List UInt8) :=
 (sign B m a).bind fun r =>
  if r.2=256 then .ok (true,r.1,out)
  else if r.2<256 then (if most - out.length<1 then .error 22 else .ok (false,r.1,out++[UInt8.ofNat r.2]))
  else (length B (r.2 - 257) r.1).bind fun n=>(sign B d n.1).bind fun t=>(count B awayT t.2 t.1).bind fun k =>
   if out.length<k.2 then .error 20 else if most - out.length<n.2 then .error 22 else .ok (false,k.1,copy k.2 n.2 out)
def pressed (B:List Bool) (most:Nat) (m d:List Nat):Nat->Nat->List UInt8->Except Nat (Nat × List UInt8)
 | 0,_,_=>.error 0
 | f+1,a,out=>(stepP B most m d a out).bind fun r=>if r.1 then .ok r.2 else pressed B most m d f r.2.1 r.2.2
def fill (many:Nat) (acc:List Nat) (v k a:Nat):Except Nat (Nat × List Nat):=if many - acc.length<k then .error 20 else .ok (a,acc++List.replicate k v)
def stepL (B:List Bool) (m:List Nat) (many a:Nat) (acc:List Nat):Except Nat (Nat × List Nat) :=
 (sign B m a).bind fun r =>
  if r.2=16 then (if acc.length=0 then .error 20 else (number B r.1 2).bind fun n=>fill many acc (acc.getD (acc.length - 1) 0) (3+n.2) n.1)
  else if r.2=17 then (number B r.1 3).bind fun n=>fill many acc 0 (3+n.2) n.1
  else if r.2=18 then (number B r.1 7).bind fun n=>fill many acc 0 (11+n.2) n.1
  else fill many acc r.2 1 r.1
def lens (B:List Bool) (m:List Nat) (many:Nat):Nat->Nat->List Nat->Except Nat (Nat × List Nat)
 | 0,_,_=>.error 0
 | f+1,a,acc=>if acc.length<many then (stepL B m many a acc).bind fun r=>lens B m many f r.1 r.2 else .ok (a,acc)
def firsts (B:List Bool):List Nat->Nat->List Nat->Except Nat (Nat × List Nat)
 | [],a,l=>.ok (a,l)
 | s::rest,a,l=>(number B a 3).bind fun r=>firsts B rest r.1 (l.set s r.2)
def book (m:List Nat):Bool:=PH.okB (castI m)
def dynamic (B:List Bool) (a:Nat):Except Nat (Nat × List Nat × List Nat) :=
 (number B a 5).bind fun l=>(number B l.1 5).bind fun d=>(number B d.1 4).bind fun c =>
  if 286<l.2+257∨30<d.2+1 then .error 20 else
  (firsts B (orderT.take (c.2+4)) c.1 (List.replicate 19 0)).bind fun f =>
  if book f.2=true then
   (lens B f.2 (l.2+257+(d.2+1)) (l.2+257+(d.2+1)+1) f.1 []).bind fun r =>
   if r.2.getD 256 0=0 then .error 20 else
   if book (r.2.take (l.2+257))=true then (if book (r.2.drop (l.2+257))=true then .ok (r.1,r.2.take (l.2+257),r.2.drop (l.2+257)) else .error 20) else .error 20
  else .error 20
def fixedL:List Nat:=List.replicate 144 8++List.replicate 112 9++List.replicate 24 7++List.replicate 8 8
def fixedD:List Nat:=List.replicate 32 5
def bytesAt (B:List Bool) (a n:Nat):List UInt8:=(List.range n).map fun i=>UInt8.ofNat (numAt B (a+8 * i) 8)
def stored (B:List Bool) (most a:Nat) (out:List UInt8):Except Nat (Nat × List UInt8) :=
 (number B ((a+7) / 8 * 8) 16).bind fun n=>(number B n.1 16).bind fun k =>
  if k.2≠65535 - n.2 then .error 20 else
  if (B.length - k.1) / 8<n.2 then (if most - out.length<(B.length - k.1) / 8 then .error 22 else .error 4) else
  if most - out.length<n.2 then .error 22 else .ok (k.1+8 * n.2,out++bytesAt B k.1 n.2)
def body (B:List Bool) (most kind a:Nat) (out:List UInt8):Except Nat (Nat × List UInt8) :=
 if kind=0 then stored B most a out
 else if kind=1 then pressed B most fixedL fixedD (B.length+1) a out
 else if kind=2 then (dynamic B a).bind fun r=>pressed B most r.2.1 r.2.2 (B.length+1) r.1 out
 else .error 20
structure Blk where
 kind:Nat
 last:Bool
 from_:Nat
 to_:Nat
deriving DecidableEq
def block (B:List Bool) (most a:Nat) (out:List UInt8):Except Nat (Bool × Nat × Nat × List UInt8) :=
 (number B a 1).bind fun l=>(number B l.1 2).bind fun k=>(body B most k.2 k.1 out).bind fun r=>.ok (l.2 == 1,k.2,r.1,r.2)
def blocks (B:List Bool) (most:Nat):Nat->Nat->List UInt8->List Blk->Except Nat (Nat × List UInt8 × List Blk)
 | 0,_,_,_=>.error 0
 | f+1,a,out,bl=>(block B most a out).bind fun r =>
  if r.1 then .ok (r.2.2.1,r.2.2.2,bl++[⟨r.2.1,r.1,out.length,r.2.2.2.length⟩]) else blocks B most f r.2.2.1 r.2.2.2 (bl++[⟨r.2.1,r.1,out.length,r.2.2.2.length⟩])
def all (B:List Bool) (most:Nat):Except Nat (Nat × List UInt8 × List Blk):=blocks B most (B.length+1) 0 [] []

/-! What goes on, and what is enough. -/
theorem number_ok {B:List Bool} {a k:Nat} {r:Nat × Nat} (h:number B a k=.ok r):r=(a+k,numAt B a k)/\a+k<=B.length:=by
 unfold number at h;split at h
 ·rename_i h2; cases h; exact⟨rfl,h2⟩
 ·cases h
theorem number_err {B:List Bool} {a k e:Nat} (h:number B a k=.error e):e=4/\B.length<a+k:=by
 unfold number at h;split at h
 ·cases h
 ·cases h; exact⟨rfl,by omega⟩
theorem numAt_lt (B:List Bool) (a k:Nat):numAt B a k<2 ^ k:=by
 have b:=PBits.num_lt ((B.drop a).take k);have c:(2:Nat) ^ ((B.drop a).take k).length<=2 ^ k:=Nat.pow_le_pow_right (by omega) (by rw [List.length_take]; omega);unfold numAt; omega
theorem next_facts (m:List Nat) (l:List Bool) (mo:Nat) (h:mo<=15):(PH.nextFrom m l mo 0).1<=l.length/\((PH.nextFrom m l mo 0).2.1=0/\1<=(PH.nextFrom m l mo 0).1∨(PH.nextFrom m l mo 0).2.1=4∨(PH.nextFrom m l mo 0).2.1=20):=by
 have:=PH.nextFrom_err m l mo 0 (Nat.zero_le _) (by omega) (.inr trivial);exact⟨this.2.1,this.2.2⟩
theorem sign_ok {B:List Bool} {m:List Nat} {a:Nat} {r:Nat × Nat} (ha:a<=B.length) (h:sign B m a=.ok r):a<r.1/\r.1<=B.length:=by
 have b:=next_facts m (B.drop a) (mostN m) (mostN_le m);unfold sign at h;split at h
 ·rename_i h2
  cases h
  rw [List.length_drop] at b;show a<a+_/\a+_<=_;omega
 ·cases h
theorem sign_err {B:List Bool} {m:List Nat} {a e:Nat} (h:sign B m a=.error e):e=4∨e=20:=by
 have b:=next_facts m (B.drop a) (mostN m) (mostN_le m);unfold sign at h;split at h
 ·cases h
 ·cases h; omega
theorem bind_ok {α β:Type} {x:Except Nat α} {f:α->Except Nat β} {b:β} (h:x.bind f=.ok b):∃a,x=.ok a/\f a=.ok b:=by
 cases x with
 | error e=>cases h
 | ok a=>exact⟨a,rfl,h⟩
theorem count_ok {B:List Bool} {t:List (Nat × Nat)} {s a:Nat} {r:Nat × Nat} (h:count B t s a=.ok r):a<=r.1/\(a<=B.length->r.1<=B.length):=by
 unfold count at h;split at h
 ·obtain⟨q,b,c⟩:=bind_ok h;cases c
  obtain⟨rfl,d⟩:=number_ok b;exact⟨by show a<=a+_; omega,fun _=>d⟩
 ·cases h
theorem length_ok {B:List Bool} {s a:Nat} {r:Nat × Nat} (h:length B s a=.ok r):a<=r.1/\(a<=B.length->r.1<=B.length):=by
 unfold length at h;split at h
 ·cases h; exact⟨Nat.le_refl _,id⟩
 ·exact count_ok h
theorem stepP_ok {B:List Bool} {most:Nat} {m d:List Nat} {a:Nat} {out:List UInt8} {r:Bool × Nat × List UInt8} (ha:a<=B.length) (h:stepP B most m d a out=.ok r):a<r.2.1/\r.2.1<=B.length/\(out.length<=most->r.2.2.length<=most):=by
 unfold stepP at h;obtain⟨s,e,h⟩:=bind_ok h;obtain⟨c,b⟩:=sign_ok ha e;split at h
 ·cases h; exact⟨c,b,id⟩
 split at h
 ·split at h
  ·cases h
  ·cases h; exact⟨c,b,fun _=>by simp; omega⟩
 obtain⟨n,f,h⟩:=bind_ok h;obtain⟨t,g,h⟩:=bind_ok h;obtain⟨k,i,h⟩:=bind_ok h;obtain⟨p,j⟩:=length_ok f;obtain⟨q,l⟩:=sign_ok (j b) g;obtain⟨u,o⟩:=count_ok i;split at h
 ·cases h
 split at h
 ·cases h
 ·cases h; exact⟨by show a<k.1; omega,o l,fun _=>by show(copy _ _ _).length<=_; rw [copy_len]; omega⟩
theorem pressed_more {B:List Bool} {most:Nat} {m d:List Nat} : ∀(f g a:Nat) (out:List UInt8),a<=B.length->B.length<a+f->B.length<a+g->pressed B most m d f a out=pressed B most m d g a out:=by
 intro f;induction f with
 | zero=>intro g a out b c; omega
 | succ f ih =>
  intro g a out b c i;cases g with
  | zero=>omega
  | succ g =>
   rw [pressed,pressed];cases hs:stepP B most m d a out with
   | error e=>rfl
   | ok r =>
    obtain⟨j,h,_⟩:=stepP_ok b hs;show(if r.1 then _ else _)=(if r.1 then _ else _);split
    ·rfl
    ·exact ih g _ _ h (by omega) (by omega)
theorem fill_ok {many:Nat} {acc:List Nat} {v k a:Nat} {r:Nat × List Nat} (h:fill many acc v k a=.ok r) (hk:1<=k) (ha:acc.length<many):r.1=a/\acc.length<r.2.length/\r.2.length<=many:=by
 unfold fill at h;split at h
 ·cases h
 ·cases h; refine⟨rfl,?_,?_⟩ <;> simp <;> omega
end PI
end Go.Proofs.YteajimobgkempaaDoor

