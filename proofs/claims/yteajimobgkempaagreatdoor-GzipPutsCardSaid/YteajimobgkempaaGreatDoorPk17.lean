/- A pack. -/
import Derived.Test.YteajimobgkempaaGreatDoorPk16
set_option linter.all false
set_option maxRecDepth 100000
set_option maxHeartbeats 8000000
namespace Go.Proofs.YteajimobgkempaaGreatDoor
variable {w0 w:World} {L:List Pr}
open Go.RowKit
theorem two64 (a:Nat) (h:a<=64):2 ^ a<=18446744073709551616:=by
 have:=Nat.pow_le_pow_right (n:=2) (by decide) h;exact this
theorem Ti (V N:Nat) (h:V<2 ^ N):V / 256 ^ (N / 8)<2 ^ (N % 8):=by
 have a:(256:Nat) ^ (N / 8)=2 ^ (8 * (N / 8)):=by rw [show(256:Nat)=2 ^ 8 by decide,<- Nat.pow_mul]
 rw [a];apply Nat.div_lt_of_lt_mul;rw [<- Nat.pow_add]
 rwa [show 8 * (N / 8)+N % 8=N by omega]
theorem Vv (g V N n k:Nat) (H:Sp w0 (Wr g V N::L) w) (hV:V<2 ^ N) (hk:k<=57) (hn:n<2 ^ k) (hN:N<=1000000000) :
  Calls Tryz.prog 116 #[.pointer (some ⟨g,0,none⟩),.int .u64 n,.int .i64 k] w fun e w'=>e=.returned (.int .i64 0)/\Sp w0 (Wr g (V+n * 2 ^ N) (N+k)::L) w':=by
 obtain⟨v,H⟩:=H.unex;replace H:=H.unstar;have Z:((n:Int) / 2 ^ k == 0)=true:=by
  rw [beq_iff_eq];have:n / 2 ^ k=0:=Nat.div_eq_of_lt hn
  exact_mod_cast this
 have c3:w.cell? ⟨g,3,none⟩=some (.bool true):=H.cell 0 rfl 3;go_enter Tryz.func116,Tryz.ntmps116
 go_wp2_with fail
 refine(Xo g k _ c3 (by omega) (by omega)).mono ?_;rintro e w2 ⟨rfl,rfl⟩;clear Z c3;obtain⟨m,D⟩:∃m,m=N % 8:=⟨_,rfl⟩;obtain⟨wt,p⟩:∃wt,wt=V / 256 ^ (N / 8):=⟨_,rfl⟩;rw [<- D,<- p] at H;have a0:m<8:=by omega
 have E:wt<2 ^ m:=by rw [p,D]; exact Ti V N hV
 have F:wt<18446744073709551616:=Nat.lt_of_lt_of_le E (two64 _ (by omega));have J:n * 2 ^ m<18446744073709551616:=by
  have h1:n * 2 ^ m<2 ^ k * 2 ^ m:=Nat.mul_lt_mul_of_pos_right hn (Nat.two_pow_pos m);rw [<- Nat.pow_add] at h1;exact Nat.lt_of_lt_of_le h1 (two64 _ (by omega))
 have s1:IntKind.u64.wrap ((n:Int) * 2 ^ m)=((n * 2 ^ m:Nat):Int):=by
  rw [show((n:Int) * 2 ^ m)=((n * 2 ^ m:Nat):Int) by simp,IntKind.wrap_u64];generalize n * 2 ^ m=q at J;omega
 have M:bits .or .u64 (wt:Int) ((n * 2 ^ m:Nat):Int)=((wt+n * 2 ^ m:Nat):Int):=by
  rw [u64_or_nat _ _ F J,Nat.mul_comm n,Nat.add_comm,Nat.two_pow_add_eq_or_of_lt E,Nat.or_comm]
 obtain⟨sh,s⟩:∃sh,sh=n * 2 ^ m:=⟨_,rfl⟩;rw [<- s] at s1 M;obtain⟨G,t⟩:∃G,G=wt+sh:=⟨_,rfl⟩;rw [<- t] at M;have e1:G=(V+n * 2 ^ N) / 256 ^ (N / 8):=by rw [PBits.put_wait,t,s,p,D]
 have e2:m+k=N+k - 8 * (N / 8):=by rw [D]; omega
 have E1:=hid e1;have E2:=hid e2;clear s t J D p e1 e2;have I:w.cell? ⟨g,1,none⟩=some (.int .u64 wt):=H.cell 0 rfl 1;have c2:w.cell? ⟨g,2,none⟩=some (.int .i64 m):=H.cell 0 rfl 2;have z1:w.frozen? ⟨g,1,none⟩=false:=H.frozen 0 rfl 1;have z2:w.frozen? ⟨g,2,none⟩=false:=H.frozen 0 rfl 2;go_wp2;go_still_tail 13,(by kernel_rfl)
 change wpList _ _ _ _ _ w.drew;go_wp2;go_loopw [] (fun wr=>∃(q mm:Nat) (v:Value),N / 8<=q/\mm+8 * q=N+k/\Sp w0 (WrB g v ((V+n * 2 ^ N) / 256 ^ q) mm::Row 5 1 v q (cells8 (PBits.bytesOf (V+n * 2 ^ N) q))::L) wr) (fun wr=>match wr.cell? ⟨g,2,none⟩ with | some i=>(intOf i).toNat | none=>0)
 case atStart =>
  refine⟨N / 8,m+k,v,Nat.le_refl _,by rw [E2.out]; omega,?_⟩;rw [PBits.put_bytes,<- E1.out];exact(H.drew.set 1 (.int .u64 G)).set 2 (.int .i64 ((m:Int)+k))
 case round =>
  obtain⟨q,mm,v',a1,a2,H⟩:=hrel;clear z1 z2 I c2 s1 M;have r2:wr.cell? ⟨g,2,none⟩=some (.int .i64 mm):=H.cell 0 rfl 2;by_cases h8:8<=mm
  ·have O : (8:Int)<=mm:=by omega
   go_wp2;obtain⟨h,y⟩:∃h,h=(V+n * 2 ^ N) / 256 ^ q:=⟨_,rfl⟩;obtain⟨r,B⟩:∃r,r=cells8 (PBits.bytesOf (V+n * 2 ^ N) q):=⟨_,rfl⟩;rw [<- y,<- B] at H;have H0:=H;have HW:=hid y;have HB:=hid B;clear y B;refine Zb (L:=L) [some (.pointer (some ⟨g,0,none⟩)),some (.pointer (some ⟨g,0,none⟩)),some (.pointer (some ⟨g,0,none⟩)),some (.pointer (some ⟨g,0,none⟩)),some (v'),some (.pointer (some ⟨g,0,none⟩)),some (.pointer (some ⟨g,0,none⟩)),some (.pointer (some ⟨g,1,none⟩)),some (.int .u64 h),some (.int .u8 ((h:Int) % 256)),none,none,some (.pointer (some ⟨g,0,none⟩)),some (.pointer (some ⟨g,0,none⟩)),some (undef)] (fun ix vx=>match ix with | 10=>(fun v=>v=.slice (some ⟨v.ownBlock.getD 0,0,none⟩) 1 1) vx | 11=>(fun _=>True) vx | _=>True) (fun ix vx=>match ix with | 10=>(fun v=>[Bk (v.ownBlock.getD 0) 5 [.int .u8 ((h:Int) % 256)]]) vx | 11=>(fun v=>[Row 5 1 v (q+1) (r++[.int .u8 ((h:Int) % 256)])]) vx | 14=>(fun _=>[Ex fun u=>Star (WrB g u h mm) (Row 5 1 u (q+1) (r++[.int .u8 ((h:Int) % 256)]))]) vx | _=>[]) (fun ix=>match ix with | 11=>[Row 5 1 v' q r] | 14=>[WrB g v' h mm] | _=>[]) 15 77
    [some 49,some 50,some 51,some 52,some 53,some 54,some 55,some 56,some 57,some 58,some 59,some 60,some 61,some 62,none]
    [[],[],[1],[2],[3],[],[5],[6],[7],[8],[9],[4,10],[0,0,1,2,3,4,5,6,7,8,9,10,11],[12,0,1,2,3,4,5,6,7,8,9,10,11],[13,11,11,0,1,2,3,4,5,6,7,8,9,10,11]]
    [[],[],[1],[1,2],[1,2,3],[],[5],[5,6],[5,6,7],[5,6,7,8],[5,6,7,8,9],[1,2,3,4,5,6,7,8,9,10],[0,1,2,3,4,5,6,7,8,9,10,11],[0,1,2,3,4,5,6,7,8,9,10,11,12],[0,1,2,3,4,5,6,7,8,9,10,11,12,13]]
    [[],[],[],[],[],[],[],[],[],[],[],[10],[],[],[11]] [[],[],[],[],[14],[],[],[],[14],[],[],[],[],[],[]] [(0,.pointer (some ⟨g,0,none⟩))]
    (by kernel_rfl) rfl (by decide) (by rfl) (by decide +kernel) rfl rfl (by simp) ((H.pick 2 [1,0])) ?hstep ?hend
   case hstep =>
    refine⟨?p0,⟨?p1,⟨?p2,⟨?p3,⟨?p4,⟨?p5,⟨?p6,⟨?p7,⟨?p8,⟨?p9,⟨?p10,⟨?p11,⟨?p12,⟨?p13,⟨?p14,trivial⟩⟩⟩⟩⟩⟩⟩⟩⟩⟩⟩⟩⟩⟩⟩
    case p0 | p1 | p2 | p3 | p5 | p6 | p7 | p9 | p12 | p13 =>
     intro x wx A a d l f o H K j;replace j:=hid j;clear f o d;repeat (obtain⟨_,l⟩:=l)
     refine so ?_;go_step;exact j.out _ _ rfl H
    case p4 =>
     intro x wx A a d l f o H K b;have a3:=tq f 3;replace H:Sp w0 (_::a) wx:=H;have j:=hid b;clear b l f o d;have c:wx.cell? ⟨g,0,none⟩=some v':=H.cell 0 rfl 0;refine so ?_;go_step;exact j.out _ _ rfl H
    case p8 =>
     intro x wx A a d l f o H K b;have a4:=tq f 7;replace H:Sp w0 (_::a) wx:=H;have j:=hid b;clear b l f o d;have c:wx.cell? ⟨g,1,none⟩=some (.int .u64 h):=H.cell 0 rfl 1;refine so ?_;go_step;exact j.out _ _ rfl H
    case p10 =>
     intro x wx A a d l f o H K b;have a5:=tq f 9;have j:=hid b;clear b l f o d;refine so ?_;go_step;exact j.out _ _ rfl (H.newBk _ _)
    case p11 =>
     intro x wx A a d l f o H K b;have P:=tq f 4;have Q:(x 10)=.slice (some ⟨(x 10).ownBlock.getD 0,0,none⟩) 1 1:=(f 10 (by decide)).1;have C:=(f 10 (by decide)).2 59 rfl;replace H:Sp w0 (_::(Bk ((x 10).ownBlock.getD 0) 5 [.int .u8 ((h:Int) % 256)])::a) wx:=H;have j:Hid (∀(v:Value) (w' : World),True->Sp w0 ((Row 5 1 v (q+1) (r++[.int .u8 ((h:Int) % 256)]))::a) w'->K (A.put (some 60) v) w'):=hid b;clear b l f o d;obtain⟨g9,e9⟩:=exq ((x 10).ownBlock.getD 0);rw [Q] at C;rw [e9] at C H;refine so ?_;obtain⟨i0,hi,R,S,T⟩:=info_parts info8;refine Zg _ _ 24 rfl 5 i0 (.int .u8 0) 1 1 Tryz.underlying24 hi R S T rfl (by decide) v' q r (ev P) H (some ⟨g9,0,none⟩) 1 1 [.int .u8 ((h:Int) % 256)] (ev C) rfl (Rd.of_blk (H.blk 1 rfl)) (by intro u hu; rw [List.mem_singleton.1 hu]; rfl) (by simp only [maxLen]; omega) (by omega) ?_;intro v1 w2 U _;exact j.out _ _ trivial U.swap.tail
    case p14 =>
     intro x wx A a d l f o H K b;have a6:=tq f 13;have a7:True:=(f 11 (by decide)).1;have W:=(f 11 (by decide)).2 60 rfl;replace H:Sp w0 (_::(Row 5 1 (x 11) (q+1) (r++[.int .u8 ((h:Int) % 256)]))::a) wx:=H;have j:=hid b;clear b l f o d;have c:wx.cell? ⟨g,0,none⟩=some v':=H.cell 0 rfl 0;have z:wx.frozen? ⟨g,0,none⟩=false:=H.frozen 0 rfl 0;obtain⟨A1,I,X,_,_⟩:=Row.form H 1 rfl;refine so ?_;rw [X] at W H;go_step;exact j.out _ _ rfl (Sp.ex (.slice A1 (q+1) I) (Sp.star (H.set 0 (.slice A1 (q+1) I))))
   case hend =>
    intro x wx A hA f H;replace H:Sp w0 (_::L) wx:=H;clear f;simp only [putAll,Act.put,List.setIfInBounds_toArray,List.set_cons_succ,List.set_cons_zero,Nat.reduceAdd] at hA;subst hA;obtain⟨u,H⟩:=H.unex;replace H:=H.unstar;have Z:wx.cell? ⟨g,1,none⟩=some (.int .u64 h):=H.cell 0 rfl 1;have d2:wx.cell? ⟨g,2,none⟩=some (.int .i64 mm):=H.cell 0 rfl 2;have z1:wx.frozen? ⟨g,1,none⟩=false:=H.frozen 0 rfl 1;have z2:wx.frozen? ⟨g,2,none⟩=false:=H.frozen 0 rfl 2;clear r2;have Y : mm<=1000000100:=by omega
    go_wp2;go_roundw
    case rel =>
     refine⟨q+1,mm - 8,u,by omega,by omega,?_⟩;rw [PBits.byte_next,<- PBits.div_next,<- HW.out];have e8:cells8 (PBits.bytesOf (V+n * 2 ^ N) q++[UInt8.ofNat (h % 256)])=r++[.int .u8 ((h:Int) % 256)]:=by
      rw [HB.out]; simp [cells8]
     rw [e8];have U:=(H.set 1 (.int .u64 ((h:Int) / 256))).set 2 (.int .i64 ((mm:Int) - 8));have X:((h / 256:Nat):Int)=(h:Int) / 256:=by omega
     have eb:((mm - 8:Nat):Int)=(mm:Int) - 8:=by omega
     unfold WrB;rw [X,eb];exact U
    case measure =>
     have m1:wr.cell? ⟨g,2,none⟩=some (.int .i64 mm):=H0.cell 0 rfl 2;have m2:=((H.set 1 (.int .u64 ((h:Int) / 256))).set 2 (.int .i64 ((mm:Int) - 8))).cell 0 rfl 2;simp only [m1,m2];simp [intOf];omega
  ·have O : ¬ (8:Int)<=mm:=by omega
   go_wp2;go_ret;obtain rfl:q=(N+k) / 8:=by omega
   obtain rfl:mm=(N+k) % 8:=by omega
   exact⟨rfl,H.star.ex v'⟩
theorem YO {g V N:Nat} (H:Sp w0 (Wr g V N::L) w):w.cell? ⟨g,3,none⟩=some (.bool true):=by
 obtain⟨v,H⟩:=H.unex;exact H.unstar.cell 0 rfl 3
theorem Tj (g V N n k:Nat) (H:Sp w0 (Wr g V N::L) w) (hV:V<2 ^ N) (hk:k<=57) (hn:n<2 ^ k) (hN:N<=1000000000) :
  Calls Tryz.prog 140 #[.pointer (some ⟨g,0,none⟩),.int .u64 n,.int .i64 k] w fun e w'=>e=.returned (.int .i64 0)/\Sp w0 (Wr g (V+PBits.rev n k * 2 ^ N) (N+k)::L) w':=by
 have c:((n:Int) / 2 ^ k == 0)=true:=by
  rw [beq_iff_eq];have:n / 2 ^ k=0:=Nat.div_eq_of_lt hn
  exact_mod_cast this
 have a:=YO H;go_enter Tryz.func140,Tryz.ntmps140
 go_wp2_with fail
 refine(Xo g k _ a (by omega) (by omega)).mono ?_;rintro e b ⟨rfl,rfl⟩;clear c a;go_wp2_with fail
 refine(XT n k (k:Int) _ (Nat.lt_of_lt_of_le hn (two64 _ (by omega))) (by omega)).mono ?_;rintro e b ⟨rfl,rfl⟩;go_wp2_with fail
 refine(Vv g V N (PBits.rev n k) k H hV hk (PBits.rev_lt n k) hN).mono ?_;rintro e b ⟨rfl,H⟩;go_wp2;go_ret;exact⟨rfl,H⟩
theorem XI (H:Sp w0 L w) :
  Calls Tryz.prog 46 #[] w (Ret fun v w'=>∃g,v=.pointer (some ⟨g,0,none⟩)/\Sp w0 (Wr g 0 0::L) w'):=by
 go_enter Tryz.func46,Tryz.ntmps46
 go_wp2;go_ret;exact⟨_,rfl,_,rfl,Sp.ex (.slice none 0 0) (Sp.star (((H.rowNil 5 1).newBk _ _)))⟩
theorem Wm (x:Int):bits .and .i64 x 7=x % 8:=by
 have a:(BitVec.ofInt 64 (7:Int)).toNat=7:=rfl;show IntKind.i64.wrap ((BitVec.ofInt 64 x &&& BitVec.ofInt 64 (7:Int)).toNat:Int)=_;rw [BitVec.toNat_and,BitVec.toNat_ofInt,a,nat_mask3,IntKind.wrap_i64];omega
theorem Up (g V N:Nat) (H:Sp w0 (Wr g V N::L) w) (hV:V<2 ^ N) (hN:N<=1000000000) :
  Calls Tryz.prog 115 #[.pointer (some ⟨g,0,none⟩)] w fun e w'=>e=.returned (.int .i64 0)/\Sp w0 (Wr g V ((N+7) / 8 * 8)::L) w':=by
 have b:=YO H;obtain⟨m,a⟩:∃m,m=N % 8:=⟨_,rfl⟩;have j:w.cell? ⟨g,2,none⟩=some (.int .i64 m):=by
  obtain⟨v,H⟩:=H.unex;rw [a];exact H.unstar.cell 0 rfl 2
 have c:m<8:=by omega
 have d:=hid a;clear a;have f:bits .and .i64 (-(m:Int)) 7=(((8 - m) % 8:Nat):Int):=by rw [Wm]; omega
 go_enter Tryz.func115,Tryz.ntmps115
 go_wp2_with fail
 refine(Yl g _ b).mono ?_;rintro e h ⟨rfl,rfl⟩;go_wp2_with fail
 refine(Vv g V N 0 ((8 - m) % 8) H hV (by omega) (Nat.two_pow_pos _) hN).mono ?_;rintro e h ⟨rfl,H⟩;clear f;go_wp2;go_ret;refine⟨rfl,?_⟩;have i:N+(8 - m) % 8=(N+7) / 8 * 8:=by rw [d.out]; omega
 rwa [Nat.zero_mul,Nat.add_zero,i] at H
theorem Uq (g V N:Nat) {v:Value} {l:List UInt8} (H:Sp w0 (Wr g V N::L) w) (hb:Byt w v l) (hN8:N % 8=0) (hV:V<2 ^ N) (hN:N<=1000000000) (hl:l.length<=1000000000) :
  Calls Tryz.prog 117 #[.pointer (some ⟨g,0,none⟩),v] w fun e w'=>e=.returned (.int .i64 0)/\Sp w0 (Wr g (V+PBits.le l * 2 ^ N) (N+8 * l.length)::L) w':=by
 have j:=YO H;have p:=hid hN8;obtain⟨u,H⟩:=H.unex;replace H:=H.unstar;rw [hN8] at H;clear hN8;have q:w.cell? ⟨g,2,none⟩=some (.int .i64 0):=H.cell 0 rfl 2;have k:w.cell? ⟨g,0,none⟩=some u:=H.cell 0 rfl 0;have z0:w.frozen? ⟨g,0,none⟩=false:=H.frozen 0 rfl 0;obtain⟨A,c,rfl,r,F,G⟩:=hb;obtain⟨s,t,d,f,h⟩:=info_parts info8;go_enter Tryz.func117,Tryz.ntmps117
 go_wp2_with fail
 refine(Xo g 0 _ j (by omega) (by omega)).mono ?_;rintro e I ⟨rfl,rfl⟩;go_wp2_with (at_builtin; refine wpList_append_sp rfl _ _ 24 rfl 5 s (.int .u8 0) 1 1 Tryz.underlying24 t d f h rfl (by decide) u (N / 8) (cells8 (PBits.bytesOf V (N / 8))) rfl H.swap A l.length c (cells8 l) rfl (by simp [cells8]) r (Zf l) (by unfold maxLen; omega) (by omega) ?_)
 intro J w' b _;clear k z0 q j;have k:w'.cell? ⟨g,0,none⟩=some u:=b.cell 1 rfl 0;have z0:w'.frozen? ⟨g,0,none⟩=false:=b.frozen 1 rfl 0;obtain⟨m,n,rfl,_,_⟩:=Row.form b 0 rfl;go_wp2;go_ret;refine⟨rfl,Sp.ex (.slice m (N / 8+l.length) n) (Sp.star ?_)⟩;have o:=b.swap.set 0 (.slice m (N / 8+l.length) n);have i:=p.out;have x:(N+8 * l.length) / 8=N / 8+l.length:=by omega
 have y:(N+8 * l.length) % 8=0:=by omega
 have a:V<256 ^ (N / 8):=by
  have:=PBits.pow_parts N;rw [i] at this;simpa [this] using hV
 have z:(V+PBits.le l * 2 ^ N) / 256 ^ (N / 8+l.length)=0:=by
  have B:=PBits.le_lt l;rw [PBits.pow_parts N,i,Nat.pow_zero,Nat.one_mul,Nat.pow_add,<- Nat.div_div_eq_div_mul,Nat.add_mul_div_right _ _ (Nat.pow_pos (by decide)),Nat.div_eq_of_lt a,Nat.zero_add,Nat.div_eq_of_lt B]
 have C:PBits.bytesOf (V+PBits.le l * 2 ^ N) (N / 8+l.length)=PBits.bytesOf V (N / 8)++l:=by
  rw [PBits.bytesOf_add,PBits.put_bytes,PBits.pow_parts N,i,Nat.pow_zero,Nat.one_mul,Nat.add_mul_div_right _ _ (Nat.pow_pos (by decide)),Nat.div_eq_of_lt a,Nat.zero_add,PBits.bytesOf_le]
 have D:V / 256 ^ (N / 8)=0:=Nat.div_eq_of_lt a;rw [x,y,z,C];rw [D] at o;have E:cells8 (PBits.bytesOf V (N / 8)++l)=cells8 (PBits.bytesOf V (N / 8))++cells8 l:=by simp [cells8]
 rw [E];exact o
theorem TQ (g V N:Nat) (H:Sp w0 (Wr g V N::L) w) (hN:N<=2000000000) :
  Calls Tryz.prog 81 #[.pointer (some ⟨g,0,none⟩)] w fun e w'=>e=.returned (.int .i64 N)/\Keep w w':=by
 have f:=YO H;obtain⟨v,H⟩:=H.unex;replace H:=H.unstar;obtain⟨q,b⟩:∃q,q=N / 8:=⟨_,rfl⟩;obtain⟨m,d⟩:∃m,m=N % 8:=⟨_,rfl⟩;rw [<- b,<- d] at H;have a : N=8 * q+m:=by omega
 clear b d;have h:=hid a;obtain⟨A,c,rfl,j,k⟩:=Row.form H 1 rfl;have l:w.cell? ⟨g,0,none⟩=some (.slice A q c):=H.cell 0 rfl 0;have n:w.cell? ⟨g,2,none⟩=some (.int .i64 m):=H.cell 0 rfl 2;have o:q<=250000000:=by omega
 have i:m<=2000000000:=by omega
 clear hN a;go_enter Tryz.func81,Tryz.ntmps81
 go_wp2_with fail
 refine(Yl g _ f).mono ?_;rintro e p ⟨rfl,rfl⟩;go_wp2;go_quiet (fail)
 go_wp2;go_ret;exact⟨Z1 (by rw [h.out]; omega),Keep.drewN _ _⟩
theorem Tk (g V N:Nat) (H:Sp w0 (Wr g V N::L) w) (hN:N<=1000000000) :
  Calls Tryz.prog 49 #[.pointer (some ⟨g,0,none⟩)] w (Ret fun v w'=>Sp w0 (Row 5 1 v ((N+7) / 8) (cells8 (PBits.bytesOf V ((N+7) / 8)))::Wr g V N::L) w'):=by
 have s:=YO H;obtain⟨v,H⟩:=H.unex;replace H:=H.unstar;obtain⟨q,k⟩:=exq (N / 8);obtain⟨m,l⟩:=exq (N % 8);obtain⟨wt,f⟩:=exq (V / 256 ^ q);obtain⟨bs,a⟩:=exq (PBits.bytesOf V q);have h:bs.length=q:=by rw [<- a]; exact PBits.bytesOf_length _ _
 have t:∀L' w',Sp w0 (WrB g v wt m::Row 5 1 v q (cells8 bs)::L') w'->Sp w0 (Wr g V N::L') w':=fun L' w' H'=>Sp.ex v (Sp.star (by rw [k,l,f,a]; exact H'));rw [k,l,f,a] at H;have D:q<=130000000:=by omega
 have E:m<8:=by omega
 have b:(N+7) / 8=if 0<m then q+1 else q:=by split <;> omega
 have d:PBits.bytesOf V (q+1)=bs++[UInt8.ofNat (wt % 256)]:=by rw [PBits.byte_next,a,f]
 have i:Byt w v bs:=H.row_byt 1 (e:=5) (by rw [h]; rfl);have x:=hid t;have y:=hid b;have F:=hid d;have z:=hid h;have G:=hid a;clear t b d h k l f a hN;obtain⟨A,c,ev,_,_⟩:=Row.form H 1 rfl;subst ev;have I:w.cell? ⟨g,0,none⟩=some (.slice A q c):=H.cell 0 rfl 0;go_enter Tryz.func49,Tryz.ntmps49
 go_wp2_with fail
 refine(Yl g _ s).mono ?_;rintro e j ⟨rfl,rfl⟩;go_wp2_with fail
 refine(Ug H i (by rw [z.out]; omega)).mono ?_;rintro e j ⟨u,rfl,H⟩;rw [z.out] at H;clear I s;have B:j.cell? ⟨g,1,none⟩=some (.int .u64 wt):=H.cell 1 rfl 1;have J:j.cell? ⟨g,2,none⟩=some (.int .i64 m):=H.cell 1 rfl 2;obtain⟨K,M,n,o,p⟩:=info_parts info8;by_cases C:0<m
 ·have r : (0:Int)<m:=by omega
  go_wp2_with (at_builtin; refine wpList_append_sp rfl _ _ 24 rfl 5 K (.int .u8 0) 1 1 Tryz.underlying24 M n o p rfl (by decide) u q (cells8 bs) rfl (H.newBk [.int .u8 ((wt:Int) % 256)] _).swap (some ⟨j.heap.size,0,none⟩) 1 1 [.int .u8 ((wt:Int) % 256)] rfl rfl (Rd.of_blk ((H.newBk [.int .u8 ((wt:Int) % 256)] _).blk 0 rfl)) (by intro u O; rw [List.mem_singleton.1 O]; rfl) (by unfold maxLen; omega) (by omega) ?_)
  intro S w' P _;clear B J;go_wp2;go_ret;refine⟨_,rfl,?_⟩;have Q:=Sp.swap (x.out _ _ (P.pick 4 [2,3,0]));rw [y.out,if_pos C,F.out];have R:cells8 (bs++[UInt8.ofNat (wt % 256)])=cells8 bs++[.int .u8 ((wt:Int) % 256)]:=by simp [cells8]
  rw [R];exact Q
 ·have r : ¬ (0:Int)<m:=by omega
  clear B;go_wp2;go_ret;refine⟨_,rfl,?_⟩;rw [y.out,if_neg C,G.out];exact(x.out _ _ (H.pick 3 [1,2,0])).swap
theorem p256 (j:Nat):(256:Nat) ^ j=2 ^ (8 * j):=by rw [show(256:Nat)=2 ^ 8 by decide,<- Nat.pow_mul]
structure Thing where
 n:Nat
 m:Nat
 c:Bool
 b:List UInt8
 v:Value
namespace Thing
def k (x:Thing):Nat:=x.m % 58
def num (x:Thing):Nat:=x.n % 2 ^ x.k
def by_ (x:Thing):List UInt8:=x.b.take 20
def lies (x:Thing):Nat:=if x.by_≠[] then PBits.le x.by_ else if x.c then PBits.rev x.num x.k else x.num
def from_ (x:Thing) (N:Nat):Nat:=if x.by_≠[] then (N+7) / 8 * 8 else N
def size (x:Thing):Nat:=if x.by_≠[] then 8 * x.by_.length else x.k
def stp (s:Nat × Nat) (x:Thing):Nat × Nat:=(s.1+x.lies * 2 ^ x.from_ s.2,x.from_ s.2+x.size)
def st (l:List Thing):Nat × Nat:=l.foldl stp (0,0)
def row (l:List Thing):List UInt8:=PBits.bytesOf (st l).1 (((st l).2+7) / 8)
end Thing
namespace PBits
def num:List Bool->Nat
 | []=>0
 | b::l=>b.toNat+2 * num l
def bitsOf (n:Nat):Nat->List Bool
 | 0=>[]
 | k+1=>(n % 2 == 1)::bitsOf (n / 2) k
theorem bitsOf_length (n k:Nat):(bitsOf n k).length=k:=by
 induction k generalizing n with
 | zero=>rfl
 | succ k ih=>simp [bitsOf,ih]
theorem num_lt (l:List Bool):num l<2 ^ l.length:=by
 induction l with
 | nil=>simp [num]
 | cons b l ih =>
  have:b.toNat<=1:=by cases b <;> decide
  simp only [num,List.length_cons,Nat.pow_succ];omega
theorem num_append (a b:List Bool):num (a++b)=num a+2 ^ a.length * num b:=by
 induction a with
 | nil=>simp [num]
 | cons x a ih =>
  simp only [List.cons_append,num,ih,List.length_cons,Nat.pow_succ,Nat.mul_add];rw [<- Nat.mul_assoc,Nat.mul_comm 2 (2 ^ a.length)];omega
theorem num_bitsOf (n k:Nat):num (bitsOf n k)=n % 2 ^ k:=by
 induction k generalizing n with
 | zero=>simp [bitsOf,num,Nat.mod_one]
 | succ k ih =>
  have h:=Nat.mod_mul (x:=n) (a:=2) (b:=2 ^ k);have e:(2:Nat) ^ (k+1)=2 * 2 ^ k:=by rw [Nat.pow_succ,Nat.mul_comm]
  have c:(n % 2 == 1).toNat=n % 2:=by
   rcases Nat.mod_two_eq_zero_or_one n with h | h <;> rw [h] <;> rfl
  simp only [bitsOf,num,ih,c,e,h]
theorem bitsOf_snoc (n j:Nat):bitsOf n (j+1)=bitsOf n j++[n / 2 ^ j % 2 == 1]:=by
 induction j generalizing n with
 | zero=>simp [bitsOf]
 | succ j ih =>
  rw [bitsOf,ih (n / 2),bitsOf,Nat.div_div_eq_div_mul,Nat.pow_succ,Nat.mul_comm (2 ^ j) 2];rfl
theorem num_rev_bitsOf (n k:Nat):num (bitsOf n k).reverse=rev n k:=by
 induction k generalizing n with
 | zero=>rfl
 | succ k ih =>
  have a:(n % 2 == 1).toNat=n % 2:=by
   rcases Nat.mod_two_eq_zero_or_one n with h | h <;> rw [h] <;> rfl
  rw [bitsOf,List.reverse_cons,num_append,ih,List.length_reverse,bitsOf_length,rev];simp only [num,a];rw [Nat.mul_zero,Nat.add_zero,Nat.mul_comm,Nat.add_comm]
theorem num_false (m:Nat):num (List.replicate m false)=0:=by
 induction m with
 | zero=>rfl
 | succ m ih=>simp [List.replicate_succ,num,ih]
theorem num_drop (l:List Bool) (q:Nat):num (l.drop q)=num l / 2 ^ q:=by
 by_cases h:q<=l.length
 ·conv=>rhs; rw [<- List.take_append_drop q l,num_append]
  have a:=num_lt (l.take q);have b:(l.take q).length=q:=by simp [h]
  rw [b] at a ⊢;rw [Nat.add_mul_div_left _ _ (Nat.two_pow_pos q),Nat.div_eq_of_lt a,Nat.zero_add]
 ·rw [List.drop_eq_nil_of_le (by omega)];have a:=num_lt l;rw [Nat.div_eq_of_lt (Nat.lt_of_lt_of_le a (Nat.pow_le_pow_right (by decide) (by omega)))];rfl
theorem num_take (l:List Bool) (k:Nat) (h:k<=l.length):num (l.take k)=num l % 2 ^ k:=by
 conv=>rhs; rw [<- List.take_append_drop k l,num_append]
 have b:(l.take k).length=k:=by simp [h]
 have a:=num_lt (l.take k);rw [b] at a ⊢;rw [Nat.add_mul_mod_self_left,Nat.mod_eq_of_lt a]
def ofB:List UInt8->List Bool
 | []=>[]
 | c::l=>bitsOf c.toNat 8++ofB l
theorem ofB_length (l:List UInt8):(ofB l).length=8 * l.length:=by
 induction l with
 | nil=>rfl
 | cons c l ih=>simp only [ofB,List.length_append,bitsOf_length,ih,List.length_cons]; omega
theorem num_ofB (l:List UInt8):num (ofB l)=le l:=by
 induction l with
 | nil=>rfl
 | cons c l ih =>
  have a:=c.toNat_lt;rw [ofB,num_append,num_bitsOf,bitsOf_length,ih,le,Nat.mod_eq_of_lt a]
theorem ofB_snoc (l:List UInt8) (c:UInt8):ofB (l++[c])=ofB l++bitsOf c.toNat 8:=by
 induction l with
 | nil=>simp [ofB]
 | cons d l ih=>simp [ofB,ih]
theorem num_mid (l:List Bool) (a k:Nat) (h:a+k<=l.length):num ((l.drop a).take k)=num l / 2 ^ a % 2 ^ k:=by
 rw [num_take _ _ (by simp; omega),num_drop]
theorem num_step (l:List Bool) (i:Nat) (h:i<l.length):num (l.drop i)=l[i].toNat+2 * num (l.drop (i+1)):=by
 rw [List.drop_eq_getElem_cons h]; rfl
end PBits
namespace PI
def numAt (B:List Bool) (a k:Nat):Nat:=PBits.num ((B.drop a).take k)
def number (B:List Bool) (a k:Nat):Except Nat (Nat × Nat):=if a+k<=B.length then .ok (a+k,numAt B a k) else .error 4
def mostN (m:List Nat):Nat:=if PH.state m=0 then 15 else 1
theorem mostN_of (m:List Nat):mostOf m=(mostN m:Int):=by unfold mostOf mostN; split <;> rfl
theorem mostN_le (m:List Nat):mostN m<=15:=by unfold mostN; split <;> omega
def sign (B:List Bool) (m:List Nat) (a:Nat):Except Nat (Nat × Nat) :=
 if (PH.nextFrom m (B.drop a) (mostN m) 0).2.1=0 then .ok (a+(PH.nextFrom m (B.drop a) (mostN m) 0).1,(PH.nextFrom m (B.drop a) (mostN m) 0).2.2) else .error (PH.nextFrom m (B.drop a) (mostN m) 0).2.1.toNat
def lengthsT:List (Nat × Nat):=[(3,0),(4,0),(5,0),(6,0),(7,0),(8,0),(9,0),(10,0),(11,1),(13,1),(15,1),(17,1),(19,2),(23,2),(27,2),(31,2),(35,3),(43,3),(51,3),(59,3),(67,4),(83,4),(99,4),(115,4),(131,5),(163,5),(195,5),(227,5)]
def awayT:List (Nat × Nat):=[(1,0),(2,0),(3,0),(4,0),(5,1),(7,1),(9,2),(13,2),(17,3),(25,3),(33,4),(49,4),(65,5),(97,5),(129,6),(193,6),(257,7),(385,7),(513,8),(769,8),(1025,9),(1537,9),(2049,10),(3073,10),(4097,11),(6145,11),(8193,12),(12289,12),(16385,13),(24577,13)]
def orderT:List Nat:=[16,17,18,0,8,7,9,6,10,5,11,4,12,3,13,2,14,1,15]
def count (B:List Bool) (t:List (Nat × Nat)) (s a:Nat):Except Nat (Nat × Nat) :=
 if s<t.length then (number B a (t.getD s (0,0)).2).bind fun r=>.ok (r.1,(t.getD s (0,0)).1+r.2) else .error 20
def length (B:List Bool) (s a:Nat):Except Nat (Nat × Nat):=if s=28 then .ok (a,258) else count B lengthsT s a
def copy (back:Nat):Nat->List UInt8->List UInt8
 | 0,out=>out
 | n+1,out=>copy back n (out++[out.getD (out.length - back) 0])
theorem copy_len (back n:Nat) (out:List UInt8):(copy back n out).length=out.length+n:=by
 induction n generalizing out with
 | zero=>rfl
 | succ n ih=>rw [copy,ih]; simp; omega
def stepP (B:List Bool) (most:Nat) (m d:List Nat) (a:Nat) (out:List UInt8):Except Nat (Bool × Nat × List UInt8) :=
 (sign B m a).bind fun r =>
  if r.2=256 then .ok (true,r.1,out)
  else if r.2<256 then (if most - out.length<1 then .error 22 else .ok (false,r.1,out++[UInt8.ofNat r.2]))
  else (length B (r.2 - 257) r.1).bind fun n=>(sign B d n.1).bind fun t=>(count B awayT t.2 t.1).bind fun k =>
   if out.length<k.2 then .error 20 else if most - out.length<n.2 then .error 22 else .ok (false,k.1,copy k.2 n.2 out)
def pressed (B:List Bool) (most:Nat) (m d:List Nat):Nat->Nat->List UInt8->Except Nat (Nat × List UInt8)
 | 0,_,_=>.error 0
 | f+1,a,out=>(stepP B most m d a out).bind fun r=>if r.1 then .ok r.2 else pressed B most m d f r.2.1 r.2.2
def fill (many:Nat) (acc:List Nat) (v k a:Nat):Except Nat (Nat × List Nat):=if many - acc.length<k then .error 20 else .ok (a,acc++List.replicate k v)
def stepL (B:List Bool) (m:List Nat) (many a:Nat) (acc:List Nat):Except Nat (Nat × List Nat) :=
 (sign B m a).bind fun r =>
  if r.2=16 then (if acc.length=0 then .error 20 else (number B r.1 2).bind fun n=>fill many acc (acc.getD (acc.length - 1) 0) (3+n.2) n.1)
  else if r.2=17 then (number B r.1 3).bind fun n=>fill many acc 0 (3+n.2) n.1
  else if r.2=18 then (number B r.1 7).bind fun n=>fill many acc 0 (11+n.2) n.1
  else fill many acc r.2 1 r.1
def lens (B:List Bool) (m:List Nat) (many:Nat):Nat->Nat->List Nat->Except Nat (Nat × List Nat)
 | 0,_,_=>.error 0
 | f+1,a,acc=>if acc.length<many then (stepL B m many a acc).bind fun r=>lens B m many f r.1 r.2 else .ok (a,acc)
def firsts (B:List Bool):List Nat->Nat->List Nat->Except Nat (Nat × List Nat)
 | [],a,l=>.ok (a,l)
 | s::rest,a,l=>(number B a 3).bind fun r=>firsts B rest r.1 (l.set s r.2)
def book (m:List Nat):Bool:=PH.okB (castI m)
def dynamic (B:List Bool) (a:Nat):Except Nat (Nat × List Nat × List Nat) :=
 (number B a 5).bind fun l=>(number B l.1 5).bind fun d=>(number B d.1 4).bind fun c =>
  if 286<l.2+257∨30<d.2+1 then .error 20 else
  (firsts B (orderT.take (c.2+4)) c.1 (List.replicate 19 0)).bind fun f =>
  if book f.2=true then
   (lens B f.2 (l.2+257+(d.2+1)) (l.2+257+(d.2+1)+1) f.1 []).bind fun r =>
   if r.2.getD 256 0=0 then .error 20 else
   if book (r.2.take (l.2+257))=true then (if book (r.2.drop (l.2+257))=true then .ok (r.1,r.2.take (l.2+257),r.2.drop (l.2+257)) else .error 20) else .error 20
  else .error 20
def fixedL:List Nat:=List.replicate 144 8++List.replicate 112 9++List.replicate 24 7++List.replicate 8 8
def fixedD:List Nat:=List.replicate 32 5
def bytesAt (B:List Bool) (a n:Nat):List UInt8:=(List.range n).map fun i=>UInt8.ofNat (numAt B (a+8 * i) 8)
def stored (B:List Bool) (most a:Nat) (out:List UInt8):Except Nat (Nat × List UInt8) :=
 (number B ((a+7) / 8 * 8) 16).bind fun n=>(number B n.1 16).bind fun k =>
  if k.2≠65535 - n.2 then .error 20 else
  if (B.length - k.1) / 8<n.2 then (if most - out.length<(B.length - k.1) / 8 then .error 22 else .error 4) else
  if most - out.length<n.2 then .error 22 else .ok (k.1+8 * n.2,out++bytesAt B k.1 n.2)
def body (B:List Bool) (most kind a:Nat) (out:List UInt8):Except Nat (Nat × List UInt8) :=
 if kind=0 then stored B most a out
 else if kind=1 then pressed B most fixedL fixedD (B.length+1) a out
 else if kind=2 then (dynamic B a).bind fun r=>pressed B most r.2.1 r.2.2 (B.length+1) r.1 out
 else .error 20
structure Blk where
 kind:Nat
 last:Bool
 from_:Nat
 to_:Nat
deriving DecidableEq
def block (B:List Bool) (most a:Nat) (out:List UInt8):Except Nat (Bool × Nat × Nat × List UInt8) :=
 (number B a 1).bind fun l=>(number B l.1 2).bind fun k=>(body B most k.2 k.1 out).bind fun r=>.ok (l.2 == 1,k.2,r.1,r.2)
def blocks (B:List Bool) (most:Nat):Nat->Nat->List UInt8->List Blk->Except Nat (Nat × List UInt8 × List Blk)
 | 0,_,_,_=>.error 0
 | f+1,a,out,bl=>(block B most a out).bind fun r =>
  if r.1 then .ok (r.2.2.1,r.2.2.2,bl++[⟨r.2.1,r.1,out.length,r.2.2.2.length⟩]) else blocks B most f r.2.2.1 r.2.2.2 (bl++[⟨r.2.1,r.1,out.length,r.2.2.2.length⟩])
def all (B:List Bool) (most:Nat):Except Nat (Nat × List UInt8 × List Blk):=blocks B most (B.length+1) 0 [] []

/-! What goes on, and what is enough. -/
theorem ZG {B:List Bool} {a k:Nat} {r:Nat × Nat} (h:number B a k=.ok r):r=(a+k,numAt B a k)/\a+k<=B.length:=by
 unfold number at h;split at h
 ·rename_i h2; cases h; exact⟨rfl,h2⟩
 ·cases h
theorem number_err {B:List Bool} {a k e:Nat} (h:number B a k=.error e):e=4/\B.length<a+k:=by
 unfold number at h;split at h
 ·cases h
 ·cases h; exact⟨rfl,by omega⟩
theorem next_facts (m:List Nat) (l:List Bool) (mo:Nat) (h:mo<=15):(PH.nextFrom m l mo 0).1<=l.length/\((PH.nextFrom m l mo 0).2.1=0/\1<=(PH.nextFrom m l mo 0).1∨(PH.nextFrom m l mo 0).2.1=4∨(PH.nextFrom m l mo 0).2.1=20):=by
 have:=PH.nextFrom_err m l mo 0 (Nat.zero_le _) (by omega) (.inr trivial);exact⟨this.2.1,this.2.2⟩
theorem sign_ok {B:List Bool} {m:List Nat} {a:Nat} {r:Nat × Nat} (ha:a<=B.length) (h:sign B m a=.ok r):a<r.1/\r.1<=B.length:=by
 have b:=next_facts m (B.drop a) (mostN m) (mostN_le m);unfold sign at h;split at h
 ·rename_i h2
  cases h
  rw [List.length_drop] at b;show a<a+_/\a+_<=_;omega
 ·cases h
theorem sign_err {B:List Bool} {m:List Nat} {a e:Nat} (h:sign B m a=.error e):e=4∨e=20:=by
 have b:=next_facts m (B.drop a) (mostN m) (mostN_le m);unfold sign at h;split at h
 ·cases h
 ·cases h; omega
theorem bind_ok {α β:Type} {x:Except Nat α} {f:α->Except Nat β} {b:β} (h:x.bind f=.ok b):∃a,x=.ok a/\f a=.ok b:=by
 cases x with
 | error e=>cases h
 | ok a=>exact⟨a,rfl,h⟩
theorem count_ok {B:List Bool} {t:List (Nat × Nat)} {s a:Nat} {r:Nat × Nat} (h:count B t s a=.ok r):a<=r.1/\(a<=B.length->r.1<=B.length):=by
 unfold count at h;split at h
 ·obtain⟨q,b,c⟩:=bind_ok h;cases c
  obtain⟨rfl,d⟩:=ZG b;exact⟨by show a<=a+_; omega,fun _=>d⟩
 ·cases h
theorem length_ok {B:List Bool} {s a:Nat} {r:Nat × Nat} (h:length B s a=.ok r):a<=r.1/\(a<=B.length->r.1<=B.length):=by
 unfold length at h;split at h
 ·cases h; exact⟨Nat.le_refl _,id⟩
 ·exact count_ok h
theorem stepP_ok {B:List Bool} {most:Nat} {m d:List Nat} {a:Nat} {out:List UInt8} {r:Bool × Nat × List UInt8} (ha:a<=B.length) (h:stepP B most m d a out=.ok r):a<r.2.1/\r.2.1<=B.length/\(out.length<=most->r.2.2.length<=most):=by
 unfold stepP at h;obtain⟨s,e,h⟩:=bind_ok h;obtain⟨c,b⟩:=sign_ok ha e;split at h
 ·cases h; exact⟨c,b,id⟩
 split at h
 ·split at h
  ·cases h
  ·cases h; exact⟨c,b,fun _=>by simp; omega⟩
 obtain⟨n,f,h⟩:=bind_ok h;obtain⟨t,g,h⟩:=bind_ok h;obtain⟨k,i,h⟩:=bind_ok h;obtain⟨p,j⟩:=length_ok f;obtain⟨q,l⟩:=sign_ok (j b) g;obtain⟨u,o⟩:=count_ok i;split at h
 ·cases h
 split at h
 ·cases h
 ·cases h; exact⟨by show a<k.1; omega,o l,fun _=>by show(copy _ _ _).length<=_; rw [copy_len]; omega⟩
theorem pressed_more {B:List Bool} {most:Nat} {m d:List Nat} : ∀(f g a:Nat) (out:List UInt8),a<=B.length->B.length<a+f->B.length<a+g->pressed B most m d f a out=pressed B most m d g a out:=by
 intro f;induction f with
 | zero=>intro g a out b c; omega
 | succ f ih =>
  intro g a out b c i;cases g with
  | zero=>omega
  | succ g =>
   rw [pressed,pressed];cases hs:stepP B most m d a out with
   | error e=>rfl
   | ok r =>
    obtain⟨j,h,_⟩:=stepP_ok b hs;show(if r.1 then _ else _)=(if r.1 then _ else _);split
    ·rfl
    ·exact ih g _ _ h (by omega) (by omega)
end PI
end Go.Proofs.YteajimobgkempaaGreatDoor

