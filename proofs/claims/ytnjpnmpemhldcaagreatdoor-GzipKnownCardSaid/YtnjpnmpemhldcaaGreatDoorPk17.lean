/- A pack. -/
import Derived.Test.YtnjpnmpemhldcaaGreatDoorPk16
set_option linter.all false
set_option maxRecDepth 100000
set_option maxHeartbeats 8000000
namespace Go.Proofs.YtnjpnmpemhldcaaGreatDoor
variable {w0 w:World} {L:List Pr}
open Go.RowKit
theorem two64 (a:Nat) (h:a<=64):2 ^ a<=18446744073709551616:=by
 have:=Nat.pow_le_pow_right (n:=2) (by decide) h;exact this
theorem Tk (V N:Nat) (h:V<2 ^ N):V / 256 ^ (N / 8)<2 ^ (N % 8):=by
 have a:(256:Nat) ^ (N / 8)=2 ^ (8 * (N / 8)):=by rw [show(256:Nat)=2 ^ 8 by decide,<- Nat.pow_mul]
 rw [a];apply Nat.div_lt_of_lt_mul;rw [<- Nat.pow_add]
 rwa [show 8 * (N / 8)+N % 8=N by omega]
theorem Vs (g V N n k:Nat) (H:Sp w0 (Wr g V N::L) w) (hV:V<2 ^ N) (hk:k<=57) (hn:n<2 ^ k) (hN:N<=1000000000) :
  Calls Tryz.prog 140 #[.pointer (some ⟨g,0,none⟩),.int .u64 n,.int .i64 k] w fun e w'=>e=.returned (.int .i64 0)/\Sp w0 (Wr g (V+n * 2 ^ N) (N+k)::L) w':=by
 obtain⟨v,H⟩:=H.unex;replace H:=H.unstar;have Y:((n:Int) / 2 ^ k == 0)=true:=by
  rw [beq_iff_eq];have:n / 2 ^ k=0:=Nat.div_eq_of_lt hn
  exact_mod_cast this
 have Z:w.cell? ⟨g,3,none⟩=some (.bool true):=H.cell 0 rfl 3;go_enter Tryz.func140,Tryz.ntmps140
 go_wp2_with fail
 refine(Xj g k _ Z (by omega) (by omega)).mono ?_;rintro e w2 ⟨rfl,rfl⟩;clear Y Z;obtain⟨m,C⟩:∃m,m=N % 8:=⟨_,rfl⟩;obtain⟨wt,o⟩:∃wt,wt=V / 256 ^ (N / 8):=⟨_,rfl⟩;rw [<- C,<- o] at H;have a0:m<8:=by omega
 have D:wt<2 ^ m:=by rw [o,C]; exact Tk V N hV
 have E:wt<18446744073709551616:=Nat.lt_of_lt_of_le D (two64 _ (by omega));have I:n * 2 ^ m<18446744073709551616:=by
  have h1:n * 2 ^ m<2 ^ k * 2 ^ m:=Nat.mul_lt_mul_of_pos_right hn (Nat.two_pow_pos m);rw [<- Nat.pow_add] at h1;exact Nat.lt_of_lt_of_le h1 (two64 _ (by omega))
 have s1:IntKind.u64.wrap ((n:Int) * 2 ^ m)=((n * 2 ^ m:Nat):Int):=by
  rw [show((n:Int) * 2 ^ m)=((n * 2 ^ m:Nat):Int) by simp,IntKind.wrap_u64];generalize n * 2 ^ m=q at I;omega
 have J:bits .or .u64 (wt:Int) ((n * 2 ^ m:Nat):Int)=((wt+n * 2 ^ m:Nat):Int):=by
  rw [u64_or_nat _ _ E I,Nat.mul_comm n,Nat.add_comm,Nat.two_pow_add_eq_or_of_lt D,Nat.or_comm]
 obtain⟨sh,r⟩:∃sh,sh=n * 2 ^ m:=⟨_,rfl⟩;rw [<- r] at s1 J;obtain⟨F,s⟩:∃F,F=wt+sh:=⟨_,rfl⟩;rw [<- s] at J;have e1:F=(V+n * 2 ^ N) / 256 ^ (N / 8):=by rw [PBits.put_wait,s,r,o,C]
 have e2:m+k=N+k - 8 * (N / 8):=by rw [C]; omega
 have E1:=hid e1;have E2:=hid e2;clear r s I C o e1 e2;have G:w.cell? ⟨g,1,none⟩=some (.int .u64 wt):=H.cell 0 rfl 1;have c2:w.cell? ⟨g,2,none⟩=some (.int .i64 m):=H.cell 0 rfl 2;have z1:w.frozen? ⟨g,1,none⟩=false:=H.frozen 0 rfl 1;have z2:w.frozen? ⟨g,2,none⟩=false:=H.frozen 0 rfl 2;go_wp2;go_still_tail 13,(by kernel_rfl)
 change wpList _ _ _ _ _ w.drew;go_wp2;go_loopw [] (fun wr=>∃(q mm:Nat) (v:Value),N / 8<=q/\mm+8 * q=N+k/\Sp w0 (WrB g v ((V+n * 2 ^ N) / 256 ^ q) mm::Row 5 1 v q (cells8 (PBits.bytesOf (V+n * 2 ^ N) q))::L) wr) (fun wr=>match wr.cell? ⟨g,2,none⟩ with | some i=>(intOf i).toNat | none=>0)
 case atStart =>
  refine⟨N / 8,m+k,v,Nat.le_refl _,by rw [E2.out]; omega,?_⟩;rw [PBits.put_bytes,<- E1.out];exact(H.drew.set 1 (.int .u64 F)).set 2 (.int .i64 ((m:Int)+k))
 case round =>
  obtain⟨q,mm,v',a1,a2,H⟩:=hrel;clear z1 z2 G c2 s1 J;have r2:wr.cell? ⟨g,2,none⟩=some (.int .i64 mm):=H.cell 0 rfl 2;by_cases h8:8<=mm
  ·have M : (8:Int)<=mm:=by omega
   go_wp2;obtain⟨h,t⟩:∃h,h=(V+n * 2 ^ N) / 256 ^ q:=⟨_,rfl⟩;obtain⟨p,y⟩:∃p,p=cells8 (PBits.bytesOf (V+n * 2 ^ N) q):=⟨_,rfl⟩;rw [<- t,<- y] at H;have H0:=H;have HW:=hid t;have HB:=hid y;clear t y;refine Zb (L:=L) [some (.pointer (some ⟨g,0,none⟩)),some (.pointer (some ⟨g,0,none⟩)),some (.pointer (some ⟨g,0,none⟩)),some (.pointer (some ⟨g,0,none⟩)),some (v'),some (.pointer (some ⟨g,0,none⟩)),some (.pointer (some ⟨g,0,none⟩)),some (.pointer (some ⟨g,1,none⟩)),some (.int .u64 h),some (.int .u8 ((h:Int) % 256)),none,none,some (.pointer (some ⟨g,0,none⟩)),some (.pointer (some ⟨g,0,none⟩)),some (undef)] (fun ix vx=>match ix with | 10=>(fun v=>v=.slice (some ⟨v.ownBlock.getD 0,0,none⟩) 1 1) vx | 11=>(fun _=>True) vx | _=>True) (fun ix vx=>match ix with | 10=>(fun v=>[Bk (v.ownBlock.getD 0) 5 [.int .u8 ((h:Int) % 256)]]) vx | 11=>(fun v=>[Row 5 1 v (q+1) (p++[.int .u8 ((h:Int) % 256)])]) vx | 14=>(fun _=>[Ex fun u=>Star (WrB g u h mm) (Row 5 1 u (q+1) (p++[.int .u8 ((h:Int) % 256)]))]) vx | _=>[]) (fun ix=>match ix with | 11=>[Row 5 1 v' q p] | 14=>[WrB g v' h mm] | _=>[]) 15 77
    [some 49,some 50,some 51,some 52,some 53,some 54,some 55,some 56,some 57,some 58,some 59,some 60,some 61,some 62,none]
    [[],[],[1],[2],[3],[],[5],[6],[7],[8],[9],[4,10],[0,0,1,2,3,4,5,6,7,8,9,10,11],[12,0,1,2,3,4,5,6,7,8,9,10,11],[13,11,11,0,1,2,3,4,5,6,7,8,9,10,11]]
    [[],[],[1],[1,2],[1,2,3],[],[5],[5,6],[5,6,7],[5,6,7,8],[5,6,7,8,9],[1,2,3,4,5,6,7,8,9,10],[0,1,2,3,4,5,6,7,8,9,10,11],[0,1,2,3,4,5,6,7,8,9,10,11,12],[0,1,2,3,4,5,6,7,8,9,10,11,12,13]]
    [[],[],[],[],[],[],[],[],[],[],[],[10],[],[],[11]] [[],[],[],[],[14],[],[],[],[14],[],[],[],[],[],[]] [(0,.pointer (some ⟨g,0,none⟩))]
    (by kernel_rfl) rfl (by decide) (by rfl) (by decide +kernel) rfl rfl (by simp) ((H.pick 2 [1,0])) ?hstep ?hend
   case hstep =>
    refine⟨?p0,⟨?p1,⟨?p2,⟨?p3,⟨?p4,⟨?p5,⟨?p6,⟨?p7,⟨?p8,⟨?p9,⟨?p10,⟨?p11,⟨?p12,⟨?p13,⟨?p14,trivial⟩⟩⟩⟩⟩⟩⟩⟩⟩⟩⟩⟩⟩⟩⟩
    case p0 | p1 | p2 | p3 | p5 | p6 | p7 | p9 | p12 | p13 =>
     intro x wx A a d j f l H K hK;replace hK:=hid hK;clear f l d;repeat (obtain⟨_,j⟩:=j)
     refine so ?_;go_step;exact hK.out _ _ rfl H
    case p4 =>
     intro x wx A a d j f l H K b;have a3:=tq f 3;replace H:Sp w0 (_::a) wx:=H;have hK:=hid b;clear b j f l d;have c:wx.cell? ⟨g,0,none⟩=some v':=H.cell 0 rfl 0;refine so ?_;go_step;exact hK.out _ _ rfl H
    case p8 =>
     intro x wx A a d j f l H K b;have a4:=tq f 7;replace H:Sp w0 (_::a) wx:=H;have hK:=hid b;clear b j f l d;have c:wx.cell? ⟨g,1,none⟩=some (.int .u64 h):=H.cell 0 rfl 1;refine so ?_;go_step;exact hK.out _ _ rfl H
    case p10 =>
     intro x wx A a d j f l H K b;have a5:=tq f 9;have hK:=hid b;clear b j f l d;refine so ?_;go_step;exact hK.out _ _ rfl (H.newBk _ _)
    case p11 =>
     intro x wx A a d j f l H K b;have O:=tq f 4;have P:(x 10)=.slice (some ⟨(x 10).ownBlock.getD 0,0,none⟩) 1 1:=(f 10 (by decide)).1;have B:=(f 10 (by decide)).2 59 rfl;replace H:Sp w0 (_::(Bk ((x 10).ownBlock.getD 0) 5 [.int .u8 ((h:Int) % 256)])::a) wx:=H;have hK:Hid (∀(v:Value) (w' : World),True->Sp w0 ((Row 5 1 v (q+1) (p++[.int .u8 ((h:Int) % 256)]))::a) w'->K (A.put (some 60) v) w'):=hid b;clear b j f l d;obtain⟨g9,e9⟩:=exq ((x 10).ownBlock.getD 0);rw [P] at B;rw [e9] at B H;refine so ?_;obtain⟨i0,hi,Q,R,S⟩:=info_parts info8;refine Zi _ _ 23 rfl 5 i0 (.int .u8 0) 1 1 Tryz.underlying23 hi Q R S rfl (by decide) v' q p (ev O) H (some ⟨g9,0,none⟩) 1 1 [.int .u8 ((h:Int) % 256)] (ev B) rfl (Rd.of_blk (H.blk 1 rfl)) (by intro u hu; rw [List.mem_singleton.1 hu]; rfl) (by simp only [maxLen]; omega) (by omega) ?_;intro v1 w2 T _;exact hK.out _ _ trivial T.swap.tail
    case p14 =>
     intro x wx A a d j f l H K b;have a6:=tq f 13;have a7:True:=(f 11 (by decide)).1;have U:=(f 11 (by decide)).2 60 rfl;replace H:Sp w0 (_::(Row 5 1 (x 11) (q+1) (p++[.int .u8 ((h:Int) % 256)]))::a) wx:=H;have hK:=hid b;clear b j f l d;have c:wx.cell? ⟨g,0,none⟩=some v':=H.cell 0 rfl 0;have z:wx.frozen? ⟨g,0,none⟩=false:=H.frozen 0 rfl 0;obtain⟨A1,G,W,_,_⟩:=Row.form H 1 rfl;refine so ?_;rw [W] at U H;go_step;exact hK.out _ _ rfl (Sp.ex (.slice A1 (q+1) G) (Sp.star (H.set 0 (.slice A1 (q+1) G))))
   case hend =>
    intro x wx A hA f H;replace H:Sp w0 (_::L) wx:=H;clear f;simp only [putAll,Act.put,List.setIfInBounds_toArray,List.set_cons_succ,List.set_cons_zero,Nat.reduceAdd] at hA;subst hA;obtain⟨u,H⟩:=H.unex;replace H:=H.unstar;have Y:wx.cell? ⟨g,1,none⟩=some (.int .u64 h):=H.cell 0 rfl 1;have d2:wx.cell? ⟨g,2,none⟩=some (.int .i64 mm):=H.cell 0 rfl 2;have z1:wx.frozen? ⟨g,1,none⟩=false:=H.frozen 0 rfl 1;have z2:wx.frozen? ⟨g,2,none⟩=false:=H.frozen 0 rfl 2;clear r2;have X : mm<=1000000100:=by omega
    go_wp2;go_roundw
    case rel =>
     refine⟨q+1,mm - 8,u,by omega,by omega,?_⟩;rw [PBits.byte_next,<- PBits.div_next,<- HW.out];have e8:cells8 (PBits.bytesOf (V+n * 2 ^ N) q++[UInt8.ofNat (h % 256)])=p++[.int .u8 ((h:Int) % 256)]:=by
      rw [HB.out]; simp [cells8]
     rw [e8];have T:=(H.set 1 (.int .u64 ((h:Int) / 256))).set 2 (.int .i64 ((mm:Int) - 8));have W:((h / 256:Nat):Int)=(h:Int) / 256:=by omega
     have eb:((mm - 8:Nat):Int)=(mm:Int) - 8:=by omega
     unfold WrB;rw [W,eb];exact T
    case measure =>
     have m1:wr.cell? ⟨g,2,none⟩=some (.int .i64 mm):=H0.cell 0 rfl 2;have m2:=((H.set 1 (.int .u64 ((h:Int) / 256))).set 2 (.int .i64 ((mm:Int) - 8))).cell 0 rfl 2;simp only [m1,m2];simp [intOf];omega
  ·have M : ¬ (8:Int)<=mm:=by omega
   go_wp2;go_ret;obtain rfl:q=(N+k) / 8:=by omega
   obtain rfl:mm=(N+k) % 8:=by omega
   exact⟨rfl,H.star.ex v'⟩
theorem YA {g V N:Nat} (H:Sp w0 (Wr g V N::L) w):w.cell? ⟨g,3,none⟩=some (.bool true):=by
 obtain⟨v,H⟩:=H.unex;exact H.unstar.cell 0 rfl 3
theorem Tl (g V N n k:Nat) (H:Sp w0 (Wr g V N::L) w) (hV:V<2 ^ N) (hk:k<=57) (hn:n<2 ^ k) (hN:N<=1000000000) :
  Calls Tryz.prog 168 #[.pointer (some ⟨g,0,none⟩),.int .u64 n,.int .i64 k] w fun e w'=>e=.returned (.int .i64 0)/\Sp w0 (Wr g (V+PBits.rev n k * 2 ^ N) (N+k)::L) w':=by
 have c:((n:Int) / 2 ^ k == 0)=true:=by
  rw [beq_iff_eq];have:n / 2 ^ k=0:=Nat.div_eq_of_lt hn
  exact_mod_cast this
 have a:=YA H;go_enter Tryz.func168,Tryz.ntmps168
 go_wp2_with fail
 refine(Xj g k _ a (by omega) (by omega)).mono ?_;rintro e b ⟨rfl,rfl⟩;clear c a;go_wp2_with fail
 refine(XQ n k (k:Int) _ (Nat.lt_of_lt_of_le hn (two64 _ (by omega))) (by omega)).mono ?_;rintro e b ⟨rfl,rfl⟩;go_wp2_with fail
 refine(Vs g V N (PBits.rev n k) k H hV hk (PBits.rev_lt n k) hN).mono ?_;rintro e b ⟨rfl,H⟩;go_wp2;go_ret;exact⟨rfl,H⟩
theorem XD (H:Sp w0 L w) :
  Calls Tryz.prog 71 #[] w (Ret fun v w'=>∃g,v=.pointer (some ⟨g,0,none⟩)/\Sp w0 (Wr g 0 0::L) w'):=by
 go_enter Tryz.func71,Tryz.ntmps71
 go_wp2;go_ret;exact⟨_,rfl,_,rfl,Sp.ex (.slice none 0 0) (Sp.star (((H.rowNil 5 1).newBk _ _)))⟩
theorem Xk (x:Int):bits .and .i64 x 7=x % 8:=by
 have a:(BitVec.ofInt 64 (7:Int)).toNat=7:=rfl;show IntKind.i64.wrap ((BitVec.ofInt 64 x &&& BitVec.ofInt 64 (7:Int)).toNat:Int)=_;rw [BitVec.toNat_and,BitVec.toNat_ofInt,a,nat_mask3,IntKind.wrap_i64];omega
theorem Ul (g V N:Nat) (H:Sp w0 (Wr g V N::L) w) (hV:V<2 ^ N) (hN:N<=1000000000) :
  Calls Tryz.prog 139 #[.pointer (some ⟨g,0,none⟩)] w fun e w'=>e=.returned (.int .i64 0)/\Sp w0 (Wr g V ((N+7) / 8 * 8)::L) w':=by
 have b:=YA H;obtain⟨m,a⟩:∃m,m=N % 8:=⟨_,rfl⟩;have j:w.cell? ⟨g,2,none⟩=some (.int .i64 m):=by
  obtain⟨v,H⟩:=H.unex;rw [a];exact H.unstar.cell 0 rfl 2
 have c:m<8:=by omega
 have d:=hid a;clear a;have f:bits .and .i64 (-(m:Int)) 7=(((8 - m) % 8:Nat):Int):=by rw [Xk]; omega
 go_enter Tryz.func139,Tryz.ntmps139
 go_wp2_with fail
 refine(Yf g _ b).mono ?_;rintro e h ⟨rfl,rfl⟩;go_wp2_with fail
 refine(Vs g V N 0 ((8 - m) % 8) H hV (by omega) (Nat.two_pow_pos _) hN).mono ?_;rintro e h ⟨rfl,H⟩;clear f;go_wp2;go_ret;refine⟨rfl,?_⟩;have i:N+(8 - m) % 8=(N+7) / 8 * 8:=by rw [d.out]; omega
 rwa [Nat.zero_mul,Nat.add_zero,i] at H
theorem Um (g V N:Nat) {v:Value} {l:List UInt8} (H:Sp w0 (Wr g V N::L) w) (hb:Byt w v l) (hN8:N % 8=0) (hV:V<2 ^ N) (hN:N<=1000000000) (hl:l.length<=1000000000) :
  Calls Tryz.prog 141 #[.pointer (some ⟨g,0,none⟩),v] w fun e w'=>e=.returned (.int .i64 0)/\Sp w0 (Wr g (V+PBits.le l * 2 ^ N) (N+8 * l.length)::L) w':=by
 have j:=YA H;have q:=hid hN8;obtain⟨u,H⟩:=H.unex;replace H:=H.unstar;rw [hN8] at H;clear hN8;have r:w.cell? ⟨g,2,none⟩=some (.int .i64 0):=H.cell 0 rfl 2;have k:w.cell? ⟨g,0,none⟩=some u:=H.cell 0 rfl 0;have m:w.frozen? ⟨g,0,none⟩=false:=H.frozen 0 rfl 0;obtain⟨A,c,rfl,s,G,I⟩:=hb;obtain⟨t,x,d,f,h⟩:=info_parts info8;go_enter Tryz.func141,Tryz.ntmps141
 go_wp2_with fail
 refine(Xj g 0 _ j (by omega) (by omega)).mono ?_;rintro e J ⟨rfl,rfl⟩;go_wp2_with (at_builtin; refine Za rfl _ _ 23 rfl 5 t (.int .u8 0) 1 1 Tryz.underlying23 x d f h rfl (by decide) u (N / 8) (cells8 (PBits.bytesOf V (N / 8))) rfl H.swap A l.length c (cells8 l) rfl (by simp [cells8]) s (Zg l) (by unfold maxLen; omega) (by omega) ?_)
 intro K w' b _;clear k m r j;have k:w'.cell? ⟨g,0,none⟩=some u:=b.cell 1 rfl 0;have m:w'.frozen? ⟨g,0,none⟩=false:=b.frozen 1 rfl 0;obtain⟨n,o,rfl,_,_⟩:=Row.form b 0 rfl;go_wp2;go_ret;refine⟨rfl,Sp.ex (.slice n (N / 8+l.length) o) (Sp.star ?_)⟩;have p:=b.swap.set 0 (.slice n (N / 8+l.length) o);have i:=q.out;have y:(N+8 * l.length) / 8=N / 8+l.length:=by omega
 have z:(N+8 * l.length) % 8=0:=by omega
 have a:V<256 ^ (N / 8):=by
  have:=PBits.pow_parts N;rw [i] at this;simpa [this] using hV
 have B:(V+PBits.le l * 2 ^ N) / 256 ^ (N / 8+l.length)=0:=by
  have C:=PBits.le_lt l;rw [PBits.pow_parts N,i,Nat.pow_zero,Nat.one_mul,Nat.pow_add,<- Nat.div_div_eq_div_mul,Nat.add_mul_div_right _ _ (Nat.pow_pos (by decide)),Nat.div_eq_of_lt a,Nat.zero_add,Nat.div_eq_of_lt C]
 have D:PBits.bytesOf (V+PBits.le l * 2 ^ N) (N / 8+l.length)=PBits.bytesOf V (N / 8)++l:=by
  rw [PBits.bytesOf_add,PBits.put_bytes,PBits.pow_parts N,i,Nat.pow_zero,Nat.one_mul,Nat.add_mul_div_right _ _ (Nat.pow_pos (by decide)),Nat.div_eq_of_lt a,Nat.zero_add,PBits.bytesOf_le]
 have E:V / 256 ^ (N / 8)=0:=Nat.div_eq_of_lt a;rw [y,z,B,D];rw [E] at p;have F:cells8 (PBits.bytesOf V (N / 8)++l)=cells8 (PBits.bytesOf V (N / 8))++cells8 l:=by simp [cells8]
 rw [F];exact p
theorem TX (g V N:Nat) (H:Sp w0 (Wr g V N::L) w) (hN:N<=2000000000) :
  Calls Tryz.prog 109 #[.pointer (some ⟨g,0,none⟩)] w fun e w'=>e=.returned (.int .i64 N)/\Keep w w':=by
 have f:=YA H;obtain⟨v,H⟩:=H.unex;replace H:=H.unstar;obtain⟨q,b⟩:∃q,q=N / 8:=⟨_,rfl⟩;obtain⟨m,d⟩:∃m,m=N % 8:=⟨_,rfl⟩;rw [<- b,<- d] at H;have a : N=8 * q+m:=by omega
 clear b d;have h:=hid a;obtain⟨A,c,rfl,j,k⟩:=Row.form H 1 rfl;have l:w.cell? ⟨g,0,none⟩=some (.slice A q c):=H.cell 0 rfl 0;have n:w.cell? ⟨g,2,none⟩=some (.int .i64 m):=H.cell 0 rfl 2;have o:q<=250000000:=by omega
 have i:m<=2000000000:=by omega
 clear hN a;go_enter Tryz.func109,Tryz.ntmps109
 go_wp2_with fail
 refine(Yf g _ f).mono ?_;rintro e p ⟨rfl,rfl⟩;go_wp2;go_quiet (fail)
 go_wp2;go_ret;exact⟨ZU (by rw [h.out]; omega),Keep.drewN _ _⟩
theorem Tm (g V N:Nat) (H:Sp w0 (Wr g V N::L) w) (hN:N<=1000000000) :
  Calls Tryz.prog 74 #[.pointer (some ⟨g,0,none⟩)] w (Ret fun v w'=>Sp w0 (Row 5 1 v ((N+7) / 8) (cells8 (PBits.bytesOf V ((N+7) / 8)))::Wr g V N::L) w'):=by
 have s:=YA H;obtain⟨v,H⟩:=H.unex;replace H:=H.unstar;obtain⟨q,k⟩:=exq (N / 8);obtain⟨m,l⟩:=exq (N % 8);obtain⟨wt,f⟩:=exq (V / 256 ^ q);obtain⟨bs,a⟩:=exq (PBits.bytesOf V q);have h:bs.length=q:=by rw [<- a]; exact PBits.bytesOf_length _ _
 have t:∀L' w',Sp w0 (WrB g v wt m::Row 5 1 v q (cells8 bs)::L') w'->Sp w0 (Wr g V N::L') w':=fun L' w' H'=>Sp.ex v (Sp.star (by rw [k,l,f,a]; exact H'));rw [k,l,f,a] at H;have D:q<=130000000:=by omega
 have E:m<8:=by omega
 have b:(N+7) / 8=if 0<m then q+1 else q:=by split <;> omega
 have d:PBits.bytesOf V (q+1)=bs++[UInt8.ofNat (wt % 256)]:=by rw [PBits.byte_next,a,f]
 have i:Byt w v bs:=H.row_byt 1 (e:=5) (by rw [h]; rfl);have x:=hid t;have y:=hid b;have F:=hid d;have z:=hid h;have G:=hid a;clear t b d h k l f a hN;obtain⟨A,c,ev,_,_⟩:=Row.form H 1 rfl;subst ev;have I:w.cell? ⟨g,0,none⟩=some (.slice A q c):=H.cell 0 rfl 0;go_enter Tryz.func74,Tryz.ntmps74
 go_wp2_with fail
 refine(Yf g _ s).mono ?_;rintro e j ⟨rfl,rfl⟩;go_wp2_with fail
 refine(Yp H i (by rw [z.out]; omega)).mono ?_;rintro e j ⟨u,rfl,H⟩;rw [z.out] at H;clear I s;have B:j.cell? ⟨g,1,none⟩=some (.int .u64 wt):=H.cell 1 rfl 1;have J:j.cell? ⟨g,2,none⟩=some (.int .i64 m):=H.cell 1 rfl 2;obtain⟨K,M,n,o,p⟩:=info_parts info8;by_cases C:0<m
 ·have r : (0:Int)<m:=by omega
  go_wp2_with (at_builtin; refine Za rfl _ _ 23 rfl 5 K (.int .u8 0) 1 1 Tryz.underlying23 M n o p rfl (by decide) u q (cells8 bs) rfl (H.newBk [.int .u8 ((wt:Int) % 256)] _).swap (some ⟨j.heap.size,0,none⟩) 1 1 [.int .u8 ((wt:Int) % 256)] rfl rfl (Rd.of_blk ((H.newBk [.int .u8 ((wt:Int) % 256)] _).blk 0 rfl)) (by intro u O; rw [List.mem_singleton.1 O]; rfl) (by unfold maxLen; omega) (by omega) ?_)
  intro S w' P _;clear B J;go_wp2;go_ret;refine⟨_,rfl,?_⟩;have Q:=Sp.swap (x.out _ _ (P.pick 4 [2,3,0]));rw [y.out,if_pos C,F.out];have R:cells8 (bs++[UInt8.ofNat (wt % 256)])=cells8 bs++[.int .u8 ((wt:Int) % 256)]:=by simp [cells8]
  rw [R];exact Q
 ·have r : ¬ (0:Int)<m:=by omega
  clear B;go_wp2;go_ret;refine⟨_,rfl,?_⟩;rw [y.out,if_neg C,G.out];exact(x.out _ _ (H.pick 3 [1,2,0])).swap
namespace PBits
theorem le_drop (l:List UInt8) (q:Nat):le (l.drop q)=le l / 256 ^ q:=by
 by_cases h:q<=l.length
 ·conv=>rhs; rw [<- List.take_append_drop q l,le_append]
  have a:=le_lt (l.take q);have b:(l.take q).length=q:=by simp [h]
  rw [b] at a ⊢;rw [Nat.add_mul_div_left _ _ (Nat.pow_pos (by decide)),Nat.div_eq_of_lt a,Nat.zero_add]
 ·rw [List.drop_eq_nil_of_le (by omega)];have a:=le_lt l;rw [Nat.div_eq_of_lt (Nat.lt_of_lt_of_le a (Nat.pow_le_pow_right (by decide) (by omega)))];rfl
theorem le_byte (l:List UInt8) (i:Nat):le l / 256 ^ i % 256=(l.getD i 0).toNat:=by
 rw [<- le_drop];by_cases h:i<l.length
 ·rw [List.drop_eq_getElem_cons h,le,List.getD_eq_getElem?_getD,List.getElem?_eq_getElem h];have:=l[i].toNat_lt;simp only [Option.getD_some];omega
 ·rw [List.drop_eq_nil_of_le (by omega),List.getD_eq_getElem?_getD,List.getElem?_eq_none (by omega)];rfl
theorem mod_next (R k:Nat):R % 256 ^ (k+1)=R % 256 ^ k+256 ^ k * (R / 256 ^ k % 256):=by
 rw [Nat.pow_succ,Nat.mod_mul]
def peek (l:List UInt8) (at_ k:Nat):Nat:=le l / 2 ^ at_ % 2 ^ k
theorem peek_of (l:List UInt8) (at_ k K:Nat) (hK:k+7<=8 * K):(le l / 256 ^ (at_ / 8)) % 256 ^ K / 2 ^ (at_ % 8) % 2 ^ k=peek l at_ k:=by
 unfold peek;have a:(256:Nat) ^ K=2 ^ (at_ % 8) * (2 ^ k * 2 ^ (8 * K - k - at_ % 8)):=by
  rw [show(256:Nat)=2 ^ 8 by decide,<- Nat.pow_mul,<- Nat.pow_add,<- Nat.pow_add];congr 1; omega
 have b:(256:Nat) ^ (at_ / 8) * 2 ^ (at_ % 8)=2 ^ at_:=by
  rw [show(256:Nat)=2 ^ 8 by decide,<- Nat.pow_mul,<- Nat.pow_add];congr 1; omega
 rw [a,Nat.mod_mul_right_div_self,Nat.mod_mul_right_mod,Nat.div_div_eq_div_mul,b]
end PBits
def RrB (g:Nat) (v:Value) (at_:Nat):Pr:=Bk g 169 [v,.int .i64 at_,.bool true]
def Rr (g:Nat) (l:List UInt8) (at_:Nat):Pr:=Ex fun v:Value=>Star (RrB g v at_) (Row 5 1 v l.length (cells8 l))
theorem ZG (g:Nat) (w:World) (c2:w.cell? ⟨g,2,none⟩=some (.bool true)) :
  Calls Tryz.prog 102 #[.pointer (some ⟨g,0,none⟩)] w fun e w'=>e=.returned (.bool false)/\w=w':=by
 go_enter Tryz.func102,Tryz.ntmps102
 go_wp2;go_ret;exact⟨rfl,rfl⟩
theorem Xl (g:Nat) (m:Int) (w:World) (c2:w.cell? ⟨g,2,none⟩=some (.bool true)) (h0:0<=m) (h1:m<=57) :
  Calls Tryz.prog 166 #[.func (.func 102) #[.pointer (some ⟨g,0,none⟩)] #[],.int .i64 m,.bool true] w fun e w'=>e=.returned (.int .i64 0)/\w=w':=by
 go_enter Tryz.func166,Tryz.ntmps166
 go_wp2_with fail
 refine(ZG g _ c2).mono ?_;rintro e a ⟨rfl,rfl⟩;have b:¬ (57:Int)<m:=by omega
 have c:¬ m<0:=by omega
 go_wp2;go_ret;exact⟨rfl,rfl⟩
theorem XE {v:Value} {l:List UInt8} (H:Sp w0 L w) (hb:Byt w v l) (hl:l.length<=1000000000) :
  Calls Tryz.prog 100 #[v] w (Ret fun u w'=>∃g,u=.pointer (some ⟨g,0,none⟩)/\Sp w0 (Rr g l 0::L) w'):=by
 obtain⟨A,c,rfl,a,f,h⟩:=id hb;have i:=hid a;clear a;go_enter Tryz.func100,Tryz.ntmps100
 go_wp2_with fail
 refine(Yp H hb hl).mono ?_;rintro e j ⟨u,rfl,H⟩;obtain⟨b,d,ev,_,_⟩:=Row.form H 0 rfl;subst ev;go_wp2;go_ret;exact⟨_,rfl,_,rfl,Sp.ex (.slice b l.length d) (Sp.star (H.newBk _ _))⟩
theorem ZA {g at_:Nat} {l:List UInt8} (H:Sp w0 (Rr g l at_::L) w) :
  ∃A c,Sp w0 (RrB g (.slice A l.length c) at_::Row 5 1 (.slice A l.length c) l.length (cells8 l)::L) w/\Byt w (.slice A l.length c) l /\
   w.cell? ⟨g,0,none⟩=some (.slice A l.length c)/\w.cell? ⟨g,1,none⟩=some (.int .i64 at_)/\w.cell? ⟨g,2,none⟩=some (.bool true):=by
 obtain⟨v,H⟩:=H.unex;replace H:=H.unstar;obtain⟨A,c,rfl,_,_⟩:=Row.form H 1 rfl;exact⟨A,c,H,H.row_byt 1 rfl,H.cell 0 rfl 0,H.cell 0 rfl 1,H.cell 0 rfl 2⟩
theorem YB (g:Nat) (l:List UInt8) (at_:Nat) (H:Sp w0 (Rr g l at_::L) w) (ha:at_<=8 * l.length) (hl:l.length<=1000000000) :
  Calls Tryz.prog 156 #[.pointer (some ⟨g,0,none⟩)] w fun e w'=>e=.returned (.int .i64 ((8 * l.length - at_:Nat):Int))/\Keep w w':=by
 obtain⟨A,c,_,_,b,f,d⟩:=ZA H;clear H;obtain⟨n,a⟩:=exq l.length;rw [a] at b ha hl ⊢;clear a;have h:(at_:Int)<=8 * n:=by omega
 go_enter Tryz.func156,Tryz.ntmps156
 go_wp2_with fail
 refine(ZG g _ d).mono ?_;rintro e i ⟨rfl,rfl⟩;go_wp2;go_quiet (fail)
 go_wp2;go_ret;exact⟨ZU (by omega),Keep.drewN _ _⟩
theorem T7 (g:Nat) (at_:Nat) {w:World} (c1:w.cell? ⟨g,1,none⟩=some (.int .i64 at_)) (c2:w.cell? ⟨g,2,none⟩=some (.bool true)) :
  Calls Tryz.prog 68 #[.pointer (some ⟨g,0,none⟩)] w fun e w'=>e=.returned (.int .i64 at_)/\w=w':=by
 go_enter Tryz.func68,Tryz.ntmps68
 go_wp2_with fail
 refine(ZG g _ c2).mono ?_;rintro e a ⟨rfl,rfl⟩;go_wp2;go_ret;exact⟨rfl,rfl⟩
theorem Tn (g:Nat) (l:List UInt8) (at_ k:Nat) (H:Sp w0 (Rr g l at_::L) w) (ha:at_+k<=8 * l.length) (hk:k<=57) (hl:l.length<=1000000000) :
  Calls Tryz.prog 174 #[.pointer (some ⟨g,0,none⟩),.int .i64 k] w fun e w'=>e=.returned (.int .i64 0)/\Sp w0 (Rr g l (at_+k)::L) w':=by
 obtain⟨_,_,_,_,_,_,a⟩:=ZA H;go_enter Tryz.func174,Tryz.ntmps174
 go_wp2_with fail
 refine(Xl g k _ a (by omega) (by omega)).mono ?_;rintro e b ⟨rfl,rfl⟩;go_wp2_with fail
 refine(YB g l at_ H (by omega) hl).mono ?_;rintro e b ⟨rfl,hK⟩;replace H:=hK.sep H;clear hK a;obtain⟨A,c,H,_,d,f,a⟩:=ZA H;have h:b.frozen? ⟨g,1,none⟩=false:=H.frozen 0 rfl 1;have i:¬ ((8 * l.length - at_:Nat):Int)<k:=by omega
 have j:(at_:Int)<=9000000000:=by omega
 go_wp2;go_ret;refine⟨rfl,Sp.ex (.slice A l.length c) (Sp.star ?_)⟩;have:=H.set 1 (.int .i64 ((at_:Int)+k));unfold RrB;rw [Int.natCast_add];exact this
theorem WG (g:Nat) (l:List UInt8) (at_ k:Nat) (H:Sp w0 (Rr g l at_::L) w) (ha:at_<=8 * l.length) (hs:8 * l.length<at_+k) (hk:k<=57) (hl:l.length<=1000000000) :
  Calls Tryz.prog 174 #[.pointer (some ⟨g,0,none⟩),.int .i64 k] w fun e w'=>e=.returned (.int .i64 4)/\Keep w w':=by
 obtain⟨_,_,_,_,_,_,a⟩:=ZA H;go_enter Tryz.func174,Tryz.ntmps174
 go_wp2_with fail
 refine(Xl g k _ a (by omega) (by omega)).mono ?_;rintro e b ⟨rfl,rfl⟩;go_wp2_with fail
 refine(YB g l at_ H (by omega) hl).mono ?_;rintro e b ⟨rfl,hK⟩;have c:((8 * l.length - at_:Nat):Int)<k:=by omega
 go_wp2;go_ret;exact⟨rfl,hK⟩
theorem p256 (j:Nat):(256:Nat) ^ j=2 ^ (8 * j):=by rw [show(256:Nat)=2 ^ 8 by decide,<- Nat.pow_mul]
theorem Vt (R j b:Nat) (hj:j<=7) (hb:b=R / 256 ^ j % 256) :
  bits .or .u64 ((R:Int) % 256 ^ j) (IntKind.u64.wrap ((b:Int) * 2 ^ (8 * j)))=((R % 256 ^ (j+1):Nat):Int):=by
 have d:b<256:=by rw [hb]; exact Nat.mod_lt _ (by decide)
 have e:((R:Int) % 256 ^ j)=((R % 256 ^ j:Nat):Int):=by simp
 have f:R % 256 ^ j<2 ^ (8 * j):=by rw [<- p256]; exact Nat.mod_lt _ (Nat.pow_pos (by decide))
 have a:(2:Nat) ^ (8 * j)<=72057594037927936:=Nat.pow_le_pow_right (n:=2) (by decide) (show 8 * j<=56 by omega);have c:b * 2 ^ (8 * j)<18446744073709551616:=by
  have:=Nat.mul_le_mul (show b<=255 by omega) a;omega
 have g:IntKind.u64.wrap ((b:Int) * 2 ^ (8 * j))=((b * 2 ^ (8 * j):Nat):Int):=by
  rw [show((b:Int) * 2 ^ (8 * j))=((b * 2 ^ (8 * j):Nat):Int) by simp,IntKind.wrap_u64];generalize b * 2 ^ (8 * j)=y at c;omega
 rw [e,g,u64_or_nat _ _ (by omega) c,Nat.mul_comm b,Nat.or_comm,<- Nat.two_pow_add_eq_or_of_lt f,PBits.mod_next,<- hb,p256,Nat.add_comm]
theorem Un (x k:Nat) (hx:x<18446744073709551616) (hk:k<=63):bits .and .u64 (x:Int) (IntKind.u64.wrap (IntKind.u64.wrap (2 ^ k) - 1))=((x % 2 ^ k:Nat):Int):=by
 have a:(2:Nat) ^ k<=9223372036854775808:=Nat.pow_le_pow_right (n:=2) (by decide) hk;have b:0<(2:Nat) ^ k:=Nat.two_pow_pos k;have c:((2:Int) ^ k)=((2 ^ k:Nat):Int):=by simp
 have d:IntKind.u64.wrap (IntKind.u64.wrap (2 ^ k) - 1)=((2 ^ k - 1:Nat):Int):=by
  rw [c,IntKind.wrap_u64,IntKind.wrap_u64];generalize (2:Nat) ^ k=y at a b;omega
 rw [d,u64_and_nat _ _ hx (by omega),Nat.and_two_pow_sub_one_eq_mod]
theorem Uo (R j r k:Nat) (hj:j<=8) (hk:k<=57) :
  bits .and .u64 ((R:Int) % 256 ^ j / 2 ^ r) (IntKind.u64.wrap (IntKind.u64.wrap (2 ^ k) - 1))=((R % 256 ^ j / 2 ^ r % 2 ^ k:Nat):Int):=by
 have a:((R:Int) % 256 ^ j / 2 ^ r)=((R % 256 ^ j / 2 ^ r:Nat):Int):=by simp
 have b:R % 256 ^ j<256 ^ j:=Nat.mod_lt _ (Nat.pow_pos (by decide));have c:(256:Nat) ^ j<=18446744073709551616:=Nat.pow_le_pow_right (n:=256) (by decide) hj;have d:R % 256 ^ j / 2 ^ r<=R % 256 ^ j:=Nat.div_le_self _ _;rw [a,Un _ _ (by omega) (by omega)]
theorem Vu (g:Nat) (l:List UInt8) (at_:Nat) (m:Int) (k:Nat) (H:Sp w0 (Rr g l at_::L) w) (ha:at_<=8 * l.length) (hl:l.length<=1000000000) (hk:(k:Int)=min (min (max m 0) 57) ((8 * l.length - at_:Nat):Int)) :
  Calls Tryz.prog 173 #[.pointer (some ⟨g,0,none⟩),.int .i64 m] w fun e w'=>e=.returned (.tuple #[.int .u64 (PBits.peek l at_ k:Nat),.int .i64 k])/\Keep w w':=by
 obtain⟨_,_,_,_,_,_,y⟩:=ZA H;have d:k<=57:=by omega
 have N:∀W:World,(Builtin.max_ #[3,3] 3 #[.int .i64 m,.int .i64 0]).run Tryz.prog W=.ok (.int .i64 (max m 0)) W:=fun W=>by
  simp [Builtin.max_,Builtin.max2];split <;> omega
 have O:∀W:World,(Builtin.min_ #[3,3,3] 3 #[.int .i64 (max m 0),.int .i64 57,.int .i64 ((8 * l.length - at_:Nat):Int)]).run Tryz.prog W=.ok (.int .i64 k) W:=fun W=>by
  rw [hk];simp [Builtin.min_,Builtin.min2];split <;> split <;> omega
 have HK:=hid hk;clear hk;go_enter Tryz.func173,Tryz.ntmps173
 go_wp2_with fail
 refine(ZG g _ y).mono ?_;rintro e P ⟨rfl,rfl⟩;go_wp2_with fail
 refine(YB g l at_ H ha hl).mono ?_;rintro e P ⟨rfl,f⟩;replace H:=f.sep H;clear y;go_wp2_with fail
 clear N O;obtain⟨A,c,H,E,c0,c1,y⟩:=ZA H;obtain⟨q,h⟩:∃q,q=at_ / 8:=⟨_,rfl⟩;have hq:(at_:Int) / 8=(q:Int):=by omega
 have Q:q<=l.length:=by omega
 obtain⟨R,F⟩:∃R,R=PBits.le l / 256 ^ q:=⟨_,rfl⟩;have S:=hid h;have z:=hid F;have G:=hid E;clear h F E;obtain⟨_,_,o,_,_,B⟩:=id G.out;unfold maxLen at B;clear o;go_loop [6,7] (fun n i=>∃j:Nat,j<=8/\8 * j<=k+14/\i=.int .i64 j/\n=.int .u64 ((R % 256 ^ j:Nat):Int)) (fun _ i=>8 - (intOf i).toNat)
 case atStart=>exact⟨0,by omega,by omega,rfl,by simp [Nat.mod_one]⟩
 case round =>
  obtain⟨j,C,T,rfl,rfl⟩:=hrel;by_cases U:8 * j<k+7
  ·have p : (8:Int) * j<k+7:=by omega
   by_cases s:q+j<l.length
   ·have t : (q:Int)+j<l.length:=by omega
    have I:(0:Int)<=(q:Int)+j:=by omega
    obtain⟨_,_,o,u,_,_⟩:=id G.out;injection o with o _ eC
    subst o eC;obtain⟨ad,rfl,V⟩:=u.at8 s;clear u;obtain⟨b,v⟩:=exq (l[q+j].toNat);rw [v] at V;have X:b<256:=by rw [<- v]; exact(l[q+j]).toNat_lt
    have D:=hid v;clear v;have a:=hid (Vt R j b (by omega) (by rw [z.out,Nat.div_div_eq_div_mul,<- Nat.pow_add,PBits.le_byte,List.getD_eq_getElem?_getD,List.getElem?_eq_getElem s]; exact D.out.symm));go_wp2;go_round
    case rel=>exact⟨j+1,by omega,by omega,by go_num,by rw [<- a.out]⟩
    case measure=>simp [intOf]; omega
   ·have t : ¬ (q:Int)+j<l.length:=by omega
    have a:Hid (R % 256 ^ j=R % 256 ^ (j+1)):=by
     have J:=PBits.le_lt (l.drop q);rw [PBits.le_drop,<- z.out] at J;have K:R<256 ^ j:=Nat.lt_of_lt_of_le J (Nat.pow_le_pow_right (by decide) (by simp; omega));have Y:R<256 ^ (j+1):=Nat.lt_of_lt_of_le K (Nat.pow_le_pow_right (by decide) (by omega));show _=_;rw [Nat.mod_eq_of_lt K,Nat.mod_eq_of_lt Y]
    go_wp2;go_round
    case rel=>exact⟨j+1,by omega,by omega,by go_num,by rw [<- a.out]⟩
    case measure=>simp [intOf]; omega
  ·have p : ¬ (8:Int) * j<k+7:=by omega
   obtain⟨r,u⟩:=exq (at_ % 8);have Z : (at_:Int) % 8=(r:Int):=by omega
   have a0:r<8:=by omega
   have HX:=hid u;clear u;go_wp2;go_quiet (fail)
   go_wp2;go_ret2;have e:=Uo R j r k C d;have M:=PBits.peek_of l at_ k j (by omega);rw [<- S.out,<- z.out,HX.out] at M;rw [M] at e;exact⟨congrArg (fun x=>Ending.returned (.tuple #[.int .u64 x,.int .i64 k])) e,f.trans (Keep.drewN _ _)⟩
theorem UU (g:Nat) (l:List UInt8) (at_ k:Nat) (H:Sp w0 (Rr g l at_::L) w) (ha:at_+k<=8 * l.length) (hk:k<=57) (hl:l.length<=1000000000) :
  Calls Tryz.prog 153 #[.pointer (some ⟨g,0,none⟩),.int .i64 k] w fun e w'=>e=.returned (.tuple #[.int .u64 (PBits.peek l at_ k:Nat),.int .i64 0])/\Sp w0 (Rr g l (at_+k)::L) w':=by
 obtain⟨_,_,_,_,_,_,a⟩:=ZA H;go_enter Tryz.func153,Tryz.ntmps153
 go_wp2_with fail
 refine(ZG g _ a).mono ?_;rintro e b ⟨rfl,rfl⟩;clear a;go_wp2_with fail
 refine(Vu g l at_ k k H (by omega) hl (by omega)).mono ?_;rintro e b ⟨rfl,hK⟩;replace H:=hK.sep H;clear hK;go_wp2_with fail
 refine(Tn g l at_ k H ha hk hl).mono ?_;rintro e b ⟨rfl,H⟩;go_wp2;go_ret2;exact⟨rfl,H⟩
theorem XF (g:Nat) (l:List UInt8) (at_ k:Nat) (H:Sp w0 (Rr g l at_::L) w) (ha:at_<=8 * l.length) (hs:8 * l.length<at_+k) (hk:k<=57) (hl:l.length<=1000000000) :
  Calls Tryz.prog 153 #[.pointer (some ⟨g,0,none⟩),.int .i64 k] w fun e w'=>e=.returned (.tuple #[.int .u64 0,.int .i64 4])/\Keep w w':=by
 obtain⟨_,_,_,_,_,_,b⟩:=ZA H;go_enter Tryz.func153,Tryz.ntmps153
 go_wp2_with fail
 refine(ZG g _ b).mono ?_;rintro e c ⟨rfl,rfl⟩;clear b;go_wp2_with fail
 refine(Vu g l at_ k (8 * l.length - at_) H (by omega) hl (by omega)).mono ?_;rintro e c ⟨rfl,hK⟩;replace H:=hK.sep H;go_wp2_with fail
 refine(WG g l at_ k H ha hs hk hl).mono ?_;rintro e c ⟨rfl,a⟩;go_wp2;go_ret2;exact⟨rfl,hK.trans a⟩
theorem Vv (g:Nat) (l:List UInt8) (at_:Nat) (H:Sp w0 (Rr g l at_::L) w) (ha:at_<=8 * l.length) (hl:l.length<=1000000000) :
  Calls Tryz.prog 155 #[.pointer (some ⟨g,0,none⟩)] w fun e w'=>e=.returned (.int .i64 0)/\Sp w0 (Rr g l ((at_+7) / 8 * 8)::L) w':=by
 obtain⟨A,c,H,_,k,m,f⟩:=ZA H;have n:w.frozen? ⟨g,1,none⟩=false:=H.frozen 0 rfl 1;have o:(at_:Int)<=9000000000:=by omega
 have b:bits .and .i64 (-(at_:Int)) 7=(((8 - at_ % 8) % 8:Nat):Int):=by rw [Xk]; omega
 obtain⟨d,a⟩:=exq ((8 - at_ % 8) % 8);rw [a] at b;have h:d<8:=by omega
 have i:=hid a;clear a;go_enter Tryz.func155,Tryz.ntmps155
 go_wp2_with fail
 refine(ZG g _ f).mono ?_;rintro e p ⟨rfl,rfl⟩;go_wp2;go_still_tail 13,(by kernel_rfl)
 change wpList _ _ _ _ _ w.drew;go_wp2;go_ret;refine⟨rfl,Sp.ex (.slice A l.length c) (Sp.star ?_)⟩;have j:(((at_+7) / 8 * 8:Nat):Int)=(at_:Int)+d:=by have:=i.out; omega
 unfold RrB;rw [j,b];exact(H.set 1 (.int .i64 ((at_:Int)+d))).drew
theorem Vw (g:Nat) (l:List UInt8) (q k:Nat) (H:Sp w0 (Rr g l (8 * q)::L) w) (ha:q+k<=l.length) (hl:l.length<=1000000000) :
  Calls Tryz.prog 158 #[.pointer (some ⟨g,0,none⟩),.int .i64 k] w (Ret fun v w'=>∃u,v=.tuple #[u,.int .i64 0]/\Sp w0 (Row 5 1 u k (cells8 ((l.drop q).take k))::Rr g l (8 * (q+k))::L) w'):=by
 obtain⟨_,_,_,_,_,a,f⟩:=ZA H;rw [Int.natCast_mul] at a;have r:(q:Int)<=1000000000:=by omega
 have s:(k:Int)<=1000000000:=by omega
 have t:((8:Int) * q % 8 == 0)=true:=by rw [beq_iff_eq]; omega
 go_enter Tryz.func158,Tryz.ntmps158
 go_wp2_with fail
 refine(Xl g 0 _ f (by omega) (by omega)).mono ?_;rintro e b ⟨rfl,rfl⟩;clear t a f;go_wp2_with fail
 refine(YB g l (8 * q) H (by omega) hl).mono ?_;rintro e b ⟨rfl,hK⟩;replace H:=hK.sep H;clear hK;obtain⟨A,c,H,o,C,a,f⟩:=ZA H;have D:b.frozen? ⟨g,1,none⟩=false:=H.frozen 0 rfl 1;rw [Int.natCast_mul] at a;have i:c<=maxLen:=by obtain⟨_,_,e,_,_,h⟩:=o; injection e with _ _ e; omega
 have x:l.length<=c:=by obtain⟨_,_,e,_,h,_⟩:=o; injection e with _ _ e; omega
 unfold maxLen at i;have E:¬ ((8 * l.length - 8 * q:Nat):Int) / 8<k:=by omega
 have F:(8:Int) * q / 8=q:=by omega
 have G:(q:Int)+k<=c:=by omega
 have I:(0:Int)<=(q:Int)+k:=by omega
 have p:((8 * (q+k):Nat):Int)=8 * (q:Int)+8 * k:=by omega
 have j:Sp w0 (RrB g (.slice A l.length c) (8 * (q+k))::Row 5 1 (.slice A l.length c) l.length (cells8 l)::L) (b.setCell ⟨g,1,none⟩ (.int .i64 (8 * (q:Int)+8 * k))):=by
  have:=H.set 1 (.int .i64 (8 * (q:Int)+8 * k));unfold RrB;rw [p];exact this
 clear p;have m:Byt (b.setCell ⟨g,1,none⟩ (.int .i64 (8 * (q:Int)+8 * k))) (.slice A l.length c) l:=j.row_byt 1 rfl;by_cases n:c=q
 ·subst n;obtain rfl:k=0:=by omega
  go_wp2_with fail
  refine(Yp (l:=[]) j ⟨_,_,rfl,Rd.nil,Nat.zero_le _,by simp [maxLen]⟩ (by simp)).mono ?_;rintro e y ⟨u,rfl,d⟩;go_wp2;go_ret2;exact⟨_,rfl,_,rfl,Sp.swap (Sp.ex (.slice A l.length c) (Sp.star (by simpa using d.pick 3 [1,2,0])))⟩
 ·have z:=(m.drop q (by omega)).take k (by simp; omega);go_wp2_with fail
  refine(Yp j z (by simp; omega)).mono ?_;rintro e y ⟨u,rfl,d⟩;go_wp2;go_ret2;refine⟨_,rfl,_,rfl,Sp.swap (Sp.ex (.slice A l.length c) (Sp.star ?_))⟩;have B:((l.drop q).take k).length=k:=by simp; omega
  rw [B] at d;exact d.pick 3 [1,2,0]
end Go.Proofs.YtnjpnmpemhldcaaGreatDoor

