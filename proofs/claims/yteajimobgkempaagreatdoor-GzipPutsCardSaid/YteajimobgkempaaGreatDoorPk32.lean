/- A pack. -/
import Derived.Test.YteajimobgkempaaGreatDoorPk31
set_option linter.all false
set_option maxRecDepth 100000
set_option maxHeartbeats 8000000
namespace Go.Proofs.YteajimobgkempaaGreatDoor
variable {w0 w:World} {L:List Pr}
open Go.RowKit
theorem T0 (A:Option Addr) (ca n:Nat) (l:List UInt8) (H:Sp w0 L w) (hn:n=l.length) (hE:∀w',Sp w0 L w'->Byt w' (.slice A n ca) l) (hl:l.length<=100000) :
  Calls Tryz.prog 128 #[.slice A n ca] w (Ret fun v w'=>∃g,v=.pointer (some ⟨g,0,none⟩)/\Sp w0 (Rw g (PBits.ofB l) 0::L) w'):=by
 obtain⟨W,X,G,I,J⟩:=info_parts infoBb;have Y:n<=100000:=by omega
 have K:=hid hn;have Z:=hid hE;clear hn hE hl;go_enter Tryz.func128,Tryz.ntmps128
 have M:=(H.rowNil 4 1).newBk [.slice none 0 0,.int .i64 0] 66;go_wp2;generalize w.alloc _=w1 at M ⊢;generalize w.heap.size=g at M ⊢;go_loopw [4] (fun i wr=>∃(j:Nat) (v:Value),j<=n/\i=.int .i64 j/\Sp w0 (RwB g v 0::Row 4 1 v (8 * j) (cellsBb (PBits.ofB (l.take j)))::L) wr) (fun i _=>n - (intOf i).toNat)
 case atStart=>exact⟨0,_,Nat.zero_le _,rfl,M⟩
 case round =>
  obtain⟨j,v,hj,rfl,d⟩:=hrel;by_cases N:j<n
  ·have f : (j:Int)<n:=by omega
   have h:j<l.length:=by rw [<- K.out]; exact N
   obtain⟨_,_,O,R,_,_⟩:=Z.out _ (d.pick 2 []);injection O with O e2 e3
   subst O;clear e2 e3;obtain⟨ad,rfl,S⟩:=R.at8 h;clear R;obtain⟨x,E⟩:=exq (l[j].toNat);rw [E] at S;have P:x<256:=by rw [<- E]; exact(l[j]).toNat_lt
   have m:PBits.ofB (l.take (j+1))=PBits.ofB (l.take j)++PBits.bitsOf x 8:=by
    rw [List.take_succ_eq_append_getElem h,PBits.ofB_snoc,E]
   have o:=hid m;obtain⟨p,q⟩:=exq (PBits.ofB (l.take j));rw [q] at d o;clear E m q;go_wp2_with fail
   clear S;go_loopw [5,6] (fun c k wr=>∃(t:Nat) (v:Value),t<=8/\c=.int .u8 ((x / 2 ^ t:Nat):Int)/\k=.int .i64 t/\Sp w0 (RwB g v 0::Row 4 1 v (8 * j+t) (cellsBb (p++PBits.bitsOf x t))::L) wr) (fun _ k _=>8 - (intOf k).toNat)
   case atStart=>exact⟨0,v,by omega,by simp,rfl,by simpa [PBits.bitsOf] using d⟩
   case round =>
    obtain⟨t,v',ht,rfl,rfl,r⟩:=hrel;obtain⟨y,F⟩:=exq (x / 2 ^ t);have a0:y<256:=by rw [<- F]; exact Nat.lt_of_le_of_lt (Nat.div_le_self _ _) P
    rw [F];have T:=hid F;clear F;obtain⟨B,s,rfl,_,_⟩:=Row.form r 1 rfl;by_cases a1:t<8
    ·have z : (t:Int)<8:=by omega
     obtain⟨b,C⟩:=exq (((y:Int) % 2 == 1));have HB:=hid C;have U:wr.cell? ⟨g,0,none⟩=some (.slice B (8 * j+t) s):=r.cell 0 rfl 0;go_wp2_with (at_builtin; refine wpList_append_sp rfl _ _ 64 rfl 4 W (.bool false) 1 1 Tryz.underlying64 X G I J rfl (by decide) (.slice B (8 * j+t) s) (8 * j+t) (cellsBb (p++PBits.bitsOf x t)) rfl ((r.newBk [.bool b] _).pick 3 [2,0,1]) (some ⟨wr.heap.size,0,none⟩) 1 1 [.bool b] rfl rfl (Rd.of_blk ((r.newBk [.bool b] _).blk 0 rfl)) (by intro u hu; rw [List.mem_singleton.1 hu]; rfl) (by unfold maxLen; omega) (by omega) ?_)
     intro v1 w3 a _;clear C U;replace a:Sp w0 (RwB g (.slice B (8 * j+t) s) 0::Row 4 1 v1 (8 * j+t+1) (cellsBb (p++PBits.bitsOf x t)++[.bool b])::L) w3:=a.pick 3 [2,0];obtain⟨V,D,rfl,_,_⟩:=Row.form a 1 rfl;have U:w3.cell? ⟨g,0,none⟩=some (.slice B (8 * j+t) s):=a.cell 0 rfl 0;have z0:w3.frozen? ⟨g,0,none⟩=false:=a.frozen 0 rfl 0;go_wp2;go_roundw
     case rel =>
      refine⟨t+1,.slice V (8 * j+t+1) D,by omega,?_,by go_num,?_⟩
      ·rw [Nat.pow_succ,<- Nat.div_div_eq_div_mul,T.out]; simp
      ·have e:cellsBb (p++PBits.bitsOf x (t+1))=cellsBb (p++PBits.bitsOf x t)++[.bool b]:=by
        have Q:(y % 2 == 1)=b:=by
         rw [<- HB.out,Bool.eq_iff_iff,beq_iff_eq,beq_iff_eq]; omega
        rw [PBits.bitsOf_snoc,T.out,Q]; simp [cellsBb]
       rw [e];exact a.set 0 (.slice V (8 * j+t+1) D)
     case measure=>simp [intOf]; omega
    ·have z : ¬ (t:Int)<8:=by omega
     obtain rfl:t=8:=by omega
     go_wp2;go_roundw
     case rel =>
      refine⟨j+1,.slice B (8 * j+8) s,by omega,by go_num,?_⟩;rw [o.out];exact r
     case measure=>simp [intOf]; omega
  ·have f : ¬ (j:Int)<n:=by omega
   obtain rfl:j=n:=by omega
   go_wp2;go_ret;refine⟨_,rfl,g,rfl,ZM (v:=v) ?_⟩;rw [List.take_of_length_le (by rw [<- K.out]; exact Nat.le_refl _)] at d;rw [PBits.ofB_length,<- K.out];exact d
theorem ZZ (a b:List Bool):cellsBb (a++b)=cellsBb a++cellsBb b:=by simp [cellsBb]
theorem ZV (g:Nat) (l:List Bool) (at_ n k:Nat) (H:Sp w0 (Rw g l at_::L) w) (hk:k<=57) (h:n<2 ^ k) (hl:l.length<=1000000) :
  Calls Tryz.prog 94 #[.pointer (some ⟨g,0,none⟩),.int .u64 n,.int .i64 k] w fun e w'=>e=.returned (.int .i64 0)/\Sp w0 (Rw g (l++PBits.bitsOf n k) at_::L) w':=by
 have E:¬ (57:Int)<k:=by omega
 have F:¬ (k:Int)<0:=by omega
 have t:n<18446744073709551616:=Nat.lt_of_lt_of_le h (two64 _ (by omega));have m:(n / 2 ^ k == 0)=true:=by
  rw [beq_iff_eq];exact Nat.div_eq_of_lt h
 obtain⟨x,y,f,i,j⟩:=info_parts infoBb;go_enter Tryz.func94,Tryz.ntmps94
 go_wp2_with fail
 refine(VM n k k H t (by omega) (by omega)).mono ?_;rintro _ w2 ⟨_,rfl,u,rfl,z⟩;rw [m];clear m;obtain⟨A,c,a,_,o,_,z0,_⟩:=ZU z.swap;replace a:Sp w0 (Row 4 1 (.slice A l.length c) l.length (cellsBb l)::RwB g (.slice A l.length c) at_::Row 4 1 u k (cellsBb (PBits.bitsOf n k))::L) w2:=a.pick 3 [1,0,2];obtain⟨B,d,rfl,p,_,_⟩:=a.row_rd 2 rfl;have C:=hid p;clear p;go_wp2_with (at_builtin; refine wpList_append_sp rfl _ _ 64 rfl 4 x (.bool false) 1 1 Tryz.underlying64 y f i j rfl (by decide) (.slice A l.length c) l.length (cellsBb l) rfl a B k d (cellsBb (PBits.bitsOf n k)) rfl (by simp [cellsBb,PBits.bitsOf_length]) C.out (Yy _) (by unfold maxLen; omega) (by omega) ?_)
 intro G q b _;clear o z0;obtain⟨r,s,rfl,_,_⟩:=Row.form b 0 rfl;have o:q.cell? ⟨g,0,none⟩=some (.slice A l.length c):=b.cell 1 rfl 0;have z0:q.frozen? ⟨g,0,none⟩=false:=b.frozen 1 rfl 0;go_wp2;go_ret;refine⟨rfl,?_⟩;have e:(l++PBits.bitsOf n k).length=l.length+k:=by simp [PBits.bitsOf_length]
 have D:=(b.pick 3 [1,0]).set 0 (.slice r (l.length+k) s);refine ZM (v:=.slice r (l.length+k) s) ?_;rw [e,ZZ];exact D
theorem UB (g:Nat) (l:List Bool) (at_:Nat) (H:Sp w0 (Rw g l at_::L) w) (hl:l.length<=1000000) :
  Calls Tryz.prog 96 #[.pointer (some ⟨g,0,none⟩)] w fun e w'=>e=.returned (.tuple #[])/\Sp w0 (Rw g (l++List.replicate ((8 - l.length % 8) % 8) false) at_::L) w':=by
 obtain⟨s,x,f,h,i⟩:=info_parts infoBb;obtain⟨n,d⟩:=exq l.length;rw [d] at hl ⊢;obtain⟨v,H⟩:=H.unex;replace H:=H.unstar;rw [d] at H;have y:=hid d;clear d;go_enter Tryz.func96,Tryz.ntmps96
 go_wp2;go_loopw [] (fun wr=>∃(t:Nat) (v:Value),t<=(8 - n % 8) % 8/\Sp w0 (RwB g v at_::Row 4 1 v (n+t) (cellsBb (l++List.replicate t false))::L) wr) (fun wr=>match wr.cell? ⟨g,0,none⟩ with | some (.slice _ q _)=>2000000 - q | _=>0)
 case atStart=>exact⟨0,v,Nat.zero_le _,by simpa using H⟩
 case round =>
  obtain⟨t,E,F,b⟩:=hrel;obtain⟨A,c,rfl,_,_⟩:=Row.form b 1 rfl;have j:wr.cell? ⟨g,0,none⟩=some (.slice A (n+t) c):=b.cell 0 rfl 0;by_cases G:(n+t) % 8=0
  ·have k : (((n+t:Nat):Int) % 8 != 0)=false:=by rw [bne_eq_false_iff_eq]; omega
   go_wp2;obtain rfl:t=(8 - n % 8) % 8:=by omega
   go_end0;refine⟨rfl,ZM (v:=.slice A (n+(8 - n % 8) % 8) c) ?_⟩;rw [List.length_append,List.length_replicate,y.out];exact b
  ·have k : (((n+t:Nat):Int) % 8 != 0)=true:=by rw [bne_iff_ne]; omega
   have m:=j;have z:=hid m;clear m;go_wp2_with (at_builtin; refine wpList_append_sp rfl _ _ 64 rfl 4 s (.bool false) 1 1 Tryz.underlying64 x f h i rfl (by decide) (.slice A (n+t) c) (n+t) (cellsBb (l++List.replicate t false)) rfl ((b.newBk [.bool false] _).pick 3 [2,0,1]) (some ⟨wr.heap.size,0,none⟩) 1 1 [.bool false] rfl rfl (Rd.of_blk ((b.newBk [.bool false] _).blk 0 rfl)) (by intro u B; rw [List.mem_singleton.1 B]; rfl) (by unfold maxLen; omega) (by omega) ?_)
   intro C w3 a _;clear j;replace a:Sp w0 (RwB g (.slice A (n+t) c) at_::Row 4 1 C (n+t+1) (cellsBb (l++List.replicate t false)++[.bool false])::L) w3:=a.pick 3 [2,0];obtain⟨o,p,rfl,_,_⟩:=Row.form a 1 rfl;have j:w3.cell? ⟨g,0,none⟩=some (.slice A (n+t) c):=a.cell 0 rfl 0;have z0:w3.frozen? ⟨g,0,none⟩=false:=a.frozen 0 rfl 0;have r:=a.set 0 (.slice o (n+t+1) p);have D:=r.cell 0 rfl 0;go_wp2;go_roundw
   case rel =>
    refine⟨t+1,.slice o (n+t+1) p,by omega,?_⟩;have e:cellsBb (l++List.replicate (t+1) false)=cellsBb (l++List.replicate t false)++[.bool false]:=by
     rw [List.replicate_succ',<- List.append_assoc]; simp [cellsBb]
    rw [e];exact r
   case measure =>
    simp only [z.out,D];simp;omega
theorem UC (l:List Bool) (i:Nat) (h:i<l.length):(l.drop i).reverse=(l.drop (i+1)).reverse++[l[i]]:=by
 rw [List.drop_eq_getElem_cons h,List.reverse_cons]
theorem UD (g:Nat) (l:List Bool) (at_ n k:Nat) (H:Sp w0 (Rw g l at_::L) w) (hk:k<=57) (h:n<2 ^ k) (hl:l.length<=1000000) :
  Calls Tryz.prog 127 #[.pointer (some ⟨g,0,none⟩),.int .u64 n,.int .i64 k] w fun e w'=>e=.returned (.int .i64 0)/\Sp w0 (Rw g (l++(PBits.bitsOf n k).reverse) at_::L) w':=by
 have k1:¬ (57:Int)<k:=by omega
 have k2:¬ (k:Int)<0:=by omega
 have hn:n<18446744073709551616:=Nat.lt_of_lt_of_le h (two64 _ (by omega));have hz:(n / 2 ^ k == 0)=true:=by
  rw [beq_iff_eq];exact Nat.div_eq_of_lt h
 obtain⟨i0,hi,O,P,Q⟩:=info_parts infoBb;go_enter Tryz.func127,Tryz.ntmps127
 go_wp2_with fail
 refine(VM n k k H hn (by omega) (by omega)).mono ?_;rintro _ w2 ⟨_,rfl,u,rfl,t⟩;rw [hz];clear hz;obtain⟨s,y⟩:∃s,s=PBits.bitsOf n k:=⟨_,rfl⟩;have J:s.length=k:=by rw [y]; exact PBits.bitsOf_length _ _
 rw [<- y] at t;have R:=hid y;have M:=hid J;clear y J;obtain⟨N,p⟩:=exq l.length;rw [p] at hl;have HN:=hid p;replace t:=t.swap;obtain⟨v,t⟩:=t.unex;replace t:=t.unstar;rw [p] at t;clear p;obtain⟨U,d,rfl,_,_⟩:=Row.form t 2 rfl;go_wp2;go_loopw [9] (fun i wr=>∃(j:Nat) (v:Value),j<=k/\i=.int .i64 ((j:Int) - 1)/\Sp w0 (RwB g v at_::Row 4 1 v (N+(k - j)) (cellsBb (l++(s.drop j).reverse))::Row 4 1 (.slice U k d) k (cellsBb s)::L) wr) (fun i _=>(intOf i+1).toNat)
 case atStart=>exact⟨k,v,Nat.le_refl _,rfl,by rw [List.drop_of_length_le (by rw [M.out]; exact Nat.le_refl _)]; simpa using t⟩
 case round =>
  obtain⟨j,v',hj,rfl,D⟩:=hrel;by_cases a3:0<j
  ·obtain⟨i,rfl⟩:∃i,j=i+1:=⟨j - 1,by omega⟩;have ei:(((i+1:Nat):Int) - 1)=(i:Int):=by omega
   rw [ei];have E:i<s.length:=by rw [M.out]; omega
   have h0:(0:Int)<=(i:Int):=by omega
   have h1:(i:Int)<k:=by omega
   obtain⟨ad,rfl⟩:∃ad,U=some ad:=by
    obtain⟨A,c,e,S,_,_⟩:=D.row_rd 2 rfl;obtain⟨ad,C,_⟩:=S.atBb E;injection e with e
    exact⟨ad,e.trans C⟩
   obtain⟨b,T⟩:=exq (s[i]);have F:=UC s i E;rw [T] at F;have W:=hid F;have X:Hid (∀(L2:List Pr) (wx:World),Sp w0 (Row 4 1 (.slice (some ad) k d) k (cellsBb s)::L2) wx->wx.cell? (ad.add i)=some (.bool b)):=fun L2 wx Hx=>by
    obtain⟨A,c,e,S,_,_⟩:=Hx.row_rd 0 rfl;obtain⟨a4,C,hc⟩:=S.atBb E;injection e with e
    rw [<- e] at C;injection C with C
    rw [C,<- T]; exact hc
   obtain⟨m,Y⟩:∃m,m=N+(k - (i+1)):=⟨_,rfl⟩;obtain⟨B,G⟩:∃B,B=cellsBb (l++(s.drop (i+1)).reverse):=⟨_,rfl⟩;rw [<- Y,<- G] at D;have HM:=hid Y;have Z:=hid G;have a5:m<=1000057:=by omega
   clear T F Y G ei;obtain⟨V,c,rfl,_,_⟩:=Row.form D 1 rfl;go_wp2_with fail
   refine Zs (L:=L) (fun ix vx=>([(·=.pointer (some ⟨g,0,none⟩)),(·=.pointer (some ⟨g,0,none⟩)),(·=.pointer (some ⟨g,0,none⟩)),(·=.pointer (some ⟨g,0,none⟩)),(·=.slice V m c),(·=.slice (some ad) k d),(·=.int .i64 i),(·=.pointer (some (ad.add i))),(·=.bool b),(fun v=>v=.slice (some ⟨v.ownBlock.getD 0,0,none⟩) 1 1),(fun _=>True),(·=.pointer (some ⟨g,0,none⟩)),(·=.pointer (some ⟨g,0,none⟩)),(·=undef)]:List (Value->Prop)).getD ix (fun _=>True) vx)
    (fun ix vx=>([fun _=>[],fun _=>[],fun _=>[],fun _=>[],fun _=>[],fun _=>[],fun _=>[],fun _=>[],fun _=>[],fun v=>[Bk (v.ownBlock.getD 0) 4 [.bool b]],fun v=>[Row 4 1 v (m+1) (B++[.bool b])],fun _=>[],fun _=>[],fun _=>[Ex fun u=>Star (RwB g u at_) (Row 4 1 u (m+1) (B++[.bool b])),Row 4 1 (.slice (some ad) k d) k (cellsBb s)]]:List (Value->List Pr)).getD ix (fun _=>[]) vx) (fun ix=>([[],[],[],[],[],[],[],[],[],[],[Row 4 1 (.slice V m c) m B],[],[],[RwB g (.slice V m c) at_,Row 4 1 (.slice (some ad) k d) k (cellsBb s)]]:List (List Pr)).getD ix []) 14 43
    [some 30,some 31,some 32,some 33,some 34,some 35,some 36,some 37,some 38,some 39,some 40,some 41,some 42,none]
    [[],[],[1],[2],[3],[],[],[5,6],[7],[8],[4,9],[0,0,1,2,3,4,5,6,7,8,9,10],[11,0,1,2,3,4,5,6,7,8,9,10],[12,10,10,0,1,2,3,4,5,6,7,8,9,10]]
    [[],[],[1],[1,2],[1,2,3],[],[],[5,6],[5,6,7],[5,6,7,8],[1,2,3,4,5,6,7,8,9],[0,1,2,3,4,5,6,7,8,9,10],[0,1,2,3,4,5,6,7,8,9,10,11],[0,1,2,3,4,5,6,7,8,9,10,11,12]]
    [[],[],[],[],[],[],[],[],[],[],[9],[],[],[10]]
    [[],[],[],[],[13],[],[],[],[13],[],[],[],[],[]]
    [(0,.pointer (some ⟨g,0,none⟩)),(7,.slice (some ad) k d),(9,.int .i64 i)]
    (by kernel_rfl) rfl (by decide) (by rfl) rfl (by decide +kernel) (by decide +kernel) (by rfl) rfl rfl (by decide) (by simp) (by rfl) ((D.pick 3 [1,0,2])) ?hstep ?hend
   case hstep =>
    refine⟨?_,⟨?_,⟨?_,⟨?_,⟨?_,⟨?_,⟨?_,⟨?_,⟨?_,⟨?_,⟨?_,⟨?_,⟨?_,⟨?_,trivial⟩⟩⟩⟩⟩⟩⟩⟩⟩⟩⟩⟩⟩⟩
    ·intro x wx A f p o q H K a;have e0:A.tmps[0]?.getD undef=.pointer (some ⟨g,0,none⟩):=p (0,_) (by simp);have r:=hid a;clear a p o q;refine so ?_;go_step;exact r.out _ _ rfl H
    ·intro x wx A f p o q H K a;have e0:A.tmps[0]?.getD undef=.pointer (some ⟨g,0,none⟩):=p (0,_) (by simp);have r:=hid a;clear a p o q;refine so ?_;go_step;exact r.out _ _ rfl H
    ·intro x wx A f p o q H K a;have a6:=tq o 1;have r:=hid a;clear a p o q;refine so ?_;go_step;exact r.out _ _ rfl H
    ·intro x wx A f p o q H K a;have a7:=tq o 2;have r:=hid a;clear a p o q;refine so ?_;go_step;exact r.out _ _ rfl H
    ·intro x wx A f p o q H K a;have a8:=tq o 3;replace H:Sp w0 (_::_::f) wx:=H;have r:=hid a;clear a p o q;have c:wx.cell? ⟨g,0,none⟩=some (.slice V m c):=H.cell 0 rfl 0;refine so ?_;go_step;exact r.out _ _ rfl H
    ·intro x wx A f p o q H K a;have e7:A.tmps[7]?.getD undef=.slice (some ad) k d:=p (7,_) (by simp);have r:=hid a;clear a p o q;refine so ?_;go_step;exact r.out _ _ rfl H
    ·intro x wx A f p o q H K a;have e9:A.tmps[9]?.getD undef=.int .i64 i:=p (9,_) (by simp);have r:=hid a;clear a p o q;refine so ?_;go_step;exact r.out _ _ rfl H
    ·intro x wx A f p o q H K a;have a9:=tq o 5;have b0:=tq o 6;have r:=hid a;clear a p o q;refine so ?_;go_step;exact r.out _ _ rfl H
    ·intro x wx A f p o q H K a;have b1:=tq o 7;replace H:Sp w0 (_::_::f) wx:=H;have r:=hid a;clear a p o q;have c:wx.cell? (ad.add i)=some (.bool b):=X.out _ _ H.tail;refine so ?_;go_step;exact r.out _ _ rfl H
    ·intro x wx A f p o q H K a;have b2:=tq o 8;have r:=hid a;clear a p o q;refine so ?_;go_step;exact r.out _ _ rfl (H.newBk _ _)
    ·intro x wx A f p o q H K a;have a0:=tq o 4;have a1:=(o 9 (by decide)).1;have I:=(o 9 (by decide)).2 39 rfl;replace H:Sp w0 (_::(Bk ((x 9).ownBlock.getD 0) 4 [.bool b])::f) wx:=H;have r:Hid (∀(v:Value) (w' : World),(fun _=>True) v->Sp w0 ((Row 4 1 v (m+1) (B++[.bool b]))::f) w'->K (A.put (some 40) v) w'):=hid a;clear a p o q;obtain⟨g9,e9⟩:=exq ((x 9).ownBlock.getD 0);rw [a1] at I;rw [e9] at I H;refine so ?_;refine Zg _ _ 64 rfl 4 i0 (.bool false) 1 1 Tryz.underlying64 hi O P Q rfl (by decide) (.slice V m c) m B (ev a0) H (some ⟨g9,0,none⟩) 1 1 [.bool b] (ev I) rfl (Rd.of_blk (H.blk 1 rfl)) (by intro u hu; rw [List.mem_singleton.1 hu]; rfl) (by simp only [maxLen]; omega) (by omega) ?_;intro v1 w2 t _;exact r.out _ _ trivial t.swap.tail
    ·intro x wx A f p o q H K a;have b3:=tq o 0;have r:=hid a;clear a p o q;refine so ?_;go_step;exact r.out _ _ rfl H
    ·intro x wx A f p o q H K a;have b4:=tq o 11;have r:=hid a;clear a p o q;refine so ?_;go_step;exact r.out _ _ rfl H
    ·intro x wx A f p o q H K a;have b5:=tq o 12;have b6:=(o 10 (by decide)).1;have a2:=(o 10 (by decide)).2 40 rfl;replace H:Sp w0 (_::_::(Row 4 1 (x 10) (m+1) (B++[.bool b]))::f) wx:=H;have r:=hid a;clear a p o q;replace H:=H.pick 3 [0,2,1];have c:wx.cell? ⟨g,0,none⟩=some (.slice V m c):=H.cell 0 rfl 0;have z:wx.frozen? ⟨g,0,none⟩=false:=H.frozen 0 rfl 0;obtain⟨A1,c1,ea,_,_⟩:=Row.form H 1 rfl;refine so ?_;rw [ea] at a2 H;go_step;exact r.out _ _ rfl (Sp.ex (.slice A1 (m+1) c1) (Sp.star (H.set 0 (.slice A1 (m+1) c1))))
   case hend =>
    intro x wx A hA o H;replace H:Sp w0 (_::_::L) wx:=H;clear o;simp only [putAll,Act.put,List.setIfInBounds_toArray,List.set_cons_succ,List.set_cons_zero,Nat.reduceAdd] at hA;subst hA;obtain⟨u,H⟩:=H.unex;replace H:=H.unstar;go_wp2;go_roundw
    case rel =>
     refine⟨i,u,by omega,rfl,?_⟩;have e1:N+(k - i)=m+1:=by rw [HM.out]; omega
     have C:cellsBb (l++(s.drop i).reverse)=B++[.bool b]:=by rw [W.out,<- List.append_assoc,ZZ,<- Z.out]; rfl
     rw [e1,C];exact H
    case measure=>simp [intOf]
  ·obtain rfl:j=0:=by omega
   go_wp2;go_ret;refine⟨rfl,?_⟩;rw [List.drop_zero,R.out] at D;have e:(l++(PBits.bitsOf n k).reverse).length=N+(k - 0):=by rw [List.length_append,List.length_reverse,PBits.bitsOf_length,HN.out,Nat.sub_zero]
   rw [<- e] at D;exact(ZM (v:=v') D).pick 2 [0]
theorem VP (c n:Nat):(PBits.bitsOf c n).reverse=PH.bitsC n c:=by
 apply List.ext_getElem?;intro i;by_cases h:i<n
 ·rw [List.getElem?_reverse (by rw [PBits.bitsOf_length]; exact h),PBits.bitsOf_length,PBits.bitsOf_get _ _ _ (by omega)];unfold PH.bitsC;rw [List.getElem?_map,List.getElem?_range h];rfl
 ·rw [List.getElem?_eq_none (by rw [List.length_reverse,PBits.bitsOf_length]; omega),List.getElem?_eq_none (by rw [PH.bitsC_len]; omega)]
theorem Yp (g:Nat) (B:List Bool) (at_:Nat) (A0:Option Addr) (n c:Nat) (M:List Nat) (s:Nat) (H:Sp w0 (Rw g B at_::L) w) (hn:n=M.length) (hm:Ent L fun w=>Rd w A0 (cellsN M)) (hl:n<=1024) (h15:∀x ∈ M,x<=15) (hs:PH.sum M<=32768) (hsn:s<n) (hcd:PH.codeAt M s<2 ^ M.getD s 0) (hB:B.length<=900000) :
  Calls Tryz.prog 95 #[.pointer (some ⟨g,0,none⟩),.slice A0 n c,.int .i64 s] w fun e w'=>e=.returned (.tuple #[])/\Sp w0 (Rw g (B++PI.codeW M s) at_::L) w':=by
 have R:=hid (Vt A0 n c M H hn (fun _ _ q=>by rw [Z8]; exact hm _ _ q.tail) hl h15 hs);obtain⟨E,rfl,_⟩:=rdN (hm _ _ H.tail) (i:=s) (by omega);obtain⟨t,f⟩:=exq (PH.codeAt M s);obtain⟨u,k⟩:=exq (M.getD s 0);have o:u<=15:=by rw [<- k]; exact ZF h15 s
 have y:B++(PBits.bitsOf t u).reverse=B++PI.codeW M s:=by unfold PI.codeW; rw [k,f,VP]
 rw [k,f] at hcd;have S:t<32768:=Nat.lt_of_lt_of_le hcd (Nat.pow_le_pow_right (by decide) o);have G:=hid y;have I:=hid hcd;have ys:(s:Int)<(n:Int):=by omega
 have X:=hid hm;have Y:=hid hn;have z:=hid f;have J:=hid k;clear H hn hm h15 hs hcd f k y;go_enter Tryz.func95,Tryz.ntmps95
 go_wp2_with fail
 refine R.out.mono ?_;rintro _ w1 ⟨v,rfl,F⟩;clear R;obtain⟨CA,C,rfl,T,U⟩:=Row.form F 0 rfl;obtain⟨b,rfl,_⟩:=Yx (rowRd F 0 rfl) hsn;have D:=hid F.swap;clear F;have N:Hid (Ent (Row 43 1 (.slice (some b) n C) n (rowU (PH.codeAt M) n)::L) fun w=>w.cell? (b.add s)=some (.int .u32 t)):=hid fun _ _ q=>by
  obtain⟨Z,p,O⟩:=Yx (rowRd q 0 rfl) hsn;injection p with p
  subst p;rw [O,z.out]
 have P:Hid (Ent (Row 43 1 (.slice (some b) n C) n (rowU (PH.codeAt M) n)::L) fun w=>w.cell? (E.add s)=some (.int .i64 u)):=hid fun _ _ q=>by
  obtain⟨Z,p,O⟩:=rdN (X.out _ _ q.tail) (i:=s) (by rw [<- Y.out]; exact hsn);injection p with p
  subst p;rw [O,J.out]
 go_wp2_with fail
 refine Zb (L:=Row 43 1 (.slice (some b) n C) n (rowU (PH.codeAt M) n)::L) [some (.pointer (some ⟨g,0,none⟩)),some (.slice (some b) n C),some (.int .i64 s),some (.pointer (some (b.add s))),some (.int .u32 t),some (.int .u64 t),some (.slice (some E) n c),some (.int .i64 s),some (.pointer (some (E.add s))),some (.int .i64 u),some (.int .i64 0)] (fun _ _=>True) (fun ix vx=>match ix with | 10=>(fun _=>[Rw g (B++PI.codeW M s) at_]) vx | _=>[]) (fun ix=>match ix with | 10=>[Rw g B at_] | _=>[]) 11 24
  [some 13,some 14,some 15,some 16,some 17,some 18,some 19,some 20,some 21,some 22,some 23]
  [[],[],[],[1,2],[3],[4],[],[],[6,7],[8],[0,5,9]]
  [[],[],[],[1,2],[1,2,3],[1,2,3,4],[],[],[6,7],[6,7,8],[0,1,2,3,4,5,6,7,8,9]]
  [[],[],[],[],[],[],[],[],[],[],[]] [[],[],[],[],[],[],[],[],[],[],[]] [(0,.pointer (some ⟨g,0,none⟩)),(1,.slice (some E) n c),(2,.int .i64 s),(6,.slice (some b) n C)]
  (by kernel_rfl) rfl (by decide) (by rfl) (by decide +kernel) rfl rfl (by simp) (D.out) ?hstep ?hend
 case hstep =>
  refine⟨?p0,⟨?p1,⟨?p2,⟨?p3,⟨?p4,⟨?p5,⟨?p6,⟨?p7,⟨?p8,⟨?p9,⟨?p10,trivial⟩⟩⟩⟩⟩⟩⟩⟩⟩⟩⟩
  case p0 | p1 | p2 | p3 | p5 | p6 | p7 | p8 =>
   intro x wx A h d m j r H K l;replace l:=hid l;clear j r d;repeat (obtain⟨_,m⟩:=m)
   refine so ?_;go_step;exact l.out _ _ rfl H
  case p4 =>
   intro x wx A h d m j r H K a;have a0:=tq j 3;have l:=hid a;clear a m j d;have a1:=r _ N.out _ _ H;refine so ?_;go_step;exact l.out _ _ rfl H
  case p9 =>
   intro x wx A h d m j r H K a;have a2:=tq j 8;have l:=hid a;clear a m j d;have a3:=r _ P.out _ _ H;refine so ?_;go_step;exact l.out _ _ rfl H
  case p10 =>
   intro x wx A h d m j r H K a;have a4:=tq j 0;have a5:=tq j 5;have a6:=tq j 9;replace H:Sp w0 (_::h) wx:=H;have l:=hid a;clear a m j r d;refine so ?_;go_wp2_with fail
   refine(UD g B at_ t u H (by omega) I.out (by omega)).mono ?_;rintro _ w9 ⟨rfl,V⟩;rw [G.out] at V;exact l.out _ _ rfl V
 case hend =>
  intro x wx A W j H;replace H:Sp w0 (_::_::L) wx:=H;clear j;simp only [putAll,Act.put,List.setIfInBounds_toArray,List.set_cons_succ,List.set_cons_zero,Nat.reduceAdd] at W;subst W;have Q:=hid (H.pick 2 [0]);clear H D;go_wp2_with fail
  go_end0;exact⟨rfl,Q.out⟩

end Go.Proofs.YteajimobgkempaaGreatDoor

