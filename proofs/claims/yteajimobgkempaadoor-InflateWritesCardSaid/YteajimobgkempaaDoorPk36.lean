/- A pack. -/
import Derived.Test.YteajimobgkempaaDoorPk20
set_option linter.all false
set_option maxRecDepth 100000
set_option maxHeartbeats 8000000
namespace Go.Proofs.YteajimobgkempaaDoor
variable {w0 w:World} {L:List Pr}
open Go.RowKit
theorem WS (x:Nat) (hx:x<4294967296):bits .and .u32 (x:Int) 1=((x % 2:Nat):Int):=by
 have a:(BitVec.ofInt 32 (x:Int)).toNat=x:=by
  rw [BitVec.ofInt_natCast,BitVec.toNat_ofNat]; exact Nat.mod_eq_of_lt (by omega)
 have b:(BitVec.ofInt 32 (1:Int)).toNat=1:=rfl;show IntKind.u32.wrap ((BitVec.ofInt 32 (x:Int) &&& BitVec.ofInt 32 (1:Int)).toNat:Int)=_;rw [BitVec.toNat_and,a,b,nat_mask1];have:x % 2<2:=Nat.mod_lt _ (by decide);rw [IntKind.wrap_u32'];omega
def PenB (gp:Nat) (l:List Bool) (v:Value):Pr:=Bk gp 44 [v,.int .i64 l.length]
def PenR (l:List Bool) (v:Value):Pr:=Row 5 1 v (PI.packB l).length (cells8 (PI.packB l))
def Pen (gp:Nat) (l:List Bool):Pr:=Ex fun v:Value=>Star (PenB gp l v) (PenR l v)
theorem Z9 {gp:Nat} {l:List Bool} (H:Sp w0 (Pen gp l::L) w):∃v,Sp w0 (PenB gp l v::PenR l v::L) w:=by
 obtain⟨v,H⟩:=H.unex;exact⟨v,H.unstar⟩
theorem Ya {gp:Nat} {l:List Bool} {v:Value} (H:Sp w0 (PenB gp l v::PenR l v::L) w):Sp w0 (Pen gp l::L) w:=Sp.ex v (Sp.star H)
theorem Xf (gp xv:Nat) (l:List Bool) (H:Sp w0 (Pen gp l::L) w) (hx:xv<4294967296) (hl:l.length<=100000000) :
  Calls Tryd.prog 14 #[.pointer (some ⟨gp,0,none⟩),.int .u32 xv] w fun e w'=>e=.returned (.tuple #[])/\Sp w0 (Pen gp (l++[xv % 2 == 1])::L) w':=by
 obtain⟨i0,hi,b2,b3,b4⟩:=info_parts info8;obtain⟨v,H⟩:=Z9 H;obtain⟨T,B,rfl,U,e7⟩:=Row.form H 1 rfl;obtain⟨N,g⟩:=exq l.length;obtain⟨q,hq⟩:=exq (N / 8);obtain⟨r,hr⟩:=exq (N % 8);obtain⟨s,C⟩:=exq (PI.topB l);obtain⟨pw,y⟩:∃pw:Nat,2 ^ r=pw:=⟨_,rfl⟩;obtain⟨b,hb⟩:=exq (xv % 2);obtain⟨cs,z⟩:=exq (cells8 (PI.roomB l));have e6:cs.length=q+1:=by rw [<- z]; simp [cells8,PI.roomB_len]; omega
 have I:cs[q]?=some (.int .u8 s):=by
  rw [<- z,Zw _ _ (by rw [PI.roomB_len]; omega),<- hq,<- g,PI.room_get,C];have h1:=PI.topB_lt l;have h2:=PI.pow8_le l.length;rw [C] at h1;rw [UInt8.toNat_ofNat',Nat.mod_eq_of_lt (by omega)]
 have b5:s<pw:=by
  have:=PI.topB_lt l;rw [C,g,hr,y] at this;exact this
 have e8:pw<=128:=by
  have:=PI.pow8_le l.length;rw [g,hr,y] at this;exact this
 have b6:b<2:=by omega
 have a1:bits .or .u8 (s:Int) ((b * pw:Nat):Int)=((s+b * pw:Nat):Int):=by
  have:=Vy r (by omega) s (by rw [y]; exact b5) b b6;rw [y] at this;exact this
 have f0:b * pw<=128:=Nat.le_trans (Nat.mul_le_mul_right _ (show b<=1 by omega)) (by omega);have n:cs.set q (.int .u8 ((s+b * pw:Nat):Int))=cells8 (PI.packB (l++[xv % 2 == 1])):=by
  rw [<- z,<- PI.room_set l (xv % 2 == 1)];have e1:(xv % 2 == 1).toNat=b:=by
   rw [hb];have:b=0∨b=1:=by omega
   rcases this with rfl | rfl <;> rfl
  rw [e1,C,g,hr,y,hq];simp only [cells8,List.map_set];have:(UInt8.ofNat (s+b * pw)).toNat=s+b * pw:=by rw [UInt8.toNat_ofNat']; omega
  rw [this]
 have V:(PI.packB (l++[xv % 2 == 1])).length=q+1:=by rw [PI.packB_len,List.length_append,List.length_singleton]; omega
 have W:(l++[xv % 2 == 1]).length=N+1:=by rw [List.length_append,List.length_singleton,g]
 obtain⟨l2,a2⟩:=exq (l++[xv % 2 == 1]);rw [a2] at n V W ⊢;have J:=hid n;have M:=hid I;have a3:=hid V;have a4:=hid W;have f1:=hid z;have O:bits .and .u32 (xv:Int) 1=(b:Int):=by rw [WS xv hx,hb]
 have P:=hid O;have a5:=hid a1;have y1:(N:Int) / 8=(q:Int):=by omega
 have y2:(N:Int) % 8=(r:Int):=by omega
 have f2:r<8:=by omega
 have f3:q<=N:=by omega
 have Q:(2:Int) ^ r=(pw:Int):=by rw [<- y]; simp
 have a6:=hid Q;have f4:N<=100000000:=by omega
 have a7:(PI.packB l).length=(N+7) / 8:=by rw [PI.packB_len,g]
 have D:=hid a7;have E:r=0->cells8 (PI.packB l)++[.int .u8 0]=cs:=fun h=>by
  rw [<- z,<- PI.room_at l (by omega)];simp [cells8]
 have F:r≠0->cells8 (PI.packB l)=cs:=fun h=>by rw [<- z,<- PI.room_in l (by omega)]
 have b7:=hid E;have b8:=hid F;have a8:=hid hr;have a9:=hid hq;have f5:=hid g;have R:PenB gp l (.slice T (PI.packB l).length B)=Bk gp 44 [.slice T (PI.packB l).length B,.int .i64 N]:=by unfold PenB; rw [g]
 have G:Sp w0 (Bk gp 44 [.slice T (PI.packB l).length B,.int .i64 N]::Row 5 1 (.slice T (PI.packB l).length B) (PI.packB l).length (cells8 (PI.packB l))::L) w:=by rw [<- R]; exact H
 clear H R E F n I V W z O a1 Q hr hq g C y hb a2;obtain⟨pn,b0⟩:=exq ((PI.packB l).length);rw [b0] at G D U;have c1:w.cell? ⟨gp,1,none⟩=some (.int .i64 N):=G.cell 0 rfl 1;have hz:(0:Nat)<=r:=Nat.zero_le _;have kq:(q:Int)<(q:Int)+1:=by omega
 clear b0 a7;go_enter Tryd.func14,Tryd.ntmps14
 by_cases h0:r=0
 ·have k1:((r:Int) == 0)=true:=by subst h0; rfl
  have t:pn=q:=by have h1:=D.out; have h2:=a8.out; have h3:=a9.out; omega
  rw [t] at G U; clear t D;have hR:=b7.out h0;have b9:=hid hR;have c0:w.cell? ⟨gp,0,none⟩=some (.slice T q B):=G.cell 0 rfl 0;have H1:=G.newBk [.int .u8 0] 5;have f6:maxLen=9223372036854775807:=rfl;clear hR;go_wp2_with (at_builtin; refine wpList_append_sp rfl _ _ 25 rfl 5 i0 (.int .u8 0) 1 1 Tryd.underlying25 hi b2 b3 b4 rfl (by decide) _ q (cells8 (PI.packB l)) rfl (H1.pick 3 [2,0,1]) (some ⟨w.heap.size,0,none⟩) 1 1 [.int .u8 0] rfl rfl (Rd.of_blk (H1.blk 0 rfl)) (by intro u hu; rw [List.mem_singleton.1 hu]; rfl) (by omega) (by omega) ?_)
  intro v1 w1 H2 _;obtain⟨V1,o,rfl,_,f7⟩:=Row.form H2 0 rfl;have H3:=H2.pick 3 [2,0];have d0:w1.cell? ⟨gp,0,none⟩=some (.slice T q B):=H3.cell 0 rfl 0;have z0:w1.frozen? ⟨gp,0,none⟩=false:=H3.frozen 0 rfl 0;have H4:=H3.set 0 (.slice V1 (q+1) o);have H5:Sp w0 (Row 5 1 (.slice V1 (q+1) o) (q+1) cs::Bk gp 44 [.slice V1 (q+1) o,.int .i64 N]::L) (w1.setCell ⟨gp,0,none⟩ (.slice V1 (q+1) o)):=by rw [<- b9.out]; exact H4.swap
  have S:=hid H5;clear H1 H2 H3 H4 H5;go_wp2_with fail
  generalize w1.setCell _ _=w2 at S ⊢;clear h0 k1;have X:q<(q+1):=by omega
  obtain⟨ad,rfl⟩:∃ad,V1=some ad:=by
   obtain⟨ad,c9,m,_⟩:=Sp.rowSet S.out (i:=q) X;injection m with m
   exact⟨ad,m⟩
  refine Zg (L:=L) (fun ix vx=>([(·=.pointer (some ⟨gp,0,none⟩)),(·=.pointer (some ⟨gp,0,none⟩)),(·=.pointer (some ⟨gp,0,none⟩)),(·=.slice (some ad) (q+1) o),(·=.pointer (some ⟨gp,0,none⟩)),(·=.pointer (some ⟨gp,0,none⟩)),(·=.pointer (some ⟨gp,1,none⟩)),(·=.int .i64 N),(·=.int .i64 q),(·=.pointer (some (ad.add q))),(·=.int .u8 s),(·=.int .u32 xv),(·=.int .u32 b),(·=.int .u8 b),(·=.pointer (some ⟨gp,0,none⟩)),(·=.pointer (some ⟨gp,0,none⟩)),(·=.pointer (some ⟨gp,1,none⟩)),(·=.int .i64 N),(·=.int .i64 r),(·=.int .u8 ((b * pw:Nat):Int)),(·=.int .u8 ((s+b * pw:Nat):Int)),(·=.pointer (some (ad.add q))),(·=undef)]:List (Value->Prop)).getD ix (fun _=>True) vx)
   (fun ix vx=>([fun _=>[],fun _=>[],fun _=>[],fun _=>[],fun _=>[],fun _=>[],fun _=>[],fun _=>[],fun _=>[],fun _=>[],fun _=>[],fun _=>[],fun _=>[],fun _=>[],fun _=>[],fun _=>[],fun _=>[],fun _=>[],fun _=>[],fun _=>[],fun _=>[],fun _=>[],fun _=>[Row 5 1 (.slice (some ad) (q+1) o) (q+1) (cs.set q (.int .u8 ((s+b * pw:Nat):Int))),Bk gp 44 [.slice (some ad) (q+1) o,.int .i64 N]]]:List (Value->List Pr)).getD ix (fun _=>[]) vx) (fun ix=>([[],[],[],[],[],[],[],[],[],[],[],[],[],[],[],[],[],[],[],[],[],[],[Row 5 1 (.slice (some ad) (q+1) o) (q+1) cs,Bk gp 44 [.slice (some ad) (q+1) o,.int .i64 N]]]:List (List Pr)).getD ix []) 23 48
   [some 19,some 20,some 21,some 22,some 23,some 24,some 25,some 26,some 27,some 28,some 29,some 30,some 31,some 32,some 33,some 34,some 35,some 36,some 37,some 38,some 39,some 40,none]
   [[],[0],[1],[2],[],[4],[5],[6],[7],[3,8],[9],[],[11],[12],[],[14],[15],[16],[17],[13,18],[10,19],[3,8,0,1,2,3,4,5,6,7,8,9,10,11,12,13,14,15,16,17,18,19,20],[21,20,0,1,2,3,4,5,6,7,8,9,10,11,12,13,14,15,16,17,18,19,20]]
   [[],[0],[0,1],[0,1,2],[],[4],[4,5],[4,5,6],[4,5,6,7],[0,1,2,3,4,5,6,7,8],[0,1,2,3,4,5,6,7,8,9],[],[11],[11,12],[],[14],[14,15],[14,15,16],[14,15,16,17],[11,12,13,14,15,16,17,18],[0,1,2,3,4,5,6,7,8,9,10,11,12,13,14,15,16,17,18,19],[0,1,2,3,4,5,6,7,8,9,10,11,12,13,14,15,16,17,18,19,20],[0,1,2,3,4,5,6,7,8,9,10,11,12,13,14,15,16,17,18,19,20,21]]
   [[],[],[],[],[],[],[],[],[],[],[],[],[],[],[],[],[],[],[],[],[],[],[]]
   [[],[],[],[22],[],[],[],[22],[],[],[22],[],[],[],[],[],[],[22],[],[],[],[],[]]
   [(0,.pointer (some ⟨gp,0,none⟩)),(1,.int .u32 xv)]
   (by kernel_rfl) rfl (by decide) (by rfl) rfl (by decide +kernel) (by decide +kernel) (by rfl) rfl rfl (by decide) (by simp) (by rfl) (S.out) ?hstep ?hend
  case hstep =>
   refine⟨?_,⟨?_,⟨?_,⟨?_,⟨?_,⟨?_,⟨?_,⟨?_,⟨?_,⟨?_,⟨?_,⟨?_,⟨?_,⟨?_,⟨?_,⟨?_,⟨?_,⟨?_,⟨?_,⟨?_,⟨?_,⟨?_,⟨?_,trivial⟩⟩⟩⟩⟩⟩⟩⟩⟩⟩⟩⟩⟩⟩⟩⟩⟩⟩⟩⟩⟩⟩⟩
   ·intro x wx A d g f j H K a;have e0:A.tmps[0]?.getD undef=.pointer (some ⟨gp,0,none⟩):=g (0,_) (by simp);have k:=hid a;clear a g f j;refine so ?_;go_step;exact k.out _ _ rfl H
   ·intro x wx A d g f j H K a;have c2:=tq f 0;have k:=hid a;clear a g f j;refine so ?_;go_step;exact k.out _ _ rfl H
   ·intro x wx A d g f j H K a;have c3:=tq f 1;have k:=hid a;clear a g f j;refine so ?_;go_step;exact k.out _ _ rfl H
   ·intro x wx A d g f j H K a;have c4:=tq f 2;replace H:Sp w0 (_::_::d) wx:=H;have k:=hid a;clear a g f j;have c:wx.cell? ⟨gp,0,none⟩=some (.slice (some ad) (q+1) o):=H.cell 1 rfl 0;refine so ?_;go_step;exact k.out _ _ rfl H
   ·intro x wx A d g f j H K a;have e0:A.tmps[0]?.getD undef=.pointer (some ⟨gp,0,none⟩):=g (0,_) (by simp);have k:=hid a;clear a g f j;refine so ?_;go_step;exact k.out _ _ rfl H
   ·intro x wx A d g f j H K a;have c5:=tq f 4;have k:=hid a;clear a g f j;refine so ?_;go_step;exact k.out _ _ rfl H
   ·intro x wx A d g f j H K a;have c6:=tq f 5;have k:=hid a;clear a g f j;refine so ?_;go_step;exact k.out _ _ rfl H
   ·intro x wx A d g f j H K a;have c7:=tq f 6;replace H:Sp w0 (_::_::d) wx:=H;have k:=hid a;clear a g f j;have c:wx.cell? ⟨gp,1,none⟩=some (.int .i64 N):=H.cell 1 rfl 1;refine so ?_;go_step;exact k.out _ _ rfl H
   ·intro x wx A d g f j H K a;have c8:=tq f 7;have k:=hid a;clear a g f j;refine so ?_;go_step;exact k.out _ _ rfl H
   ·intro x wx A d g f j H K a;have Y:=tq f 3;have Z:=tq f 8;have k:=hid a;clear a g f j;refine so ?_;go_step;exact k.out _ _ rfl H
   ·intro x wx A d g f j H K a;have d1:=tq f 9;replace H:Sp w0 (_::_::d) wx:=H;have k:=hid a;clear a g f j;obtain⟨a0,c9,m,_,p,_,_⟩:=Sp.rowSet H (i:=q) (by omega);injection m with m
    injection m with m
    subst m;rw [M.out] at p;refine so ?_;go_step;exact k.out _ _ rfl H
   ·intro x wx A d g f j H K a;have e1:A.tmps[1]?.getD undef=.int .u32 xv:=g (1,_) (by simp);have k:=hid a;clear a g f j;refine so ?_;go_step;exact k.out _ _ rfl H
   ·intro x wx A d g f j H K a;have d2:=tq f 11;have k:=hid a;clear a g f j;have e:=P.out;refine so ?_;go_step;exact k.out _ _ rfl H
   ·intro x wx A d g f j H K a;have d3:=tq f 12;have k:=hid a;clear a g f j;have hw:IntKind.u8.wrap (b:Int)=(b:Int):=by rw [IntKind.wrap_u8']; omega
    refine so ?_;go_step;exact k.out _ _ rfl H
   ·intro x wx A d g f j H K a;have e0:A.tmps[0]?.getD undef=.pointer (some ⟨gp,0,none⟩):=g (0,_) (by simp);have k:=hid a;clear a g f j;refine so ?_;go_step;exact k.out _ _ rfl H
   ·intro x wx A d g f j H K a;have d4:=tq f 14;have k:=hid a;clear a g f j;refine so ?_;go_step;exact k.out _ _ rfl H
   ·intro x wx A d g f j H K a;have d5:=tq f 15;have k:=hid a;clear a g f j;refine so ?_;go_step;exact k.out _ _ rfl H
   ·intro x wx A d g f j H K a;have d6:=tq f 16;replace H:Sp w0 (_::_::d) wx:=H;have k:=hid a;clear a g f j;have c:wx.cell? ⟨gp,1,none⟩=some (.int .i64 N):=H.cell 1 rfl 1;refine so ?_;go_step;exact k.out _ _ rfl H
   ·intro x wx A d g f j H K a;have d7:=tq f 17;have k:Hid (∀(v:Value) (w' : World),v=.int .i64 r->Sp w0 (d) w'->K (A.put (some 37) v) w'):=hid a;clear a g f j;refine so ?_;go_step;exact k.out _ _ (by rw [y2]) H
   ·intro x wx A d g f j H K a;have d8:=tq f 13;have d9:=tq f 18;have k:=hid a;clear a g f j;have hw:IntKind.u8.wrap ((b:Int) * (pw:Int))=((b * pw:Nat):Int):=by rw [<- Int.natCast_mul,IntKind.wrap_u8']; omega
    have e:=a6.out;refine so ?_;go_step;exact k.out _ _ rfl H
   ·intro x wx A d g f j H K a;have e2:=tq f 10;have e3:=tq f 19;have k:Hid (∀(v:Value) (w' : World),v=.int .u8 ((s+b * pw:Nat):Int)->Sp w0 (d) w'->K (A.put (some 39) v) w'):=hid a;clear a g f j;refine so ?_;go_step;exact k.out _ _ (by rw [<- Int.natCast_mul,a5.out]) H
   ·intro x wx A d g f j H K a;have Y:=tq f 3;have Z:=tq f 8;have k:=hid a;clear a g f j;refine so ?_;go_step;exact k.out _ _ rfl H
   ·intro x wx A d g f j H K a;have e4:=tq f 21;have e5:=tq f 20;replace H:Sp w0 (_::_::d) wx:=H;have k:=hid a;clear a g f j;obtain⟨a0,c9,m,_,p,b1,n⟩:=Sp.rowSet H (i:=q) (by omega);injection m with m
    injection m with m
    subst m;refine so ?_;go_step;exact k.out _ _ rfl (n (.int .u8 ((s+b * pw:Nat):Int)))
  case hend =>
   intro x wx A hA f H;replace H:Sp w0 (_::_::L) wx:=H;clear f;simp only [putAll,Act.put,List.setIfInBounds_toArray,List.set_cons_succ,List.set_cons_zero,Nat.reduceAdd] at hA;subst hA;have c1:wx.cell? ⟨gp,1,none⟩=some (.int .i64 N):=H.cell 1 rfl 1;have z1:wx.frozen? ⟨gp,1,none⟩=false:=H.frozen 1 rfl 1;have H6:=H.swap.set 1 (.int .i64 ((N+1:Nat):Int));have HY:=hid H6;clear H H6 S;go_wp2_with fail
   go_end0;refine⟨rfl,Ya (v:=.slice (some ad) (q+1) o) ?_⟩;have h8:=HY.out;rw [J.out] at h8;unfold PenB PenR;rw [a4.out,a3.out];exact h8
 ·have k1:((r:Int) == 0)=false:=by rw [beq_eq_false_iff_ne]; omega
  have f8 : ¬ (r:Int)=0:=by omega
  have t:pn=q+1:=by have h1:=D.out; have h2:=a8.out; have h3:=a9.out; omega
  rw [t] at G U; clear t D;have hR:=b8.out h0;rw [hR] at G;have S:=hid G.swap;clear hR G;go_wp2_with fail
  have X:q<(q+1):=by omega
  obtain⟨ad,rfl⟩:∃ad,T=some ad:=by
   obtain⟨ad,c9,m,_⟩:=Sp.rowSet S.out (i:=q) X;injection m with m
   exact⟨ad,m⟩
  refine Zg (L:=L) (fun ix vx=>([(·=.pointer (some ⟨gp,0,none⟩)),(·=.pointer (some ⟨gp,0,none⟩)),(·=.pointer (some ⟨gp,0,none⟩)),(·=.slice (some ad) (q+1) B),(·=.pointer (some ⟨gp,0,none⟩)),(·=.pointer (some ⟨gp,0,none⟩)),(·=.pointer (some ⟨gp,1,none⟩)),(·=.int .i64 N),(·=.int .i64 q),(·=.pointer (some (ad.add q))),(·=.int .u8 s),(·=.int .u32 xv),(·=.int .u32 b),(·=.int .u8 b),(·=.pointer (some ⟨gp,0,none⟩)),(·=.pointer (some ⟨gp,0,none⟩)),(·=.pointer (some ⟨gp,1,none⟩)),(·=.int .i64 N),(·=.int .i64 r),(·=.int .u8 ((b * pw:Nat):Int)),(·=.int .u8 ((s+b * pw:Nat):Int)),(·=.pointer (some (ad.add q))),(·=undef)]:List (Value->Prop)).getD ix (fun _=>True) vx)
   (fun ix vx=>([fun _=>[],fun _=>[],fun _=>[],fun _=>[],fun _=>[],fun _=>[],fun _=>[],fun _=>[],fun _=>[],fun _=>[],fun _=>[],fun _=>[],fun _=>[],fun _=>[],fun _=>[],fun _=>[],fun _=>[],fun _=>[],fun _=>[],fun _=>[],fun _=>[],fun _=>[],fun _=>[Row 5 1 (.slice (some ad) (q+1) B) (q+1) (cs.set q (.int .u8 ((s+b * pw:Nat):Int))),Bk gp 44 [.slice (some ad) (q+1) B,.int .i64 N]]]:List (Value->List Pr)).getD ix (fun _=>[]) vx) (fun ix=>([[],[],[],[],[],[],[],[],[],[],[],[],[],[],[],[],[],[],[],[],[],[],[Row 5 1 (.slice (some ad) (q+1) B) (q+1) cs,Bk gp 44 [.slice (some ad) (q+1) B,.int .i64 N]]]:List (List Pr)).getD ix []) 23 48
   [some 19,some 20,some 21,some 22,some 23,some 24,some 25,some 26,some 27,some 28,some 29,some 30,some 31,some 32,some 33,some 34,some 35,some 36,some 37,some 38,some 39,some 40,none]
   [[],[0],[1],[2],[],[4],[5],[6],[7],[3,8],[9],[],[11],[12],[],[14],[15],[16],[17],[13,18],[10,19],[3,8,0,1,2,3,4,5,6,7,8,9,10,11,12,13,14,15,16,17,18,19,20],[21,20,0,1,2,3,4,5,6,7,8,9,10,11,12,13,14,15,16,17,18,19,20]]
   [[],[0],[0,1],[0,1,2],[],[4],[4,5],[4,5,6],[4,5,6,7],[0,1,2,3,4,5,6,7,8],[0,1,2,3,4,5,6,7,8,9],[],[11],[11,12],[],[14],[14,15],[14,15,16],[14,15,16,17],[11,12,13,14,15,16,17,18],[0,1,2,3,4,5,6,7,8,9,10,11,12,13,14,15,16,17,18,19],[0,1,2,3,4,5,6,7,8,9,10,11,12,13,14,15,16,17,18,19,20],[0,1,2,3,4,5,6,7,8,9,10,11,12,13,14,15,16,17,18,19,20,21]]
   [[],[],[],[],[],[],[],[],[],[],[],[],[],[],[],[],[],[],[],[],[],[],[]]
   [[],[],[],[22],[],[],[],[22],[],[],[22],[],[],[],[],[],[],[22],[],[],[],[],[]]
   [(0,.pointer (some ⟨gp,0,none⟩)),(1,.int .u32 xv)]
   (by kernel_rfl) rfl (by decide) (by rfl) rfl (by decide +kernel) (by decide +kernel) (by rfl) rfl rfl (by decide) (by simp) (by rfl) (S.out) ?hstep ?hend
  case hstep =>
   refine⟨?_,⟨?_,⟨?_,⟨?_,⟨?_,⟨?_,⟨?_,⟨?_,⟨?_,⟨?_,⟨?_,⟨?_,⟨?_,⟨?_,⟨?_,⟨?_,⟨?_,⟨?_,⟨?_,⟨?_,⟨?_,⟨?_,⟨?_,trivial⟩⟩⟩⟩⟩⟩⟩⟩⟩⟩⟩⟩⟩⟩⟩⟩⟩⟩⟩⟩⟩⟩⟩
   ·intro x wx A d g f j H K a;have e0:A.tmps[0]?.getD undef=.pointer (some ⟨gp,0,none⟩):=g (0,_) (by simp);have k:=hid a;clear a g f j;refine so ?_;go_step;exact k.out _ _ rfl H
   ·intro x wx A d g f j H K a;have c2:=tq f 0;have k:=hid a;clear a g f j;refine so ?_;go_step;exact k.out _ _ rfl H
   ·intro x wx A d g f j H K a;have c3:=tq f 1;have k:=hid a;clear a g f j;refine so ?_;go_step;exact k.out _ _ rfl H
   ·intro x wx A d g f j H K a;have c4:=tq f 2;replace H:Sp w0 (_::_::d) wx:=H;have k:=hid a;clear a g f j;have c:wx.cell? ⟨gp,0,none⟩=some (.slice (some ad) (q+1) B):=H.cell 1 rfl 0;refine so ?_;go_step;exact k.out _ _ rfl H
   ·intro x wx A d g f j H K a;have e0:A.tmps[0]?.getD undef=.pointer (some ⟨gp,0,none⟩):=g (0,_) (by simp);have k:=hid a;clear a g f j;refine so ?_;go_step;exact k.out _ _ rfl H
   ·intro x wx A d g f j H K a;have c5:=tq f 4;have k:=hid a;clear a g f j;refine so ?_;go_step;exact k.out _ _ rfl H
   ·intro x wx A d g f j H K a;have c6:=tq f 5;have k:=hid a;clear a g f j;refine so ?_;go_step;exact k.out _ _ rfl H
   ·intro x wx A d g f j H K a;have c7:=tq f 6;replace H:Sp w0 (_::_::d) wx:=H;have k:=hid a;clear a g f j;have c:wx.cell? ⟨gp,1,none⟩=some (.int .i64 N):=H.cell 1 rfl 1;refine so ?_;go_step;exact k.out _ _ rfl H
   ·intro x wx A d g f j H K a;have c8:=tq f 7;have k:=hid a;clear a g f j;refine so ?_;go_step;exact k.out _ _ rfl H
   ·intro x wx A d g f j H K a;have Y:=tq f 3;have Z:=tq f 8;have k:=hid a;clear a g f j;refine so ?_;go_step;exact k.out _ _ rfl H
   ·intro x wx A d g f j H K a;have d1:=tq f 9;replace H:Sp w0 (_::_::d) wx:=H;have k:=hid a;clear a g f j;obtain⟨a0,c9,m,_,p,_,_⟩:=Sp.rowSet H (i:=q) (by omega);injection m with m
    injection m with m
    subst m;rw [M.out] at p;refine so ?_;go_step;exact k.out _ _ rfl H
   ·intro x wx A d g f j H K a;have e1:A.tmps[1]?.getD undef=.int .u32 xv:=g (1,_) (by simp);have k:=hid a;clear a g f j;refine so ?_;go_step;exact k.out _ _ rfl H
   ·intro x wx A d g f j H K a;have d2:=tq f 11;have k:=hid a;clear a g f j;have e:=P.out;refine so ?_;go_step;exact k.out _ _ rfl H
   ·intro x wx A d g f j H K a;have d3:=tq f 12;have k:=hid a;clear a g f j;have hw:IntKind.u8.wrap (b:Int)=(b:Int):=by rw [IntKind.wrap_u8']; omega
    refine so ?_;go_step;exact k.out _ _ rfl H
   ·intro x wx A d g f j H K a;have e0:A.tmps[0]?.getD undef=.pointer (some ⟨gp,0,none⟩):=g (0,_) (by simp);have k:=hid a;clear a g f j;refine so ?_;go_step;exact k.out _ _ rfl H
   ·intro x wx A d g f j H K a;have d4:=tq f 14;have k:=hid a;clear a g f j;refine so ?_;go_step;exact k.out _ _ rfl H
   ·intro x wx A d g f j H K a;have d5:=tq f 15;have k:=hid a;clear a g f j;refine so ?_;go_step;exact k.out _ _ rfl H
   ·intro x wx A d g f j H K a;have d6:=tq f 16;replace H:Sp w0 (_::_::d) wx:=H;have k:=hid a;clear a g f j;have c:wx.cell? ⟨gp,1,none⟩=some (.int .i64 N):=H.cell 1 rfl 1;refine so ?_;go_step;exact k.out _ _ rfl H
   ·intro x wx A d g f j H K a;have d7:=tq f 17;have k:Hid (∀(v:Value) (w' : World),v=.int .i64 r->Sp w0 (d) w'->K (A.put (some 37) v) w'):=hid a;clear a g f j;refine so ?_;go_step;exact k.out _ _ (by rw [y2]) H
   ·intro x wx A d g f j H K a;have d8:=tq f 13;have d9:=tq f 18;have k:=hid a;clear a g f j;have hw:IntKind.u8.wrap ((b:Int) * (pw:Int))=((b * pw:Nat):Int):=by rw [<- Int.natCast_mul,IntKind.wrap_u8']; omega
    have e:=a6.out;refine so ?_;go_step;exact k.out _ _ rfl H
   ·intro x wx A d g f j H K a;have e2:=tq f 10;have e3:=tq f 19;have k:Hid (∀(v:Value) (w' : World),v=.int .u8 ((s+b * pw:Nat):Int)->Sp w0 (d) w'->K (A.put (some 39) v) w'):=hid a;clear a g f j;refine so ?_;go_step;exact k.out _ _ (by rw [<- Int.natCast_mul,a5.out]) H
   ·intro x wx A d g f j H K a;have Y:=tq f 3;have Z:=tq f 8;have k:=hid a;clear a g f j;refine so ?_;go_step;exact k.out _ _ rfl H
   ·intro x wx A d g f j H K a;have e4:=tq f 21;have e5:=tq f 20;replace H:Sp w0 (_::_::d) wx:=H;have k:=hid a;clear a g f j;obtain⟨a0,c9,m,_,p,b1,n⟩:=Sp.rowSet H (i:=q) (by omega);injection m with m
    injection m with m
    subst m;refine so ?_;go_step;exact k.out _ _ rfl (n (.int .u8 ((s+b * pw:Nat):Int)))
  case hend =>
   intro x wx A hA f H;replace H:Sp w0 (_::_::L) wx:=H;clear f;simp only [putAll,Act.put,List.setIfInBounds_toArray,List.set_cons_succ,List.set_cons_zero,Nat.reduceAdd] at hA;subst hA;have c1:wx.cell? ⟨gp,1,none⟩=some (.int .i64 N):=H.cell 1 rfl 1;have z1:wx.frozen? ⟨gp,1,none⟩=false:=H.frozen 1 rfl 1;have H6:=H.swap.set 1 (.int .i64 ((N+1:Nat):Int));have HY:=hid H6;clear H H6 S;go_wp2_with fail
   go_end0;refine⟨rfl,Ya (v:=.slice (some ad) (q+1) B) ?_⟩;have h8:=HY.out;rw [J.out] at h8;unfold PenB PenR;rw [a4.out,a3.out];exact h8
end Go.Proofs.YteajimobgkempaaDoor

