/- A pack. -/
import Derived.Test.YteajimobgkempaaGreatDoorPk32
set_option linter.all false
set_option maxRecDepth 100000
set_option maxHeartbeats 8000000
namespace Go.Proofs.YteajimobgkempaaGreatDoor
variable {w0 w:World} {L:List Pr}
open Go.RowKit
namespace PD
theorem wd_code {M:List Nat} {s:Nat} (h:PI.Has M s) (h15:∀x ∈ M,x<=15) (hs:PH.sum M<=32768):s<M.length/\PH.codeAt M s<2 ^ M.getD s 0:=by
 obtain⟨a,b,c⟩:=h;refine⟨a,?_⟩;have d:=ZF h15 s;have h:=PH.code_lt M s (M.getD s 0 - 1) a (by omega) (by omega) hs;rw [show M.getD s 0 - 1+1=M.getD s 0 by omega] at h;exact h
theorem long_of {x:Nat} (h1:3<=x) (h2:x<=258):longI (x:Int)=(257+(PI.longS x).1,(PI.longS x).2.1,(PI.longS x).2.2):=by unfold longI; rw [if_pos (by omega)]; rfl
theorem far_of {x:Nat} (h1:1<=x) (h2:x<=32768):farI (x:Int)=((PI.farS x).1,(PI.farS x).2.1,(PI.farS x).2.2):=by unfold farI; rw [if_pos (by omega)]; rfl
theorem wds_takeR {Y:List PM.St} {i:Nat} (h:i<Y.length):wds (Y.take (i+1))=wds (Y.take i)++wd Y[i]:=by
 unfold wds;rw [List.take_succ_eq_append_getElem h,List.flatMap_append];simp
theorem wds_sub {Y:List PM.St} {i:Nat} (h:i<Y.length):∀t ∈ wd Y[i],t ∈ words Y:=fun t ht=>List.mem_append.2 (.inl (List.mem_flatMap.2 ⟨_,List.getElem_mem h,ht⟩))
theorem wW_one (A B:List Nat) (b s:Nat):wW A B (b,s,0,0)=PI.codeW (if b=0 then A else B) s:=by unfold wW; exact sayW_plain _ _
end PD
theorem VQ (g:Nat) (B:List Bool) (at_:Nat) (V:Option Addr) (n c:Nat) (Y:List PM.St) (VA:Option Addr) (na ca:Nat) (MA:List Nat) (VD:Option Addr) (nd cd:Nat) (MD:List Nat) (H:Sp w0 (Rw g B at_::L) w)
  (hn:n=Y.length) (hY:Ent L fun w=>StAt w V Y) (hc:n<=1000) (hst:∀s ∈ Y,PD.StOk s) (hA:Ent L fun w=>Rd w VA (cellsN MA)) (hna:na=MA.length) (hMAl:na<=1024) (hA15:∀x ∈ MA,x<=15) (hAs:PH.sum MA<=32768)
  (hD:Ent L fun w=>Rd w VD (cellsN MD)) (hnd:nd=MD.length) (hMDl:nd<=1024) (hD15:∀x ∈ MD,x<=15) (hDs:PH.sum MD<=32768) (hok:∀t ∈ PD.words Y,PD.WdOk MA MD t) (hB:B.length<=800000) :
  Calls Tryz.prog 90 #[.pointer (some ⟨g,0,none⟩),.slice V n c,.slice VA na ca,.slice VD nd cd] w fun e w'=>e=.returned (.tuple #[])/\Sp w0 (Rw g (B++PD.layW MA MD (PD.words Y)) at_::L) w':=by
 have HN:=hid hn;have HY:=hid hY;have b5:=hid hst;have HA:=hid hA;have b6:=hid hD;have k:=hid hna;have I:=hid hnd;have b:=hid hA15;have m:=hid hD15;have l:=hid hAs;have J:=hid hDs;have O:=hid hok;have K:=hid H;clear hn hY hst hA hD hna hnd hA15 hD15 hAs hDs hok H;go_enter Tryz.func90,Tryz.ntmps90
 go_wp2_with fail
 go_loopw [8] (fun iv wr=>∃i:Nat,iv=.int .i64 i/\i<=n/\Sp w0 (Rw g (B++PD.layW MA MD (PD.wds (Y.take i))) at_::L) wr) (fun iv _=>n - (intOf iv).toNat)
 case atStart=>exact⟨0,rfl,Nat.zero_le _,by rw [List.take_zero]; show Sp w0 (Rw g (B++[]) at_::L) _; rw [List.append_nil]; exact K.out⟩
 case round =>
  obtain⟨i,rfl,d4,a⟩:=hrel;clear K;have a2:(PD.layW MA MD (PD.wds (Y.take i))).length<=56 * i:=by
   have h:=ZP b.out m.out (PD.wds (Y.take i)) (fun t ht=>O.out t (List.mem_append.2 (.inl (by
    obtain⟨s,hs,h9⟩:=List.mem_flatMap.1 ht;exact List.mem_flatMap.2 ⟨s,List.mem_of_mem_take hs,h9⟩))))
   have h2:=PD.wds_len (Y.take i);rw [List.length_take] at h2;omega
  by_cases b7:i<n
  ·have k1:(i:Int)<(n:Int):=by omega
   have r:i<Y.length:=by rw [<- HN.out]; exact b7
   have p:PD.layW MA MD (PD.wds (Y.take (i+1)))=PD.layW MA MD (PD.wds (Y.take i))++PD.layW MA MD (PD.wd Y[i]):=by rw [PD.wds_takeR r,PD.layW_app]
   have o:=fun t ht=>O.out t (PD.wds_sub r t ht);have v:=b5.out _ (List.getElem_mem r);obtain⟨ad,rfl,P,Q,N⟩:=HY.out _ _ a.tail i r;obtain⟨⟨x,y,z⟩,A⟩:∃s,Y[i]=s:=⟨_,rfl⟩;rw [A] at P Q N p o v;simp only at P Q N;obtain⟨q,j⟩:=exq (B++PD.layW MA MD (PD.wds (Y.take i)));have a3:q.length<=860000:=by rw [<- j,List.length_append]; omega
   rw [j] at a;by_cases hx:x=0
   ·have y0:(x:Int)=0:=by omega
    obtain⟨zn,C⟩:=exq z.toNat;rw [C] at N;have d5:zn<256:=by rw [<- C]; exact UInt8.toNat_lt z
    have R:PD.wd (x,y,z)=[(0,zn,0,0)]:=by unfold PD.wd; rw [if_pos hx,C]
    rw [R] at p o;have S:=hid (PD.wd_code (M:=MA) (s:=zn) (o _ (List.mem_singleton.2 rfl)).2.1 b.out l.out);rw [<- k.out] at S;have d:B++PD.layW MA MD (PD.wds (Y.take (i+1)))=q++PI.codeW MA zn:=by
     rw [p,<- List.append_assoc,j];show q++(PD.wW MA MD (0,zn,0,0)++[])=_;rw [List.append_nil,PD.wW_one,if_pos rfl]
    have HF:=hid d;clear p o v A j C R d;have f:=hid (Yp g q at_ VA na ca MA zn a k.out HA.out hMAl b.out l.out S.out.1 S.out.2 (by omega));clear a;go_wp2_with fail
    refine f.out.mono ?_;rintro _ T ⟨rfl,a⟩;clear f;have K:=hid a;clear a;go_wp2_with fail
    go_roundw
    case rel=>exact⟨i+1,by go_num,by omega,by rw [HF.out]; exact K.out⟩
    case measure=>first | (simp [intOf]; omega) | simp [intOf]
   ·have y0:¬ (x:Int)=0:=by omega
    obtain⟨a4,u,a5,a6⟩:=v.resolve_left hx;simp only at a4 u a5 a6;have hL:=PD.long_of a4 u;have U:=PD.far_of a5 a6;have R:PD.wd (x,y,z)=[(0,257+(PI.longS x).1,(PI.longS x).2.1,(PI.longS x).2.2),(1,(PI.farS y).1,(PI.farS y).2.1,(PI.farS y).2.2)]:=by unfold PD.wd; rw [if_neg hx]
    obtain⟨D,a7⟩:=exq (257+(PI.longS x).1);obtain⟨q1,a8⟩:=exq ((PI.longS x).2.1);obtain⟨r1,a9⟩:=exq ((PI.longS x).2.2);obtain⟨E,b0⟩:=exq ((PI.farS y).1);obtain⟨q2,b1⟩:=exq ((PI.farS y).2.1);obtain⟨r2,b2⟩:=exq ((PI.farS y).2.2);rw [a7,a8,a9] at hL R;rw [b0,b1,b2] at U R;rw [R] at p o;have w1:=o _ (List.mem_cons_self ..);have w2:=o _ (List.mem_cons_of_mem _ (List.mem_singleton.2 rfl));have F:=hid (PD.wd_code (M:=MA) (s:=D) w1.2.1 b.out l.out);have G:=hid (PD.wd_code (M:=MD) (s:=E) w2.2.1 m.out J.out);rw [<- k.out] at F;rw [<- I.out] at G;have W:=hid w1.2.2.1;have X:=hid w2.2.2.1;have b3:q1<=13:=w1.2.2.2;have b4:q2<=13:=w2.2.2.2;simp only at W X;have c8:r1<8192:=Nat.lt_of_lt_of_le W.out (Nat.pow_le_pow_right (by decide) b3);have c9:r2<8192:=Nat.lt_of_lt_of_le X.out (Nat.pow_le_pow_right (by decide) b4);have d:B++PD.layW MA MD (PD.wds (Y.take (i+1)))=q++PI.codeW MA D++PBits.bitsOf r1 q1++PI.codeW MD E++PBits.bitsOf r2 q2:=by
     rw [p,<- List.append_assoc,j];show q++(PD.wW MA MD (0,D,q1,r1)++(PD.wW MA MD (1,E,q2,r2)++[]))=_;unfold PD.wW PI.sayW;simp only [if_pos,List.append_nil,List.append_assoc];rw [if_neg (by decide)]
    have HF:=hid d;have b8:=hid A;have d0:D<na:=F.out.1;have d1:E<nd:=G.out.1;have d2:(PI.codeW MA D).length<=15:=by rw [PI.codeW_len]; exact ZF b.out D
    have d3:(PI.codeW MD E).length<=15:=by rw [PI.codeW_len]; exact ZF m.out E
    have b9:=hid hL;have c0:=hid U;clear p o v A j R d w1 w2 a7 a8 a9 b0 b1 b2 hL U;have f:=hid (Wp (x:Int) a);rw [b9.out] at f;clear a;go_wp2_with fail
    refine f.out.mono ?_;rintro _ T ⟨rfl,a⟩;clear f P Q N;have f:=hid (Yp g q at_ VA na ca MA D a k.out HA.out hMAl b.out l.out F.out.1 F.out.2 (by omega));clear a;go_wp2_with fail
    refine f.out.mono ?_;rintro _ T ⟨rfl,a⟩;clear f;have c1:(q++PI.codeW MA D).length<=870000:=by rw [List.length_append]; omega
    obtain⟨B2,Z⟩:=exq (q++PI.codeW MA D);rw [Z] at a c1;have c2:=hid Z;clear Z;have f:=hid (ZV g B2 at_ r1 q1 a (by omega) W.out (by omega));clear a;go_wp2_with fail
    refine f.out.mono ?_;rintro _ T ⟨rfl,a⟩;clear f;have c3:(B2++PBits.bitsOf r1 q1).length<=880000:=by rw [List.length_append,PBits.bitsOf_length]; omega
    obtain⟨B3,a0⟩:=exq (B2++PBits.bitsOf r1 q1);rw [a0] at a c3;have c4:=hid a0;clear a0;obtain⟨d6,e9,P,Q,N⟩:=HY.out _ _ a.tail i r;injection e9 with e9
    subst e9;rw [b8.out] at P Q N;simp only at P Q N;have f:=hid (VG (y:Int) a);rw [c0.out] at f;clear a;go_wp2_with fail
    refine f.out.mono ?_;rintro _ T ⟨rfl,a⟩;clear f P Q N;have f:=hid (Yp g B3 at_ VD nd cd MD E a I.out b6.out hMDl m.out J.out G.out.1 G.out.2 (by omega));clear a;go_wp2_with fail
    refine f.out.mono ?_;rintro _ T ⟨rfl,a⟩;clear f;have c5:(B3++PI.codeW MD E).length<=890000:=by rw [List.length_append]; omega
    obtain⟨B4,a1⟩:=exq (B3++PI.codeW MD E);rw [a1] at a c5;have c6:=hid a1;clear a1;have f:=hid (ZV g B4 at_ r2 q2 a (by omega) X.out (by omega));clear a;go_wp2_with fail
    refine f.out.mono ?_;rintro _ T ⟨rfl,a⟩;clear f;have K:=hid a;have c7:Hid (B++PD.layW MA MD (PD.wds (Y.take (i+1)))=B4++PBits.bitsOf r2 q2):=hid (by rw [HF.out,c2.out,c4.out,c6.out]);clear a;go_wp2_with fail
    go_roundw
    case rel=>exact⟨i+1,by go_num,by omega,by rw [c7.out]; exact K.out⟩
    case measure=>first | (simp [intOf]; omega) | simp [intOf]
  ·have k1:¬ (i:Int)<(n:Int):=by omega
   obtain rfl:n=i:=by omega
   have e:Y.take n=Y:=List.take_of_length_le (by rw [<- HN.out]; exact Nat.le_refl _);rw [e] at a a2;have S:=hid (PD.wd_code (M:=MA) (s:=256) (O.out _ (List.mem_append.2 (.inr (List.mem_singleton.2 rfl)))).2.1 b.out l.out);rw [<- k.out] at S;obtain⟨q,j⟩:=exq (B++PD.layW MA MD (PD.wds Y));have a3:q.length<=860000:=by rw [<- j,List.length_append]; omega
   rw [j] at a;have d:B++PD.layW MA MD (PD.words Y)=q++PI.codeW MA 256:=by
    unfold PD.words;rw [PD.layW_app,<- List.append_assoc,j];show q++(PD.wW MA MD (0,256,0,0)++[])=_;rw [List.append_nil,PD.wW_one,if_pos rfl]
   have HF:=hid d;clear e d j;have f:=hid (Yp g q at_ VA na ca MA 256 a k.out HA.out hMAl b.out l.out S.out.1 S.out.2 (by omega));clear a;go_wp2_with fail
   refine f.out.mono ?_;rintro _ T ⟨rfl,a⟩;clear f;have K:=hid a;clear a;go_wp2_with fail
   go_end0;rw [HF.out];exact⟨rfl,K.out⟩
def ptrOf:Value->Nat
 | .pointer (some ⟨g,_,_⟩)=>g
 | _=>0
theorem Tu (g:Nat) (l:List Bool) (at_:Nat) (A0:Option Addr) (ca n:Nat) (b:List UInt8) (H:Sp w0 (Rw g l at_::L) w) (hn:n=b.length) (hB:Ent L (fun w'=>Byt w' (.slice A0 n ca) b)) (hb:b.length<=100000) (hl:l.length<=1000000) (h8:l.length % 8=0) :
  Calls Tryz.prog 97 #[.pointer (some ⟨g,0,none⟩),.slice A0 n ca] w fun e w'=>e=.returned (.int .i64 0)/\Sp w0 (Rw g (l++PBits.ofB b) at_::L) w':=by
 obtain⟨i0,hi,F,G,I⟩:=info_parts infoBb;obtain⟨U,c,H,_,J,_,_,_,M,a0⟩:=ZU H;obtain⟨N,i⟩:=exq l.length;rw [i] at hl h8 J H M;have a1 : ((N:Int) % 8 != 0)=false:=by rw [bne_eq_false_iff_eq]; omega
 have HN:=hid i;clear i;obtain⟨m,p⟩:=exq (PBits.ofB b);have a2:m.length<=800000:=by rw [<- p,PBits.ofB_length]; omega
 obtain⟨s,r⟩:=exq (cellsBb l);rw [r] at H;have O:=hid r;have t:=hid p;have P:=hid hn;have Q:=hid hB;clear r p hn hB;go_enter Tryz.func97,Tryz.ntmps97
 go_wp2_with fail
 clear J;refine Zs (L:=L) (fun ix vx=>([(·=.pointer (some ⟨g,0,none⟩)),(·=.pointer (some ⟨g,0,none⟩)),(·=.pointer (some ⟨g,0,none⟩)),(·=.pointer (some ⟨g,0,none⟩)),(·=.slice U N c),(·=.slice A0 n ca),(fun v=>v=.pointer (some ⟨ptrOf v,0,none⟩)),(fun v=>v=.pointer (some ⟨ptrOf v,0,none⟩)),(fun v=>v=.pointer (some ⟨ptrOf v,0,none⟩)),(fun _=>True),(fun _=>True),(·=.pointer (some ⟨g,0,none⟩)),(·=.pointer (some ⟨g,0,none⟩)),(·=undef)]:List (Value->Prop)).getD ix (fun _=>True) vx)
  (fun ix vx=>([fun _=>[],fun _=>[],fun _=>[],fun _=>[],fun _=>[],fun _=>[],fun v=>[Rw (ptrOf v) m 0],fun v=>[Rw (ptrOf v) m 0],fun v=>[Rw (ptrOf v) m 0],fun v=>[Row 4 1 v m.length (cellsBb m)],fun v=>[Row 4 1 v (N+m.length) (s++cellsBb m)],fun _=>[],fun _=>[],fun _=>[Ex fun u=>Star (RwB g u at_) (Row 4 1 u (N+m.length) (s++cellsBb m))]]:List (Value->List Pr)).getD ix (fun _=>[]) vx) (fun ix=>([[],[],[],[],[],[],[],[],[],[],[Row 4 1 (.slice U N c) N s],[],[],[RwB g (.slice U N c) at_]]:List (List Pr)).getD ix []) 14 25
  [some 12,some 13,some 14,some 15,some 16,some 17,some 18,some 19,some 20,some 21,some 22,some 23,some 24,none]
  [[],[],[1],[2],[3],[],[5],[6],[7],[8],[4,9,6],[0,0,1,2,3,4,5,6,7,8,9,10],[11,0,1,2,3,4,5,6,7,8,9,10],[12,10,10,0,1,2,3,4,5,6,7,8,9,10]]
  [[],[],[1],[1,2],[1,2,3],[],[5],[5,6],[5,6,7],[5,6,7,8],[1,2,3,4,5,6,7,8,9],[0,1,2,3,4,5,6,7,8,9,10],[0,1,2,3,4,5,6,7,8,9,10,11],[0,1,2,3,4,5,6,7,8,9,10,11,12]]
  [[],[],[],[],[],[],[],[6],[7],[8],[9],[],[],[10]]
  [[],[],[],[],[13],[],[],[],[],[],[],[],[],[]]
  [(0,.pointer (some ⟨g,0,none⟩)),(1,.slice A0 n ca)]
  (by kernel_rfl) rfl (by decide) (by rfl) rfl (by decide +kernel) (by decide +kernel) (by rfl) rfl rfl (by decide) (by simp) (by rfl) (H.pick 2 [1,0]) ?hstep ?hend
 case hstep =>
  refine⟨?_,⟨?_,⟨?_,⟨?_,⟨?_,⟨?_,⟨?_,⟨?_,⟨?_,⟨?_,⟨?_,⟨?_,⟨?_,⟨?_,trivial⟩⟩⟩⟩⟩⟩⟩⟩⟩⟩⟩⟩⟩⟩
  ·intro x wx A f i h j H K a;have e0:A.tmps[0]?.getD undef=.pointer (some ⟨g,0,none⟩):=i (0,_) (by simp);have k:=hid a;clear a i h j;refine so ?_;go_step;exact k.out _ _ rfl H
  ·intro x wx A f i h j H K a;have e0:A.tmps[0]?.getD undef=.pointer (some ⟨g,0,none⟩):=i (0,_) (by simp);have k:=hid a;clear a i h j;refine so ?_;go_step;exact k.out _ _ rfl H
  ·intro x wx A f i h j H K a;have a3:=tq h 1;have k:=hid a;clear a i h j;refine so ?_;go_step;exact k.out _ _ rfl H
  ·intro x wx A f i h j H K a;have a4:=tq h 2;have k:=hid a;clear a i h j;refine so ?_;go_step;exact k.out _ _ rfl H
  ·intro x wx A f i h j H K a;have a5:=tq h 3;replace H:Sp w0 (_::f) wx:=H;have k:=hid a;clear a i h j;have c:wx.cell? ⟨g,0,none⟩=some (.slice U N c):=H.cell 0 rfl 0;refine so ?_;go_step;exact k.out _ _ rfl H
  ·intro x wx A f i h j H K a;have e1:A.tmps[1]?.getD undef=.slice A0 n ca:=i (1,_) (by simp);have k:=hid a;clear a i h j;refine so ?_;go_step;exact k.out _ _ rfl H
  ·intro x wx A f i h j H K a;have a6:=tq h 5;have k:=hid a;clear a i h;have R:=hid (j _ Q.out);clear j;refine so ?_;go_wp2_with fail
   refine(T0 A0 ca n b H P.out (fun w9 H9=>R.out _ _ H9) (by omega)).mono ?_;rintro _ w9 ⟨_,rfl,S,rfl,Z⟩;rw [t.out] at Z;exact k.out _ _ rfl Z
  ·intro x wx A f i h j H K a;have y:=(h 6 (by decide)).1;have T:=(h 6 (by decide)).2 18 rfl;replace H:Sp w0 ((Rw (ptrOf (x 6)) m 0)::f) wx:=H;have k:=hid a;clear a i h j;have q:x 6=.pointer (some ⟨ptrOf (x 6),0,none⟩):=y;clear y;obtain⟨S,o⟩:=exq (ptrOf (x 6));rw [o] at q H;rw [q] at T;clear q o;refine so ?_;go_step;exact k.out _ _ rfl H
  ·intro x wx A f i h j H K a;have C:=(h 7 (by decide)).1;have V:=(h 7 (by decide)).2 19 rfl;replace H:Sp w0 ((Rw (ptrOf (x 7)) m 0)::f) wx:=H;have k:=hid a;clear a i h j;have q:x 7=.pointer (some ⟨ptrOf (x 7),0,none⟩):=C;clear C;obtain⟨S,o⟩:=exq (ptrOf (x 7));rw [o] at q H;rw [q] at V;clear q o;refine so ?_;go_step;exact k.out _ _ rfl H
  ·intro x wx A f i h j H K a;have D:=(h 8 (by decide)).1;have W:=(h 8 (by decide)).2 20 rfl;replace H:Sp w0 ((Rw (ptrOf (x 8)) m 0)::f) wx:=H;have k:Hid (∀(v:Value) (w' : World),(fun _=>True) v->Sp w0 ((Row 4 1 v m.length (cellsBb m))::f) w'->K (A.put (some 21) v) w'):=hid a;clear a i h j;have q:x 8=.pointer (some ⟨ptrOf (x 8),0,none⟩):=D;clear D;obtain⟨S,o⟩:=exq (ptrOf (x 8));rw [o] at q H;rw [q] at W;clear q o;obtain⟨B,d,H,_,J,_,_,_,_,_⟩:=ZU H;refine so ?_;go_step;exact k.out _ _ trivial H.tail
  ·intro x wx A f i h j H K a;have X:=tq h 4;have a7:=(h 9 (by decide)).1;have E:=(h 9 (by decide)).2 21 rfl;replace H:Sp w0 (_::(Row 4 1 (x 9) m.length (cellsBb m))::f) wx:=H;have k:Hid (∀(v:Value) (w' : World),(fun _=>True) v->Sp w0 ((Row 4 1 v (N+m.length) (s++cellsBb m))::f) w'->K (A.put (some 22) v) w'):=hid a;clear a i h j;obtain⟨B,d,e9,hr,_,_⟩:=H.row_rd 1 rfl;rw [e9] at E;refine so ?_;refine Zg _ _ 64 rfl 4 i0 (.bool false) 1 1 Tryz.underlying64 hi F G I rfl (by decide) (.slice U N c) N s (ev X) H B m.length d (cellsBb m) (ev E) (by simp [cellsBb]) hr (Yy _) (by simp only [maxLen]; omega) (by omega) ?_;intro v1 w2 H2 _;exact k.out _ _ trivial (H2.pick 2 [0])
  ·intro x wx A f i h j H K a;have a8:=tq h 0;have k:=hid a;clear a i h j;refine so ?_;go_step;exact k.out _ _ rfl H
  ·intro x wx A f i h j H K a;have a9:=tq h 11;have k:=hid a;clear a i h j;refine so ?_;go_step;exact k.out _ _ rfl H
  ·intro x wx A f i h j H K a;have b0:=tq h 12;have b1:=(h 10 (by decide)).1;have Y:=(h 10 (by decide)).2 22 rfl;replace H:Sp w0 (_::(Row 4 1 (x 10) (N+m.length) (s++cellsBb m))::f) wx:=H;have k:=hid a;clear a i h j;have c:wx.cell? ⟨g,0,none⟩=some (.slice U N c):=H.cell 0 rfl 0;have z:wx.frozen? ⟨g,0,none⟩=false:=H.frozen 0 rfl 0;obtain⟨A1,c1,ea,_,_⟩:=Row.form H 1 rfl;refine so ?_;rw [ea] at Y H;go_step;exact k.out _ _ rfl (Sp.ex (.slice A1 (N+m.length) c1) (Sp.star (H.set 0 (.slice A1 (N+m.length) c1))))
 case hend =>
  intro x wx A hA h H;replace H:Sp w0 (_::L) wx:=H;clear h;simp only [putAll,Act.put,List.setIfInBounds_toArray,List.set_cons_succ,List.set_cons_zero,Nat.reduceAdd] at hA;subst hA;obtain⟨u,H⟩:=H.unex;replace H:=H.unstar;go_wp2;go_ret;refine⟨rfl,ZM (v:=u) ?_⟩;rw [List.length_append,HN.out,t.out,ZZ,O.out];exact H
theorem XX (a b:List Bool):cellsBb (a++b)=cellsBb a++cellsBb b:=List.map_append
theorem Xs (g:Nat) (B:List Bool) (at_:Nat) (last:Bool) (k:Nat) (H:Sp w0 (Rw g B at_::L) w) (hk:k<4) (hB:B.length<=900000) :
  Calls Tryz.prog 89 #[.pointer (some ⟨g,0,none⟩),.bool last,.int .u64 k] w fun e w'=>e=.returned (.tuple #[])/\Sp w0 (Rw g (B++([last]++PBits.bitsOf k 2)) at_::L) w':=by
 obtain⟨C,D,i,j,l⟩:=info_parts infoBb;obtain⟨A,c,r,_,m,_,z0,_⟩:=ZU H;have n:=r.newBk [.bool last] 4;have b:=hid (Rd.of_blk (n.blk 0 rfl));have d:=hid (n.pick 3 [2,1]);clear H r n;go_enter Tryz.func89,Tryz.ntmps89
 go_wp2_with (at_builtin; refine wpList_append_sp rfl _ _ 64 rfl 4 C (.bool false) 1 1 Tryz.underlying64 D i j l rfl (by decide) (.slice A B.length c) B.length (cellsBb B) rfl d.out (some ⟨_,0,none⟩) 1 1 [.bool last] rfl rfl b.out (by intro u s; simp only [List.mem_singleton] at s; subst s; rfl) (by unfold maxLen; omega) (by omega) ?_)
 intro F o f _;clear m z0 b d;obtain⟨p,q,rfl,_,_⟩:=Row.form f 0 rfl;have m:o.cell? ⟨g,0,none⟩=some (.slice A B.length c):=f.cell 1 rfl 0;have z0:o.frozen? ⟨g,0,none⟩=false:=f.frozen 1 rfl 0;have t:Sp w0 (Rw g (B++[last]) at_::L) (o.setCell ⟨g,0,none⟩ (.slice p (B.length+1) q)):=by
  have h:=f.swap.set 0 (.slice p (B.length+1) q);refine ZM (v:=.slice p (B.length+1) q) ?_;rw [List.length_append,XX];exact h
 have a:=hid t;clear f t;go_upto_region 1 with (fail)
 replace a:=a.out;clear m z0;generalize World.setCell _ _ _=w4 at a ⊢;have x:=hid (ZV g (B++[last]) at_ k 2 a (by decide) (by omega) (by rw [List.length_append,List.length_singleton]; omega));clear a;go_wp2_with fail
 refine x.out.mono ?_;rintro _ G ⟨rfl,y⟩;have E:=hid y;clear x y;go_wp2_with fail
 go_end0;have z:=E.out;rw [List.append_assoc] at z;exact⟨rfl,z⟩
theorem pad8 (n:Nat):(8 - n % 8) % 8=PD.pad n:=by unfold PD.pad; omega
theorem WS (g:Nat) (B:List Bool) (at_:Nat) (A:Option Addr) (n c:Nat) (b:List UInt8) (Y:List PM.St) (last:Bool) (H:Sp w0 (Rw g B at_::L) w) (hn:n=b.length) (hb:Ent L fun w=>Byt w (.slice A n c) b) (hn6:n<=65535) (hB:B.length<=800000) :
  Calls Tryz.prog 65 #[.pointer (some ⟨g,0,none⟩),.slice A n c,.bool last] w fun e w'=>e=.returned (.tuple #[])/\Sp w0 (Rw g (B++PD.layD 0 Y b last B.length) at_::L) w':=by
 have d:=hid (Xs g B at_ last 0 H (by decide) (by omega));obtain⟨p,h⟩:=exq (B++([last]++PBits.bitsOf 0 2));have u:p.length=B.length+3:=by rw [<- h,List.length_append,List.length_append,PBits.bitsOf_length]; rfl
 rw [h] at d;have z:=hid hb;have v:=hid hn;have o:B++PD.layD 0 Y b last B.length=p++List.replicate ((8 - p.length % 8) % 8) false++PBits.bitsOf n 16++PBits.bitsOf (65535 - n) 16++PBits.ofB b:=by
  unfold PD.layD PD.bodyD PI.storedW;rw [if_pos rfl,<- h,pad8,h,u,<- h,<- hn];simp only [List.append_assoc]
 have q:=hid o;clear H hb hn h o;go_enter Tryz.func65,Tryz.ntmps65
 go_wp2_with fail
 refine d.out.mono ?_;rintro _ s ⟨rfl,f⟩;clear d;have d:=hid (UB g p at_ f (by omega));obtain⟨r,i⟩:=exq (p++List.replicate ((8 - p.length % 8) % 8) false);have C:r.length % 8=0/\r.length<=B.length+10:=by rw [<- i,List.length_append,List.length_replicate]; omega
 rw [i] at d;have a:=q.out;rw [i] at a;have j:=hid a;clear f i q a;go_wp2_with fail
 refine d.out.mono ?_;rintro _ s ⟨rfl,f⟩;clear d;have d:=hid (ZV g r at_ n 16 f (by decide) (by omega) (by omega));obtain⟨t,k⟩:=exq (r++PBits.bitsOf n 16);have D:t.length=r.length+16:=by rw [<- k,List.length_append,PBits.bitsOf_length]
 rw [k] at d;have a:=j.out;rw [k] at a;have q:=hid a;clear f k a j;go_wp2_with fail
 refine d.out.mono ?_;rintro _ s ⟨rfl,f⟩;clear d;obtain⟨m,x⟩:=exq (65535 - n);have E:(65535:Int) - (n:Int)=(m:Int):=by omega
 have F:m<=65535:=by omega
 have d:=hid (ZV g t at_ m 16 f (by decide) (by omega) (by omega));obtain⟨y,l⟩:=exq (t++PBits.bitsOf m 16);have G:y.length=t.length+16:=by rw [<- l,List.length_append,PBits.bitsOf_length]
 rw [l] at d;have a:=q.out;rw [x,l] at a;have j:=hid a;clear f l a q x;go_wp2_with fail
 refine d.out.mono ?_;rintro _ s ⟨rfl,f⟩;clear d E;have d:=hid (Tu g y at_ A c n b f v.out z.out (by rw [<- v.out]; omega) (by omega) (by omega));clear f;go_wp2_with fail
 refine d.out.mono ?_;rintro _ s ⟨rfl,f⟩;have I:=hid f;clear d f;go_wp2_with fail
 go_end0;rw [j.out];exact⟨rfl,I.out⟩
theorem UE:∀x ∈ PI.fixedD,x<=15:=by decide +kernel
theorem UF:∀x ∈ PI.fixedL,x<=15:=by decide +kernel
theorem UG:PH.sum PI.fixedL<=32768:=by decide +kernel
theorem UH:PH.sum PI.fixedD<=32768:=by decide +kernel
theorem VU (g:Nat) (B:List Bool) (at_:Nat) (V:Option Addr) (n c:Nat) (Y:List PM.St) (b:List UInt8) (last:Bool) (H:Sp w0 (Rw g B at_::L) w)
  (hn:n=Y.length) (hY:Ent L fun w=>StAt w V Y) (hc:n<=1000) (hst:∀s ∈ Y,PD.StOk s) (hok:∀t ∈ PD.words Y,PD.WdOk PI.fixedL PI.fixedD t) (hB:B.length<=700000) :
  Calls Tryz.prog 63 #[.pointer (some ⟨g,0,none⟩),.slice V n c,.bool last] w fun e w'=>e=.returned (.tuple #[])/\Sp w0 (Rw g (B++PD.layD 1 Y b last B.length) at_::L) w':=by
 obtain⟨F,G,r,v,x⟩:=info_parts infoInt;have W:=hid hn;have X:=hid hY;have M:=hid hst;have N:=hid hok;have l:=hid ((H.rowNil 3 1).rowNil 3 1);obtain⟨O,y⟩:=exq (B++([last]++PBits.bitsOf 1 2));have Z:O.length=B.length+3:=by rw [<- y,List.length_append,List.length_append,PBits.bitsOf_length]; rfl
 have z:B++PD.layD 1 Y b last B.length=O++PD.layW PI.fixedL PI.fixedD (PD.words Y):=by
  unfold PD.layD PD.bodyD PD.fixW;rw [if_neg (by decide),if_pos rfl,<- y,PD.lay_words];simp only [List.append_assoc]
 have HF:=hid z;have P:=hid y;clear hn hY hst hok H z y;go_enter Tryz.func63,Tryz.ntmps63
 go_wp2_with fail
 go_loopw [6,8] (fun sv kv wr=>∃k:Nat,kv=.int .i64 k/\k<=288/\Sp w0 (Row 3 1 sv k (cellsN (PI.fixedL.take k))::Row 3 1 (.slice none 0 0) 0 []::Rw g B at_::L) wr) (fun _ kv _=>288 - (intOf kv).toNat)
 case atStart=>exact⟨0,rfl,Nat.zero_le _,l.out⟩
 case round =>
  obtain⟨k,rfl,a0,i⟩:=hrel;clear l;obtain⟨S,T,rfl,_,_⟩:=Row.form i 0 rfl;by_cases A:k<288
  ·have J:(k:Int)<288:=by omega
   by_cases C:144<=k
   ·by_cases m:256<=k
    ·by_cases f:280<=k
     ·have Q:(k:Int)≥144:=by omega
      have U:¬ (k:Int)<256:=by omega
      have R:(k:Int)≥256:=by omega
      have k5:¬ (k:Int)<280:=by omega
      have D:Hid (PI.fixedL.take (k+1)=PI.fixedL.take k++[8]):=hid (Zp A (by rw [ZD A]; simp only [if_pos f]));have h:=i.newBk [.int .i64 8] 3;have a:=hid (Rd.of_blk (h.blk 0 rfl));have d:=hid (h.pick 3 [1,2]);clear i h;go_wp2_with (at_builtin; refine wpList_append_sp rfl _ _ 97 rfl 3 F (.int .i64 0) 1 8 Tryz.underlying97 G r v x rfl (by decide) _ k (cellsN (PI.fixedL.take k)) rfl d.out (some ⟨_,0,none⟩) 1 1 [.int .i64 8] rfl rfl a.out (by intro u o; simp only [List.mem_singleton] at o; subst o; rfl) (by unfold maxLen; omega) (by omega) ?_)
      intro K w4 p _;have l:=hid p;clear d a p;go_wp2_with fail
      go_roundw
      case rel =>
       refine⟨k+1,by go_num,by omega,?_⟩;rw [D.out,Zm];exact l.out
      case measure=>first | (simp [intOf]; omega) | simp [intOf]
     ·have Q:(k:Int)≥144:=by omega
      have U:¬ (k:Int)<256:=by omega
      have R:(k:Int)≥256:=by omega
      have k5:(k:Int)<280:=by omega
      have D:Hid (PI.fixedL.take (k+1)=PI.fixedL.take k++[7]):=hid (Zp A (by rw [ZD A]; simp only [if_neg f,if_pos m]));have h:=i.newBk [.int .i64 7] 3;have a:=hid (Rd.of_blk (h.blk 0 rfl));have d:=hid (h.pick 3 [1,2]);clear i h;go_wp2_with (at_builtin; refine wpList_append_sp rfl _ _ 97 rfl 3 F (.int .i64 0) 1 8 Tryz.underlying97 G r v x rfl (by decide) _ k (cellsN (PI.fixedL.take k)) rfl d.out (some ⟨_,0,none⟩) 1 1 [.int .i64 7] rfl rfl a.out (by intro u o; simp only [List.mem_singleton] at o; subst o; rfl) (by unfold maxLen; omega) (by omega) ?_)
      intro K w4 p _;have l:=hid p;clear d a p;go_wp2_with fail
      go_roundw
      case rel =>
       refine⟨k+1,by go_num,by omega,?_⟩;rw [D.out,Zm];exact l.out
      case measure=>first | (simp [intOf]; omega) | simp [intOf]
    ·have Q:(k:Int)≥144:=by omega
     have U:(k:Int)<256:=by omega
     have R:¬ (k:Int)≥256:=by omega
     have f:¬ 280<=k:=by omega
     have D:Hid (PI.fixedL.take (k+1)=PI.fixedL.take k++[9]):=hid (Zp A (by rw [ZD A]; simp only [if_neg f,if_neg m,if_pos C]));have h:=i.newBk [.int .i64 9] 3;have a:=hid (Rd.of_blk (h.blk 0 rfl));have d:=hid (h.pick 3 [1,2]);clear i h;go_wp2_with (at_builtin; refine wpList_append_sp rfl _ _ 97 rfl 3 F (.int .i64 0) 1 8 Tryz.underlying97 G r v x rfl (by decide) _ k (cellsN (PI.fixedL.take k)) rfl d.out (some ⟨_,0,none⟩) 1 1 [.int .i64 9] rfl rfl a.out (by intro u o; simp only [List.mem_singleton] at o; subst o; rfl) (by unfold maxLen; omega) (by omega) ?_)
     intro K w4 p _;have l:=hid p;clear d a p;go_wp2_with fail
     go_roundw
     case rel =>
      refine⟨k+1,by go_num,by omega,?_⟩;rw [D.out,Zm];exact l.out
     case measure=>first | (simp [intOf]; omega) | simp [intOf]
   ·have Q:¬ (k:Int)≥144:=by omega
    have R:¬ (k:Int)≥256:=by omega
    have f:¬ 280<=k:=by omega
    have m:¬ 256<=k:=by omega
    have D:Hid (PI.fixedL.take (k+1)=PI.fixedL.take k++[8]):=hid (Zp A (by rw [ZD A]; simp only [if_neg f,if_neg m,if_neg C]));have h:=i.newBk [.int .i64 8] 3;have a:=hid (Rd.of_blk (h.blk 0 rfl));have d:=hid (h.pick 3 [1,2]);clear i h;go_wp2_with (at_builtin; refine wpList_append_sp rfl _ _ 97 rfl 3 F (.int .i64 0) 1 8 Tryz.underlying97 G r v x rfl (by decide) _ k (cellsN (PI.fixedL.take k)) rfl d.out (some ⟨_,0,none⟩) 1 1 [.int .i64 8] rfl rfl a.out (by intro u o; simp only [List.mem_singleton] at o; subst o; rfl) (by unfold maxLen; omega) (by omega) ?_)
    intro K w4 p _;have l:=hid p;clear d a p;go_wp2_with fail
    go_roundw
    case rel =>
     refine⟨k+1,by go_num,by omega,?_⟩;rw [D.out,Zm];exact l.out
    case measure=>first | (simp [intOf]; omega) | simp [intOf]
  ·obtain rfl:k=288:=by omega
   rw [List.take_of_length_le (by rw [ZB]; exact Nat.le_refl _)] at i;have J:¬ ((288:Nat):Int)<288:=by omega
   have l:=hid i.swap;clear i;go_wp2_with fail
   clear J;go_loopw [7,10] (fun uv jv wr=>∃j:Nat,jv=.int .i64 j/\j<=32/\Sp w0 (Row 3 1 uv j (cellsN (List.replicate j 5))::Row 3 1 (.slice S 288 T) 288 (cellsN PI.fixedL)::Rw g B at_::L) wr) (fun _ jv _=>32 - (intOf jv).toNat)
   case atStart=>exact⟨0,rfl,Nat.zero_le _,l.out⟩
   case round =>
    obtain⟨j,rfl,a1,i⟩:=hrel;clear l;obtain⟨VB,vb,rfl,_,_⟩:=Row.form i 0 rfl;by_cases hj:j<32
    ·have J:(j:Int)<32:=by omega
     have h:=i.newBk [.int .i64 5] 3;have a:=hid (Rd.of_blk (h.blk 0 rfl));have d:=hid (h.pick 4 [1,2,3]);clear i h;go_wp2_with (at_builtin; refine wpList_append_sp rfl _ _ 97 rfl 3 F (.int .i64 0) 1 8 Tryz.underlying97 G r v x rfl (by decide) _ j (cellsN (List.replicate j 5)) rfl d.out (some ⟨_,0,none⟩) 1 1 [.int .i64 5] rfl rfl a.out (by intro u o; simp only [List.mem_singleton] at o; subst o; rfl) (by unfold maxLen; omega) (by omega) ?_)
     intro K w4 p _;have l:=hid p;clear d a p;go_wp2_with fail
     go_roundw
     case rel =>
      refine⟨j+1,by go_num,by omega,?_⟩;rw [List.replicate_succ',Zm];exact l.out
     case measure=>first | (simp [intOf]; omega) | simp [intOf]
    ·obtain rfl:j=32:=by omega
     have J:¬ ((32:Nat):Int)<32:=by omega
     have E:=hid (Xs g B at_ last 1 (i.pick 3 [2,1,0]) (by decide) (by omega));rw [P.out] at E;clear i;go_wp2_with fail
     refine E.out.mono ?_;rintro _ w1 ⟨rfl,I⟩;clear E;have E:=hid (VQ g O at_ V n c Y S 288 T PI.fixedL VB 32 vb PI.fixedD I W.out (fun _ _ q=>X.out _ _ q.tail2) hc M.out (fun _ _ q=>rowRd q 0 rfl) ZB.symm (by decide) UF UG (fun _ _ q=>rowRd q 1 rfl) rfl (by decide) UE UH N.out (by omega));clear I;go_wp2_with fail
     refine E.out.mono ?_;rintro _ w1 ⟨rfl,I⟩;have l:=hid (I.pick 3 [0]);clear E I;go_wp2_with fail
     go_end0;rw [HF.out];exact⟨rfl,l.out⟩
end Go.Proofs.YteajimobgkempaaGreatDoor

