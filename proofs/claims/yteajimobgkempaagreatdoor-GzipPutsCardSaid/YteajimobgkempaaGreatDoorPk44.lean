/- A pack. -/
import Derived.Test.YteajimobgkempaaGreatDoorPk43
set_option linter.all false
set_option maxRecDepth 100000
set_option maxHeartbeats 8000000
namespace Go.Proofs.YteajimobgkempaaGreatDoor
variable {w0 w:World} {L:List Pr}
open Go.RowKit
def tupB:Value->Nat
 | .tuple a=>ptrOf (a.getD 0 undef)
 | _=>0
def tupS:Value->Value
 | .tuple a=>a.getD 1 undef
 | _=>undef
theorem UN (l:List Bool):PBits.bytesOf (PBits.num l) ((l.length+7) / 8)=PI.packB l:=rfl
theorem WZ {Y:List PM.St} {i:Nat} (h:i<Y.length):PM.size (Y.take (i+1))=PM.size (Y.take i)+PM.made Y[i]:=by
 rw [List.take_succ_eq_append_getElem h,PM.size_append];rfl
theorem Wx (V:Option Addr) (n c:Nat) (Y:List PM.St) (H:Sp w0 L w) (hn:n=Y.length) (hnm:n<=1000000) (hs:∀s ∈ Y,s.1<=1000000) (hY:Ent L fun w=>StAt w V Y) :
  Calls Tryz.prog 51 #[.slice V n c] w fun e w'=>e=.returned (.int .i64 (PM.size Y:Int))/\Sp w0 L w':=by
 obtain⟨T,l⟩:=exq (PM.size Y);rw [l];have r:=hid l;have u:=hid hn;have y:=hid hs;have z:=hid hY;have g:=hid H;clear l hn hs hY H;go_enter Tryz.func51,Tryz.ntmps51
 go_wp2_with fail
 go_loopw [3,4] (fun tv iv wr=>∃(i t:Nat),iv=.int .i64 i/\tv=.int .i64 t/\i<=n/\PM.size (Y.take i)=t/\t<=1000001 * i/\Sp w0 L wr) (fun _ iv _=>n - (intOf iv).toNat)
 case atStart=>exact⟨0,0,rfl,rfl,Nat.zero_le _,rfl,Nat.zero_le _,g.out⟩
 case round =>
  clear g;obtain⟨i,t,rfl,rfl,A,j,B,k⟩:=hrel;have g:=hid k;by_cases m:i<n
  ·have C:(i:Int)<(n:Int):=by omega
   have d:i<Y.length:=by rw [<- u.out]; exact m
   have o:=y.out _ (List.getElem_mem d);have b:=WZ d;obtain⟨J,rfl,D,E,F⟩:=z.out _ _ k i d;obtain⟨x,p⟩:=exq (Y[i].1);have v:PM.made Y[i]=max x 1:=by unfold PM.made; rw [p]
   rw [p] at D o;rw [v,j] at b;clear E F p v j k;by_cases K:x<1
   ·have G:(x:Int)<1:=by omega
    have a:PM.size (Y.take (i+1))=t+1:=by rw [b]; omega
    have f:=hid a;clear b a;go_wp2_with fail
    go_roundw
    case rel=>exact⟨i+1,t+1,by go_num,by go_num,by omega,f.out,by omega,g.out⟩
    case measure=>first | (simp [intOf]; omega) | simp [intOf]
   ·have G:¬ (x:Int)<1:=by omega
    obtain⟨t2,q⟩:=exq (t+x);have M:(t:Int)+(x:Int)=(t2:Int):=by omega
    have a:PM.size (Y.take (i+1))=t2:=by rw [b]; omega
    have f:=hid a;have h:t2<=1000001 * (i+1):=by omega
    have I:t2<=2000000000000:=by omega
    clear b a q;go_wp2_with fail
    go_roundw
    case rel=>exact⟨i+1,t2,by go_num,rfl,by omega,f.out,h,g.out⟩
    case measure=>first | (simp [intOf]; omega) | simp [intOf]
  ·have C:¬ (i:Int)<(n:Int):=by omega
   obtain rfl:n=i:=by omega
   have e:Y.take n=Y:=List.take_of_length_le (by rw [<- u.out]; exact Nat.le_refl _);rw [e,r.out] at j;subst j;clear k r e;go_wp2_with fail
   go_ret;exact⟨rfl,g.out⟩
theorem W0 (V0 BA0:Option Addr) (n0 c0 bn0 bc0:Nat) (Y:List PM.St) (b:List UInt8) (H:Sp w0 L w) (hn:n0=Y.length) (hnm:n0<=1000) (hc:n0<=c0) (hcm:c0<=maxLen) (h:Ent L fun w=>StAt w V0 Y) (hY:PM.mays Y 0)
  (hb:PM.expand Y []=b) (hbn:bn0=b.length) (hbm:bn0<=10000000) (hbc:bn0<=bc0) (hbcm:bc0<=maxLen) (hby:Ent L fun w=>Byt w (.slice BA0 bn0 bc0) b) :
  Calls Tryz.prog 26 #[.slice V0 n0 c0,.slice BA0 bn0 bc0] w (Ret fun v w'=>Sp w0 (Row 5 1 v (PD.stream Y b).length (cells8 (PD.stream Y b))::L) w'):=by
 have HN:=hid hn;have a8:=hid h;have T:=hid hY;have HB:=hid hb;have U:=hid hbn;have a9:=hid hby
 have f1:c0<=9223372036854775807:=hcm;have d5:bc0<=9223372036854775807:=hbcm;have H1:=H.newBk [.slice none 0 0,.int .i64 0] 66;have Q:=hid (ZM (l:=[]) (v:=.slice none 0 0) ((H1.rowNil 4 1).swap));clear hn h hY hb hbn hby hcm hbcm H H1;go_enter Tryz.func26,Tryz.ntmps26
 go_wp2_with fail
 replace Q:=Q.out;generalize World.alloc _ _=w1 at Q ⊢;generalize w.heap.size=gw0 at Q ⊢;replace Q:=hid Q;go_loopw [0,1,5] (fun lv bv wv wr=>∃(i:Nat) (V BA:Option Addr) (n c bn bc gw at_:Nat),lv=.slice V n c/\bv=.slice BA bn bc/\wv=.pointer (some ⟨gw,0,none⟩)/\i<PD.many Y/\n=Y.length - 512 * i/\n<=c/\c<=c0/\(Ent L fun w=>StAt w V (Y.drop (512 * i)))/\bn=b.length - PD.atB Y i/\bn<=bc/\bc<=bc0/\(Ent L fun w=>Byt w (.slice BA bn bc) (b.drop (PD.atB Y i)))/\Sp w0 (Rw gw (PD.stD Y b i) at_::L) wr) (fun lv _ _ _=>lenOfS lv)
 case atStart =>
  refine⟨0,V0,BA0,n0,c0,bn0,bc0,gw0,0,rfl,rfl,rfl,by unfold PD.many; omega,by rw [HN.out]; rfl,hc,Nat.le_refl _,a8.out,?_,hbc,Nat.le_refl _,a9.out,Q.out⟩;show bn0=b.length - 0;rw [U.out]; rfl
 case round =>
  clear Q;obtain⟨i,V,BA,n,c,bn,bc,gw,at_,rfl,rfl,rfl,W,b0,f8,f9,u,R,g0,f2,hby,H2⟩:=hrel;obtain⟨m,hm⟩:=exq (min n 512);obtain⟨PY,g⟩:=exq (PD.partY Y i);obtain⟨PB,N⟩:=exq (PD.partB Y b i);obtain⟨z,hz⟩:=exq (PM.size PY);obtain⟨lb,O⟩:=exq (decide (Y.length<=512 * (i+1)));obtain⟨e,y⟩:=exq (PD.stD Y b i);have d6:PD.many Y<=2:=by unfold PD.many; have:=HN.out; omega
  have b1:e.length<=100000:=by
   have h1:=PD.stD_le Y b T.out i;rw [y] at h1; omega
  have B:m=PY.length:=by rw [<- g,<- hm]; unfold PD.partY; rw [List.length_take,List.length_drop]; omega
  have hend:=PD.atB_le Y (i+1);have b2:b.length=PM.size Y:=by rw [<- HB.out,PM.expand_length,List.length_nil,Nat.zero_add]
  rw [PD.atB_succ,g,hz] at hend;have d7:z<=bn:=by omega
  have k:z=PB.length:=by rw [<- N]; unfold PD.partB; rw [g,hz,List.length_take,List.length_drop]; omega
  have o:=PD.partY_mays Y T.out i;rw [g] at o;have X:=PD.mays_ok PY _ o;have C:Ent L fun w=>StAt w V PY:=fun w0 w h=>by
   rw [<- g]; exact(u w0 w h).take 512
  have j:Ent L fun w=>Byt w (.slice BA PB.length bc) PB:=fun w0 w h=>by
   have D:=(hby w0 w h).take z (by rw [List.length_drop]; omega);rw [<- k,<- N];unfold PD.partB;rw [g,hz];exact D
  have b3:=TV PY PB lb _ o (by omega) (by have:=U.out; rw [<- k]; omega);have E:PD.fixN PY<=100000/\PD.dynN PY<=100000:=by
   have h1:=PD.fixN_le PY _ o;have h2:=PD.dynN_le PY _ o;omega
  have S:PD.stD Y b (i+1)=e++PD.partD PY PB lb e.length:=by rw [PD.stD,g,N,O,y]
  have P:decide (m=n)=lb:=by
   rw [<- O,decide_eq_decide];unfold PD.many at W;omega
  have d8:decide ((m:Int)=(n:Int))=lb:=by rw [<- P,decide_eq_decide]; omega
  have g1:((m:Int) == (n:Int))=lb:=by rw [<- d8]; rfl
  have g3:(m == n)=lb:=by rw [<- P]; rfl
  have b4:∀s ∈ PY,s.1<=1000000:=fun s hs=>by have:=X s hs; unfold PD.StOk at this; omega
  have F:=hid (Wx V m c PY H2 B (by omega) b4 (fun w0 w h=>C w0 w h.tail));rw [hz,y] at F;have y2:(m:Int)<=(c:Int):=by omega
  have y3:(z:Int)<=(bc:Int):=by omega
  have b5:=hid B;have b6:=hid k;have b7:=hid C;have d9:=hid j;have b8:=hid X;have e3:=hid b3;have b9:=hid S;have c1:=hid u;have c3:=hid hby
  have HM:=hid hm;have c4:=hid O;have c5:=hid hz;have c6:=hid g;have c7:=hid E;rw [y] at H2;have Z:=hid H2;clear u hby g N y o X C j b3 S hm hz O H2 B k b4 E;have e4:m<=512/\m<=n:=by have:=HM.out; omega
  have c8:n<=100000/\z<=10000000/\bn<=10000000:=by have:=HN.out; have:=U.out; omega
  obtain⟨c8,g4,f3⟩:=c8;have e5:=hid b0;have c9:=hid R;have g5:=hid b2;have f4:=hid hend;have e6:=hid W;clear b0 R b2 hend W;go_upto_if 13 with (fail)
  go_cut [6] from 10 to 41 (fun s6 wx=>s6=.int .i64 m/\Sp w0 (Rw gw e at_::L) wx)
  case first =>
   by_cases h5:512<n
   ·have y5:(n:Int) > 512:=by omega
    obtain rfl:m=512:=by have:=HM.out; omega
    go_wp2_with fail
    go_meet
    exact⟨rfl,Z.out⟩
   ·have y5:¬ (n:Int) > 512:=by omega
    obtain rfl:m=n:=by have:=HM.out; omega
    go_wp2_with fail
    go_meet
    exact⟨rfl,Z.out⟩
  case rest =>
   obtain⟨rfl,H3⟩:=hcut;clear Z;have F:=hid (Wx V m c PY H3 b5.out (by omega) (fun s hs=>by have:=b8.out s hs; unfold PD.StOk at this; omega) (fun w0 w h=>b7.out w0 w h.tail));rw [c5.out] at F;clear H3;go_wp2_with fail
   refine F.out.mono ?_;rintro _ w2 ⟨rfl,H3⟩;have d0:=hid H3;have E:=c7.out;clear F H3 c7;go_wp2_with fail
   refine Zb (L:=L) [some (.pointer (some ⟨gw,0,none⟩)),some (.slice V n c),some (.int .i64 m),some (.slice V m c),some (.slice BA bn bc),some (.int .i64 z),some (.slice BA z bc),some (.int .i64 m),some (.slice V n c),some (.int .i64 n),some (.bool lb),none,none,none,none,none] (fun ix vx=>match ix with | 11=>(fun vv=>vv=.tuple #[.pointer (some ⟨tupB vv,0,none⟩),tupS vv]) vx | 12=>(fun vv=>vv=.tuple #[.pointer (some ⟨tupB vv,0,none⟩),tupS vv]) vx | 13=>(fun vv=>vv=.pointer (some ⟨ptrOf vv,0,none⟩)) vx | 15=>(fun vv=>vv=.pointer (some ⟨ptrOf vv,0,none⟩)) vx | _=>True) (fun ix vx=>match ix with | 11=>(fun vv=>[Rw (tupB vv) (e++PD.partD PY PB lb e.length) 0]) vx | 12=>(fun vv=>[Rw (tupB vv) (e++PD.partD PY PB lb e.length) 0]) vx | 13=>(fun vv=>[Rw (ptrOf vv) (e++PD.partD PY PB lb e.length) 0]) vx | 15=>(fun vv=>[Rw (ptrOf vv) (e++PD.partD PY PB lb e.length) 0]) vx | _=>[]) (fun ix=>match ix with | 11=>[Rw gw e at_] | _=>[]) 16 44
    [some 19,some 20,some 21,some 22,some 23,some 24,some 25,some 26,some 27,some 28,some 29,some 30,some 18,some 31,some 32,some 5]
    [[],[],[],[1,2],[],[],[4,5],[],[],[8],[7,9],[0,3,6,10],[11],[12],[12],[13,11,0,1,2,3,4,5,6,7,8,9,10,11,12,13]]
    [[],[],[],[1,2],[],[],[4,5],[],[],[8],[7,8,9],[0,1,2,3,4,5,6,7,8,9,10],[0,1,2,3,4,5,6,7,8,9,10,11],[0,1,2,3,4,5,6,7,8,9,10,11,12],[0,1,2,3,4,5,6,7,8,9,10,11,12],[0,1,2,3,4,5,6,7,8,9,10,11,12,13]]
    [[],[],[],[],[],[],[],[],[],[],[],[],[11],[12],[],[13]] [[],[],[],[],[],[],[],[],[],[],[],[],[],[],[],[]] [(0,.slice V n c),(1,.slice BA bn bc),(5,.pointer (some ⟨gw,0,none⟩)),(6,.int .i64 m),(7,.int .i64 z)]
    (by kernel_rfl) rfl (by decide) (by rfl) (by decide +kernel) rfl rfl (by simp) (d0.out) ?hstep ?hend
   case hstep =>
    refine⟨?p0,⟨?p1,⟨?p2,⟨?p3,⟨?p4,⟨?p5,⟨?p6,⟨?p7,⟨?p8,⟨?p9,⟨?p10,⟨?p11,⟨?p12,⟨?p13,⟨?p14,⟨?p15,trivial⟩⟩⟩⟩⟩⟩⟩⟩⟩⟩⟩⟩⟩⟩⟩⟩
    case p0 | p1 | p2 | p3 | p4 | p5 | p6 | p7 | p8 | p9 | p10 =>
     intro x wx A rest a t f p H K q;replace q:=hid q;clear f p a;repeat (obtain⟨_,t⟩:=t)
     refine so ?_;go_step;exact q.out _ _ rfl H
    case p11 =>
     intro x wx A rest a t f p H K d;replace a:=hid a;have g6:=tq f 0;have g7:=tq f 3;have h6:=tq f 6;have h7:=tq f 10;replace H:Sp w0 (_::rest) wx:=H;have q:=hid d;clear d t f;have u:=hid (p _ b7.out);have j:=hid (p _ d9.out);have HZ:=hid H;clear p H a;refine so ?_;go_wp2_with fail
     refine(V7 gw e at_ V m c PY BA z bc PB lb HZ.out b5.out u.out (by omega) b8.out e3.out b6.out (by rw [b6.out]; exact j.out) b1 E.1 E.2).mono ?_;rintro _ w9 ⟨g9,rfl,H9⟩;exact q.out _ _ rfl H9
    case p12 =>
     intro x wx A rest a t f p H K d;replace a:=hid a;have a0:(x 11)=.tuple #[.pointer (some ⟨tupB (x 11),0,none⟩),tupS (x 11)]:=(f 11 (by decide)).1;have h8:=(f 11 (by decide)).2 30 rfl;replace H:Sp w0 ((Rw (tupB (x 11)) (e++PD.partD PY PB lb e.length) 0)::rest) wx:=H;have q:Hid (∀(v:Value) (w' : World),(v=.tuple #[.pointer (some ⟨tupB v,0,none⟩),tupS v])->Sp w0 ((Rw (tupB v) (e++PD.partD PY PB lb e.length) 0)::rest) w'->K (A.put (some 18) v) w'):=hid d;clear d t f p;replace a0:=hid a0;clear a;refine so ?_;go_step;exact q.out _ _ a0.out H
    case p13 =>
     intro x wx A rest a t f p H K d;replace a:=hid a;have G:(x 12)=.tuple #[.pointer (some ⟨tupB (x 12),0,none⟩),tupS (x 12)]:=(f 12 (by decide)).1;have r:=(f 12 (by decide)).2 18 rfl;replace H:Sp w0 ((Rw (tupB (x 12)) (e++PD.partD PY PB lb e.length) 0)::rest) wx:=H;have q:=hid d;clear d t f p;replace r:=r.trans G;clear G a;obtain⟨g8,I⟩:=exq (tupB (x 12));rw [I] at r H;clear I;refine so ?_;go_step;exact q.out _ _ rfl H
    case p14 =>
     intro x wx A rest a t f p H K d;replace a:=hid a;have G:(x 12)=.tuple #[.pointer (some ⟨tupB (x 12),0,none⟩),tupS (x 12)]:=(f 12 (by decide)).1;have r:=(f 12 (by decide)).2 18 rfl;have q:Hid (∀(v:Value) (w' : World),(True)->Sp w0 (rest) w'->K (A.put (some 32) v) w'):=hid d;clear d t f p;replace r:=r.trans G;clear G a;refine so ?_;go_step;exact q.out _ _ trivial H
    case p15 =>
     intro x wx A rest a t f p H K d;replace a:=hid a;have d1:(x 13)=.pointer (some ⟨ptrOf (x 13),0,none⟩):=(f 13 (by decide)).1;have a1:=(f 13 (by decide)).2 31 rfl;replace H:Sp w0 ((Rw (ptrOf (x 13)) (e++PD.partD PY PB lb e.length) 0)::rest) wx:=H;have q:=hid d;clear d t f p;replace a1:=a1.trans d1;clear d1 a;obtain⟨g8,I⟩:=exq (ptrOf (x 13));rw [I] at a1 H;clear I;refine so ?_;go_step;exact q.out _ _ rfl H
   case hend =>
    intro x wx A hA f H;replace H:Sp w0 ((Rw (ptrOf (x 15)) (e++PD.partD PY PB lb e.length) 0)::L) wx:=H;have a2:(x 15)=.pointer (some ⟨ptrOf (x 15),0,none⟩):=f 15 (by decide);clear f;simp only [putAll,Act.put,List.setIfInBounds_toArray,List.set_cons_succ,List.set_cons_zero,Nat.reduceAdd] at hA;subst hA;obtain⟨g2,d2⟩:=exq (ptrOf (x 15));rw [d2] at a2 H;rw [a2];clear a2 d2 d0;have a3:=hid H;clear H;go_upto_region 7 with (fail)
    go_cut [0] from 10 to 41 (fun s0 wx=>s0=.slice (subZ V c m 3) (n - m) (c - m)/\Sp w0 (Rw g2 (e++PD.partD PY PB lb e.length) 0::L) wx)
    case first =>
     have q1:(m:Int)<=(n:Int):=by omega
     by_cases hcm:c=m
     ·subst hcm;go_wp2_with fail
      go_meet
      exact⟨by unfold subZ; rw [if_pos rfl,Nat.sub_self,show n - c=0 by omega],a3.out⟩
     ·have f5:¬ (c:Int)=(m:Int):=by omega
      go_wp2_with fail
      go_meet
      exact⟨by unfold subZ; rw [if_neg hcm],a3.out⟩
    case rest =>
     obtain⟨rfl,H4⟩:=hcut;clear a3;have a4:=hid H4;clear H4;go_upto_region 8 with (fail)
     go_cut [1] from 10 to 41 (fun s1 wx=>s1=.slice (subZ BA bc z 1) (bn - z) (bc - z)/\Sp w0 (Rw g2 (e++PD.partD PY PB lb e.length) 0::L) wx)
     case first =>
      have q2:(z:Int)<=(bn:Int):=by omega
      by_cases j:bc=z
      ·subst j;go_wp2_with fail
       go_meet
       exact⟨by unfold subZ; rw [if_pos rfl,Nat.sub_self,show bn - bc=0 by omega],a4.out⟩
      ·have f6:¬ (bc:Int)=(z:Int):=by omega
       go_wp2_with fail
       go_meet
       exact⟨by unfold subZ; rw [if_neg j,Nat.mul_one],a4.out⟩
     case rest =>
      obtain⟨rfl,H5⟩:=hcut;clear a4;rw [<- b9.out] at H5;have a5:=hid H5;clear H5;obtain⟨VV,a6⟩:=exq (subZ V c m 3);obtain⟨BB,a7⟩:=exq (subZ BA bc z 1);obtain⟨n2,d3⟩:=exq (n - m);obtain⟨c2,d4⟩:=exq (c - m);obtain⟨e7,J⟩:=exq (bn - z);obtain⟨e8,M⟩:=exq (bc - z);rw [a6,d3,d4,a7,J,M];have HV:=hid a6;have e9:=hid a7;clear a6 a7;cases lb with
      | true =>
       have h0:n2=0:=by have:=of_decide_eq_true P; omega
       have h1:i+1=PD.many Y:=by
        have h2:=of_decide_eq_true c4.out;have h3:=e6.out;unfold PD.many at h3 ⊢;omega
       have h5:=PD.stD_le Y b T.out (i+1);have h4:(PD.stD Y b (i+1)).length<=1000000:=by omega
       have e0:PD.stream Y b=PI.packB (PD.stD Y b (i+1)):=by rw [h1]; rfl
       have D:=UA g2 _ 0 a5.out h4;rw [UN,<- PI.packB_len] at D;have HD:=hid D;have f0:=hid e0;subst h0;clear D h5 h4 h1 e0 a5 d3 d4 J M;go_wp2_with fail
       refine HD.out.mono ?_;rintro _ w5 ⟨v5,rfl,H5⟩;clear HD;go_wp2;go_ret;rw [f0.out];exact⟨_,rfl,H5.pick 2 [0]⟩
      | false =>
       have h0:m=512/\512<n:=by have:=of_decide_eq_false P; have:=HM.out; omega
       have h1:¬ (n2:Int)=0:=by omega
       have h2:¬ n2=0:=by omega
       go_wp2_with fail
       go_roundw
       case rel =>
        have i0:=e5.out;have f7:=c9.out;have e1:512 * (i+1)=512 * i+m:=by omega
        have e2:PD.atB Y (i+1)=PD.atB Y i+z:=by rw [PD.atB_succ,c6.out,c5.out]

        refine⟨i+1,VV,BB,n2,c2,e7,e8,g2,0,rfl,rfl,rfl,?_,by omega,by omega,by omega,fun w0 w h=>?_,by omega,by omega,by omega,fun w0 w h=>?_,a5.out⟩
        ·have h3:=of_decide_eq_false c4.out;unfold PD.many; omega
        ·have D:=(c1.out w0 w h).drop c m (by rw [List.length_drop]; omega);rw [List.drop_drop,<- e1,HV.out] at D;exact D
        ·have D:=(c3.out w0 w h).dropZ z d7;rw [List.drop_drop,<- e2,e9.out,J,M] at D;exact D
       case measure=>first | (simp [lenOfS]; omega) | omega | simp [lenOfS]
theorem TD (BA:Option Addr) (n c:Nat) (b:List UInt8) (H:Sp w0 L w) (hn:n=b.length) (hnm:n<=1000) (hc:n<=c) (hcm:c<=maxLen) (hb:Ent L fun w=>Byt w (.slice BA n c) b) :
  Calls Tryz.prog 39 #[.slice BA n c] w fun e w'=>∃v,e=.returned (.tuple #[v,.int .i64 0])/\Sp w0 (Row 5 1 v (PD.defl b).length (cells8 (PD.defl b))::L) w':=by
 have u:=hid hn;have x:=hid hb;have F:¬ (n:Int) > 16777216:=by omega
 have a:=Tr n 64 BA c b H hn hb (by omega);have i:cutL b 64=PM.Cut b 64:=by unfold cutL; rw [if_pos ⟨by decide,by decide⟩]; rfl
 rw [i] at a;have j:cutE 64=0:=rfl;rw [j] at a;have d:=PD.defl_mays b;have f:=PD.defl_exp b;have g:(PM.Cut b 64).length<=b.length:=PM.cut_length b 64 0;unfold PD.defl;obtain⟨Y,q⟩:=exq (PM.Cut b 64);rw [q] at a d f g ⊢;obtain⟨y,k⟩:=exq Y.length;rw [k] at a g;have l:y<=1000:=by omega
 have r:=hid a;have z:=hid d;have A:=hid f;have B:=hid k;clear hn hb a i j d f q k g H;go_enter Tryz.func39,Tryz.ntmps39
 go_wp2_with fail
 refine r.out.mono ?_;rintro _ G ⟨I,rfl,m⟩;obtain⟨V,C,rfl,o,p⟩:=Row.form m 0 rfl;have s:=hid (W0 V BA y C n c Y b m B.out.symm l o p (fun w0 w h=>h.stAt 0 rfl) z.out A.out u.out (by omega) hc hcm (fun w0 w h=>x.out w0 w h.tail));clear r m;go_wp2_with fail
 refine s.out.mono ?_;rintro _ J ⟨D,rfl,t⟩;have E:=t.pick 2 [0];clear s t;go_wp2;go_ret2;exact⟨D,rfl,E⟩
namespace PG
theorem next_short {B:List UInt8} {s:S} {k:Nat} (h:s.short=true):(next B s k).2.short=true:=by
 unfold next; rw [if_pos (.inl h)]
theorem Lies.take {B:List UInt8} {a:Nat} {w:List UInt8} (h:Lies B a w) (n:Nat) (hn:a+w.length<=n):Lies (B.take n) a w:=by
 have b:=h.len;obtain⟨r,h,c⟩:=h;refine⟨r.take (n - a - w.length),?_,by rw [List.length_take]; omega⟩;rw [List.drop_take,h,List.take_append];rw [List.take_of_length_le (l:=w) (by omega)]
end PG
namespace PG
def tailW (b:List UInt8):List UInt8:=low (PCrc.of b) 4++low b.length 4
def put (h:Hd) (b:List UInt8):List UInt8:=lay h++(PD.defl b++tailW b)
def ends (B out:List UInt8):Nat:=if B.length<8 then 4 else if num (B.take 4)≠PCrc.of out∨num ((B.drop 4).take 4)≠out.length % 4294967296 then 21 else 0
def get (B:List UInt8) (most:Nat):Except Nat (Hd × List UInt8 × Nat) :=
 match head B with
 | .error e=>.error e
 | .ok r=>match PI.all (PBits.ofB (B.drop r.2)) most with
  | .error e=>.error e
  | .ok a=>if ends (B.drop (r.2+(a.1+7) / 8)) a.2.1≠0 then .error (ends (B.drop (r.2+(a.1+7) / 8)) a.2.1) else .ok (r.1,a.2.1,r.2+(a.1+7) / 8+8)
end PG
end Go.Proofs.YteajimobgkempaaGreatDoor

