/- A pack. -/
import Derived.Test.YteajimobgkempaaGreatDoorPk20
set_option linter.all false
set_option maxRecDepth 100000
set_option maxHeartbeats 8000000
namespace Go.Proofs.YteajimobgkempaaGreatDoor
variable {w0 w:World} {L:List Pr}
open Go.RowKit
namespace PD
def longT:List (Nat × Nat):=PI.lengthsT++[(258,0)]
theorem longT_find (x:Nat) (h:3<=x) (h2:x<=258):PI.findT longT x 28=(PI.longS x).1/\longT.getD (PI.findT longT x 28) (0,0)=(if x=258 then 258 else (PI.lengthsT.getD (PI.longS x).1 (0,0)).1,(PI.longS x).2.1)/\x - (longT.getD (PI.findT longT x 28) (0,0)).1=(PI.longS x).2.2/\(longT.getD (PI.findT longT x 28) (0,0)).1<=x:=by
 have a:longT.getD 28 (0,0)=(258,0):=rfl;unfold PI.longS;by_cases e:x=258
 ·subst e;have b:PI.findT longT 258 28=28:=by rw [PI.findT,a,if_pos (by decide)]
  rw [if_pos rfl,b,a];exact⟨rfl,rfl,rfl,by decide⟩
 ·have c:∀k,k<=27->PI.findT longT x k=PI.findT PI.lengthsT x k:=by
   intro k;induction k with
   | zero=>intro _; rfl
   | succ k ih =>
    intro c;rw [PI.findT,PI.findT,ih (by omega)];have:longT.getD (k+1) (0,0)=PI.lengthsT.getD (k+1) (0,0):=by
     unfold longT;rw [List.getD_eq_getElem?_getD,List.getD_eq_getElem?_getD,List.getElem?_append_left (by show k+1<28; omega)]
    rw [this]
  have b:PI.findT longT x 28=PI.findT PI.lengthsT x 27:=by
   rw [PI.findT,a,if_neg (by show ¬ 258<=x; omega),c 27 (by omega)]
  have d:=PI.findT_spec PI.lengthsT x 27 h;have f:longT.getD (PI.findT PI.lengthsT x 27) (0,0)=PI.lengthsT.getD (PI.findT PI.lengthsT x 27) (0,0):=by
   unfold longT;rw [List.getD_eq_getElem?_getD,List.getD_eq_getElem?_getD,List.getElem?_append_left (by show _<28; omega)]
  rw [if_neg e,b,f,if_neg e];exact⟨rfl,rfl,rfl,d.2.1⟩
def longI (x:Int):Nat × Nat × Nat:=if 3<=x/\x<=258 then (257+(PI.longS x.toNat).1,(PI.longS x.toNat).2.1,(PI.longS x.toNat).2.2) else (0,0,0)
def farI (x:Int):Nat × Nat × Nat:=if 1<=x/\x<=32768 then ((PI.farS x.toNat).1,(PI.farS x.toNat).2.1,(PI.farS x.toNat).2.2) else (0,0,0)
end PD
structure DTabs (TL TF:Option Addr) (cl cf:Nat) (w:World):Prop where
 long:w.cell? ⟨0,0,none⟩=some (.slice TL 29 cl)
 longs:Rd w TL (cellsP PD.longT)
 far:w.cell? ⟨1,0,none⟩=some (.slice TF 30 cf)
 fars:Rd w TF (cellsP PI.awayT)
 order:∀i,i<19->w.cell? ⟨2,i,none⟩=some (.int .i64 (PI.orderT.getD i 0:Nat))
theorem DTabs.heap {TL TF:Option Addr} {cl cf:Nat} {W w:World} (h:DTabs TL TF cl cf W) (hs:∀b,b<W.heap.size->w.heap[b]?=W.heap[b]?):DTabs TL TF cl cf w:=by
 have a:∀(p:Addr) u,W.cell? p=some u->w.cell? p=some u:=fun p u hp=>by
  rw [<- hp]; exact World.cell?_of_block (hs p.block (Zr hp))
 exact⟨a _ _ h.long,h.longs.keep fun p u _ hp=>(a p u hp).trans hp.symm,a _ _ h.far,h.fars.keep fun p u _ hp=>(a p u hp).trans hp.symm,fun i hi=>a _ _ (h.order i hi)⟩
theorem WM {t:List (Nat × Nat)} {x k:Nat} (h:(t.getD k (0,0)).1<=x):PI.findT t x k=k:=by
 cases k with
 | zero=>rfl
 | succ k=>unfold PI.findT; rw [if_pos h]
theorem WN {t:List (Nat × Nat)} {x k:Nat} (h:¬ (t.getD (k+1) (0,0)).1<=x):PI.findT t x (k+1)=PI.findT t x k:=by
 rw [PI.findT,if_neg h]
theorem Wo (TA:Option Addr) (n c:Nat) (t:List (Nat × Nat)) (x:Nat) (H:Sp w0 L w) (hT:Ent L fun w=>Rd w TA (cellsP t)) (hn:n=t.length) (h0:0<n) (hns:n<=1000) (hx0:(t.getD 0 (0,0)).1<=x) (hxs:x<=1000000) :
  Calls Tryz.prog 30 #[.slice TA n c,.int .i64 x] w fun e w'=>e=.returned (.tuple #[.int .i64 (PI.findT t x (n - 1):Int),.agg #[.int .i64 ((t.getD (PI.findT t x (n - 1)) (0,0)).1:Int),.int .i64 ((t.getD (PI.findT t x (n - 1)) (0,0)).2:Int)]])/\Sp w0 L w':=by
 obtain⟨T,l⟩:=exq (PI.findT t x (n - 1));rw [l];have R:=hid hT;have o:=hid l;have W:=hid hn;have G:=hid hx0;have S:=H.newBk [.int .i64 0,.int .i64 0] 68;obtain⟨m,rfl⟩:∃m,n=m+1:=⟨n - 1,by omega⟩;have y0:((m+1:Nat):Int) - 1=(m:Int):=by omega
 rw [Nat.add_sub_cancel] at o;clear hT hn hx0 H l;go_enter Tryz.func30,Tryz.ntmps30
 go_wp2_with fail
 have q:=hid S;clear S;generalize w.heap.size=g at q ⊢;go_loopw [6] (fun kv wr=>∃k:Nat,kv=.int .i64 k/\k<=m/\PI.findT t x k=T/\Sp w0 (Bk g 68 [.int .i64 0,.int .i64 0]::L) wr) (fun kv _=>(intOf kv).toNat)
 case atStart=>exact⟨m,rfl,Nat.le_refl _,o.out,q.out⟩
 case round =>
  obtain⟨k,rfl,hk,B,E⟩:=hrel;clear q o;have F:=hid B;have C:k<t.length:=by have:=W.out; omega
  obtain⟨y,rfl,p0,p1⟩:=rdP (R.out _ _ E.tail) C;obtain⟨⟨f,b⟩,I⟩:∃p,t.getD k (0,0)=p:=⟨_,rfl⟩;rw [I] at p0 p1;simp only at p0 p1;have D:=hid I;have k1:(k:Int)<((m+1:Nat):Int):=by omega
  have k3:(k:Int)<(m:Int)+1:=by omega
  have a:Ent L fun w=>w.cell? (y.add (k * 2))=some (.int .i64 f)/\w.cell? ⟨(y.add (k * 2)).block,(y.add (k * 2)).off+1,none⟩=some (.int .i64 b):=fun w0 w H=>by
   obtain⟨X,e,h0,U⟩:=rdP (R.out _ _ H) C;injection e with e
   rw [D.out] at h0 U;rw [e]; exact⟨h0,U⟩
  have Y:=hid a;clear B I a;by_cases r:f<=x
  ·have Z:¬ (f:Int) > (x:Int):=by omega
   have J:Hid (k=T):=by
    rw [<- F.out]; exact hid (WM (by rw [D.out]; exact r)).symm
   have M:=hid E;clear F E;go_wp2_with fail
   refine Zb (L:=L) [some (.int .i64 k),some (.slice (some y) (m+1) c),some (.int .i64 k),some (.pointer (some (y.add (k * 2)))),some (.agg #[.int .i64 f,.int .i64 b]),some (.int .i64 k),some (undef)] (fun _ _=>True) (fun ix vx=>match ix with | 6=>(fun _=>[Bk g 68 [.int .i64 f,.int .i64 b]]) vx | _=>[]) (fun ix=>match ix with | 6=>[Bk g 68 [.int .i64 0,.int .i64 0]] | _=>[]) 7 24
    [some 19,some 20,some 21,some 22,some 23,some 4,none]
    [[],[],[],[1,2],[3],[0,0],[4,5,0,1,2,3,4,5]]
    [[],[],[],[1,2],[1,2,3],[0],[0,1,2,3,4,5]]
    [[],[],[],[],[],[],[]] [[],[],[],[],[],[],[]] [(0,.slice (some y) (m+1) c),(5,.pointer (some ⟨g,0,none⟩)),(6,.int .i64 k)]
    (by kernel_rfl) rfl (by decide) (by rfl) (by decide +kernel) rfl rfl (by simp) (M.out) ?hstep ?hend
   case hstep =>
    refine⟨?p0,⟨?p1,⟨?p2,⟨?p3,⟨?p4,⟨?p5,⟨?p6,trivial⟩⟩⟩⟩⟩⟩⟩
    case p0 | p1 | p2 | p3 | p5 =>
     intro x wx A d h s j z H K u;replace u:=hid u;clear j z h;repeat (obtain⟨_,s⟩:=s)
     refine so ?_;go_step;exact u.out _ _ rfl H
    case p4 =>
     intro x wx A d h s j z H K i;have a0:=tq j 3;have u:=hid i;clear i s j h;have N:=z _ Y.out _ _ H;have c0:=N.1;have c1:=N.2;clear N z;refine so ?_;go_step;exact u.out _ _ rfl H
    case p6 =>
     intro x wx A d h s j z H K i;have e5:A.tmps[5]?.getD undef=.pointer (some ⟨g,0,none⟩):=Za s (5,_) (by simp) (by rfl);have a1:=tq j 4;replace H:Sp w0 (_::d) wx:=H;have u:=hid i;clear i s j z h;have O:=H.cell 0 rfl 0;have P:=H.cell 0 rfl 1;have z0:=H.frozen 0 rfl 0;have z1:=H.frozen 0 rfl 1;refine so ?_;go_step;exact u.out _ _ rfl ((H.set 0 (.int .i64 f)).set 1 (.int .i64 b))
   case hend =>
    intro x wx A V j H;replace H:Sp w0 (_::L) wx:=H;have y5:x 5=.int .i64 k:=j 5 (by decide);clear j;simp only [putAll,Act.put,List.setIfInBounds_toArray,List.set_cons_succ,List.set_cons_zero,Nat.reduceAdd] at V;subst V;have Q:=hid H;clear H;have O:=Q.out.cell 0 rfl 0;have P:=Q.out.cell 0 rfl 1;simp only [List.getElem?_cons_zero,List.getElem?_cons_succ] at O P;go_wp2;rw [<- J.out,D.out];refine bodyPost_ret (v:=.tuple #[.int .i64 k,.agg #[.int .i64 f,.int .i64 b]]) (by simp [results,go_sem,O,P,y5]) rfl ⟨rfl,Q.out.tail⟩
  ·have Z:(f:Int) > (x:Int):=by omega
   cases k with
   | zero =>
    have:=G.out;rw [D.out] at this;exact absurd this r
   | succ k =>
    have J:Hid (PI.findT t x k=T):=by
     rw [<- F.out]; exact hid (WN (by rw [D.out]; exact r)).symm
    clear F;go_wp2_with fail
    go_roundw
    case rel=>exact⟨k,by go_num,by omega,J.out,E⟩
    case measure=>first | (simp [intOf]; omega) | simp [intOf]
theorem VC:PD.longT.length=29:=rfl
theorem VE:PI.awayT.length=30:=rfl
theorem Ut (x:Int) {TL TF:Option Addr} {cl cf:Nat} (H:Sp w0 L w) (hT:Ent L (DTabs TL TF cl cf)) :
  Calls Tryz.prog 11 #[.int .i64 x] w fun e w'=>e=.returned (.tuple #[.int .i64 ((PD.longI x).1:Int),.int .i64 ((PD.longI x).2.1:Int),.int .i64 ((PD.longI x).2.2:Int)])/\Sp w0 L w':=by
 by_cases B:3<=x
 ·by_cases C:x<=258
  ·obtain⟨n,rfl⟩:∃n:Nat,x=(n:Int):=⟨x.toNat,by omega⟩;have e:PD.longI (n:Int)=(257+(PI.longS n).1,(PI.longS n).2.1,(PI.longS n).2.2):=by
    unfold PD.longI; rw [if_pos ⟨B,C⟩]; rfl
   obtain⟨l,i,m,j⟩:=PD.longT_find n (by omega) (by omega);have o:=Wo TL 29 cl PD.longT n H (fun w0 w H=>(hT w0 w H).longs) VC.symm (by decide) (by decide) (by show 3<=n; omega) (by omega);obtain⟨⟨a,b⟩,c⟩:∃p,PD.longT.getD (PI.findT PD.longT n 28) (0,0)=p:=⟨_,rfl⟩;obtain⟨k,g⟩:=exq (PI.findT PD.longT n 28);rw [e,<- l,<- m];rw [c] at i;rw [show(PI.longS n).2.1=b from(congrArg Prod.snd i).symm];rw [c] at j ⊢;have f : Calls Tryz.prog 30 #[.slice TL 29 cl,.int .i64 n] w fun e w'=>e=.returned (.tuple #[.int .i64 k,.agg #[.int .i64 a,.int .i64 b]])/\Sp w0 L w':=by
    have h:=o;rw [show(29:Nat) - 1=28 from rfl,c,g] at h;exact h
   rw [g];simp only at j ⊢;have D:=(hT _ _ H).long;have r:k<=28:=by rw [<- g]; exact(PI.findT_spec PD.longT n 28 (by show 3<=n; omega)).1
   obtain⟨s,t⟩:=exq (257+k);obtain⟨q,u⟩:=exq (n - a);have J:257+(k:Int)=(s:Int):=by omega
   have K:(n:Int) - (a:Int)=(q:Int):=by omega
   rw [t,u];have y:=hid f;have z:¬ (n:Int)<3:=by omega
   have E:¬ (n:Int) > 258:=by omega
   clear o f l i m e c g hT j t u;go_enter Tryz.func11,Tryz.ntmps11
   go_wp2_with fail
   refine y.out.mono ?_;rintro _ M ⟨rfl,F⟩;have A:=F.newBk [.int .i64 a,.int .i64 b] 68;have d:=hid A;have G:=d.out.cell 0 rfl 0;have I:=d.out.cell 0 rfl 1;simp only [List.getElem?_cons_zero,List.getElem?_cons_succ] at G I;clear y D A;go_wp2_with fail
   go_quiet (fail)
   go_wp2;exact bodyPost_ret (v:=.tuple #[.int .i64 s,.int .i64 b,.int .i64 q]) (by simp [results,go_sem]) rfl ⟨rfl,(d.out.drewN _).tail⟩
  ·have e:PD.longI x=(0,0,0):=by unfold PD.longI; rw [if_neg (by omega)]
   rw [e];have z:¬ x<3:=by omega
   have E:x > 258:=by omega
   go_enter Tryz.func11,Tryz.ntmps11
   go_wp2;exact bodyPost_ret (v:=.tuple #[.int .i64 0,.int .i64 0,.int .i64 0]) (by simp [results,go_sem]) rfl ⟨rfl,H⟩
 ·have e:PD.longI x=(0,0,0):=by unfold PD.longI; rw [if_neg (by omega)]
  rw [e];have z:x<3:=by omega
  go_enter Tryz.func11,Tryz.ntmps11
  go_wp2;exact bodyPost_ret (v:=.tuple #[.int .i64 0,.int .i64 0,.int .i64 0]) (by simp [results,go_sem]) rfl ⟨rfl,H⟩
theorem Tl (x:Int) {TL TF:Option Addr} {cl cf:Nat} (H:Sp w0 L w) (hT:Ent L (DTabs TL TF cl cf)) :
  Calls Tryz.prog 13 #[.int .i64 x] w fun e w'=>e=.returned (.tuple #[.int .i64 ((PD.farI x).1:Int),.int .i64 ((PD.farI x).2.1:Int),.int .i64 ((PD.farI x).2.2:Int)])/\Sp w0 L w':=by
 by_cases r:1<=x
 ·by_cases s:x<=32768
  ·obtain⟨n,rfl⟩:∃n:Nat,x=(n:Int):=⟨x.toNat,by omega⟩;have e:PD.farI (n:Int)=((PI.farS n).1,(PI.farS n).2.1,(PI.farS n).2.2):=by
    unfold PD.farI; rw [if_pos ⟨r,s⟩]; rfl
   have d:=PI.findT_spec PI.awayT n 29 (by show 1<=n; omega);have f:=Wo TF 30 cf PI.awayT n H (fun w0 w H=>(hT w0 w H).fars) VE.symm (by decide) (by decide) (by show 1<=n; omega) (by omega);rw [e];unfold PI.farS;rw [show(30:Nat) - 1=29 from rfl] at f;obtain⟨k,h⟩:=exq (PI.findT PI.awayT n 29);rw [h] at f d ⊢;obtain⟨⟨a,b⟩,g⟩:∃p,PI.awayT.getD k (0,0)=p:=⟨_,rfl⟩;rw [g] at f d ⊢;simp only at d ⊢;have t:=d.2.1;have i:=d.1;obtain⟨q,j⟩:=exq (n - a);have C:(n:Int) - (a:Int)=(q:Int):=by omega
   rw [j];have u:=(hT _ _ H).far;have l:=hid f;have m:¬ (n:Int)<1:=by omega
   have y:¬ (n:Int) > 32768:=by omega
   clear f e g h hT t j d;go_enter Tryz.func13,Tryz.ntmps13
   go_wp2_with fail
   refine l.out.mono ?_;rintro _ D ⟨rfl,z⟩;have o:=z.newBk [.int .i64 a,.int .i64 b] 68;have c:=hid o;have A:=c.out.cell 0 rfl 0;have B:=c.out.cell 0 rfl 1;simp only [List.getElem?_cons_zero,List.getElem?_cons_succ] at A B;clear l u o;go_wp2_with fail
   go_quiet (fail)
   go_wp2;exact bodyPost_ret (v:=.tuple #[.int .i64 k,.int .i64 b,.int .i64 q]) (by simp [results,go_sem]) rfl ⟨rfl,(c.out.drewN _).tail⟩
  ·have e:PD.farI x=(0,0,0):=by unfold PD.farI; rw [if_neg (by omega)]
   rw [e];have m:¬ x<1:=by omega
   have y:x > 32768:=by omega
   go_enter Tryz.func13,Tryz.ntmps13
   go_wp2;exact bodyPost_ret (v:=.tuple #[.int .i64 0,.int .i64 0,.int .i64 0]) (by simp [results,go_sem]) rfl ⟨rfl,H⟩
 ·have e:PD.farI x=(0,0,0):=by unfold PD.farI; rw [if_neg (by omega)]
  rw [e];have m:x<1:=by omega
  go_enter Tryz.func13,Tryz.ntmps13
  go_wp2;exact bodyPost_ret (v:=.tuple #[.int .i64 0,.int .i64 0,.int .i64 0]) (by simp [results,go_sem]) rfl ⟨rfl,H⟩
namespace PD
theorem long_low:∀n:Nat,n<11->3<=n->longI (n:Int)=(254+n,0,0):=by decide +kernel
theorem findT_eq (t:List (Nat × Nat)) (n j:Nat):∀k,j<=k->(t.getD j (0,0)).1<=n->(∀i,j<i->i<=k->n<(t.getD i (0,0)).1)->PI.findT t n k=j:=by
 intro k;induction k with
 | zero=>intro h _ _; unfold PI.findT; omega
 | succ k ih =>
  intro h a b;unfold PI.findT;by_cases e:j=k+1
  ·subst e; rw [if_pos a]
  ·rw [if_neg (by have:=b (k+1) (by omega) (Nat.le_refl _); omega)];exact ih (by omega) a fun i hi hk=>b i hi (by omega)
theorem long_t1:∀b:Nat,b<6->∀k:Nat,k<4->1<=b->PI.lengthsT.getD (8+4 * (b - 1)+k) (0,0)=(3+2 ^ (b+2)+k * 2 ^ b,b):=by decide +kernel
theorem long_t2:∀b:Nat,b<6->∀k:Nat,k<4->1<=b->8+4 * (b - 1)+k<27->(PI.lengthsT.getD (8+4 * (b - 1)+k+1) (0,0)).1=3+2 ^ (b+2)+k * 2 ^ b+2 ^ b:=by decide +kernel
theorem long_mono:∀i:Nat,i<28->∀j:Nat,j<28->j<=i->(PI.lengthsT.getD j (0,0)).1<=(PI.lengthsT.getD i (0,0)).1:=by decide +kernel
theorem long_at (b:Nat) (hb:b<6) (k:Nat) (hk:k<4) (n:Nat) (hn:n<258) (h0:1<=b) (h1:3+2 ^ (b+2)+k * 2 ^ b<=n) (h2:n<3+2 ^ (b+2)+k * 2 ^ b+2 ^ b):longI (n:Int)=(265+4 * (b - 1)+k,b,n - (3+2 ^ (b+2)+k * 2 ^ b)):=by
 have a:=long_t1 b hb k hk h0;have e:PI.findT PI.lengthsT n 27=8+4 * (b - 1)+k:=by
  refine findT_eq _ _ _ 27 (by omega) (by rw [a]; exact h1) fun i hi hk2=>?_;have c:=long_t2 b hb k hk h0 (by omega);have d:=long_mono i (by omega) (8+4 * (b - 1)+k+1) (by omega) (by omega);omega
 have f:3<=n:=by
  clear h2 e a
  revert h1
  generalize 2 ^ (b+2)=p;generalize k * 2 ^ b=q;omega
 unfold longI;rw [if_pos (by omega)];unfold PI.longS;rw [show((n:Int)).toNat=n from rfl,if_neg (by omega),e,a];simp only;rw [show 257+(8+4 * (b - 1)+k)=265+4 * (b - 1)+k by omega]
theorem far_low:∀n:Nat,n<5->1<=n->farI (n:Int)=(n - 1,0,0):=by decide +kernel
theorem far_t1:∀b:Nat,b<14->∀k:Nat,k<2->1<=b->PI.awayT.getD (4+2 * (b - 1)+k) (0,0)=(1+2 ^ (b+1)+k * 2 ^ b,b):=by decide +kernel
theorem far_t2:∀b:Nat,b<14->∀k:Nat,k<2->1<=b->4+2 * (b - 1)+k<29->(PI.awayT.getD (4+2 * (b - 1)+k+1) (0,0)).1=1+2 ^ (b+1)+k * 2 ^ b+2 ^ b:=by decide +kernel
theorem far_mono:∀i:Nat,i<30->∀j:Nat,j<30->j<=i->(PI.awayT.getD j (0,0)).1<=(PI.awayT.getD i (0,0)).1:=by decide +kernel
theorem far_at (b k n:Nat) (hb:b<14) (hk:k<2) (h0:1<=b) (hn:n<=32768) (h1:1+2 ^ (b+1)+k * 2 ^ b<=n) (h2:n<1+2 ^ (b+1)+k * 2 ^ b+2 ^ b):farI (n:Int)=(4+2 * (b - 1)+k,b,n - (1+2 ^ (b+1)+k * 2 ^ b)):=by
 have a:=far_t1 b hb k hk h0;have e:PI.findT PI.awayT n 29=4+2 * (b - 1)+k:=by
  refine findT_eq _ _ _ 29 (by omega) (by rw [a]; exact h1) fun i hi hk2=>?_;have c:=far_t2 b hb k hk h0 (by omega);have d:=far_mono i (by omega) (4+2 * (b - 1)+k+1) (by omega) (by omega);omega
 unfold farI;rw [if_pos (by omega)];unfold PI.farS;rw [show((n:Int)).toNat=n from rfl,e,a]
end PD
theorem Wp (x:Int) (H:Sp w0 L w) :
  Calls Tryz.prog 12 #[.int .i64 x] w fun e w'=>e=.returned (.tuple #[.int .i64 ((PD.longI x).1:Int),.int .i64 ((PD.longI x).2.1:Int),.int .i64 ((PD.longI x).2.2:Int)])/\Sp w0 L w':=by
 obtain⟨y,D⟩:=exq (PD.longI x);rw [D];have d:=hid D;have a:=hid H;clear D H;by_cases T:x<3
 ·have e:y=(0,0,0):=by rw [<- d.out]; unfold PD.longI; rw [if_neg (by omega)]
  subst e;clear d;go_enter Tryz.func12,Tryz.ntmps12
  go_wp2_with fail
  go_ret3
  exact⟨rfl,a.out⟩
 by_cases E:258<x
 ·have e:y=(0,0,0):=by rw [<- d.out]; unfold PD.longI; rw [if_neg (by omega)]
  subst e;have U:x > 258:=E;clear d;go_enter Tryz.func12,Tryz.ntmps12
  go_wp2_with fail
  go_ret3
  exact⟨rfl,a.out⟩
 obtain⟨n,rfl⟩:∃n:Nat,x=(n:Int):=⟨x.toNat,by omega⟩;have k1:¬ (n:Int)<3:=T;have U:¬ (n:Int) > 258:=E;by_cases V:n=258
 ·have e:y=(285,0,0):=by rw [<- d.out,V]; decide +kernel
  subst e;have X:(n:Int)=258:=by omega
  clear d;go_enter Tryz.func12,Tryz.ntmps12
  go_wp2_with fail
  go_ret3
  exact⟨rfl,a.out⟩
 have X:¬ (n:Int)=258:=by omega
 by_cases h4:n<=10
 ·obtain⟨q,Y⟩:=exq (254+n);have e:y=(q,0,0):=by rw [<- d.out,<- Y]; exact PD.long_low n (by omega) (by omega)
  subst e;have Z:(n:Int)<=10:=by omega
  have k5:(254:Int)+(n:Int)=(q:Int):=by omega
  have k6:q<=300:=by omega
  clear d Y;go_enter Tryz.func12,Tryz.ntmps12
  go_wp2_with fail
  go_ret3
  exact⟨rfl,a.out⟩
 have Z:¬ (n:Int)<=10:=by omega
 have hn:n<258:=by omega
 have r:11<=n:=by omega
 clear T E V h4;go_enter Tryz.func12,Tryz.ntmps12
 go_wp2_with fail
 clear k1 U X Z;go_loopw [5,6,7] (fun sv fv bv wr=>∃(b F s:Nat),sv=.int .i64 s/\fv=.int .i64 F/\bv=.int .i64 b/\1<=b/\b<=6/\s=261+4 * b/\F=3+2 ^ (b+2)/\F<=n/\Sp w0 L wr) (fun _ _ bv _=>7 - (intOf bv).toNat)
 case atStart=>exact⟨1,11,265,rfl,rfl,rfl,Nat.le_refl _,by decide,rfl,rfl,r,a.out⟩
 case round =>
  clear a;obtain⟨b,F,s,rfl,rfl,rfl,G,a2,hs,I,J,g⟩:=hrel;have K:b<=5:=by
   refine Decidable.byContradiction fun q=>?_;obtain rfl:b=6:=by omega
   have e:(2:Nat) ^ (6+2)=256:=rfl;rw [e] at I;omega
  have M:=hid I;have N:=hid hs;have a:=hid g;have a3:s<=300:=by omega
  have yb:(b:Int)<=5:=by omega
  clear I hs g;go_wp2_with fail
  go_loopw [8,9] (fun uv iv wr=>∃(i W:Nat),uv=.int .i64 W/\iv=.int .i64 i/\i<=b/\W=2 ^ i/\Sp w0 L wr) (fun _ iv _=>b - (intOf iv).toNat)
  case atStart=>exact⟨0,1,rfl,rfl,Nat.zero_le _,rfl,a.out⟩
  case round =>
   clear a;obtain⟨i,W,rfl,rfl,a4,t,g⟩:=hrel;have a:=hid g;clear g;by_cases u:i<b
   ·have yi:(i:Int)<(b:Int):=by omega
    obtain⟨C,v⟩:=exq (W * 2);have j:C=2 ^ (i+1):=by rw [<- v,t,Nat.pow_succ]
    have yw:(W:Int) * 2=(C:Int):=by omega
    have O:C<=32:=by rw [j]; exact Nat.pow_le_pow_right (by decide) (show i+1<=5 by omega)
    have p:=hid j;clear v j t;go_wp2_with fail
    go_roundw
    case rel=>exact⟨i+1,C,rfl,by go_num,by omega,p.out,a.out⟩
    case measure=>first | (simp [intOf]; omega) | simp [intOf]
   ·obtain rfl:b=i:=by omega
    have yi:¬ (b:Int)<(b:Int):=by omega
    have p:=hid t;have O:W<=32:=by rw [t]; exact Nat.pow_le_pow_right (by decide) K
    clear t;go_wp2_with fail
    clear yi;go_loopw [5,6,10] (fun sv fv kv wr=>∃(k F2 s2:Nat),sv=.int .i64 s2/\fv=.int .i64 F2/\kv=.int .i64 k/\k<=4/\s2=s+k/\F2=F+k * W/\F2<=n/\Sp w0 L wr) (fun _ _ kv _=>4 - (intOf kv).toNat)
    case atStart=>exact⟨0,F,s,rfl,rfl,rfl,Nat.zero_le _,rfl,by omega,J,a.out⟩
    case round =>
     clear a;obtain⟨k,F2,s2,rfl,rfl,rfl,a5,P,z,A,g⟩:=hrel;have a:=hid g;have f:=hid z;clear g z;have a0:s2<=400:=by omega
     by_cases c:k<4
     ·have yk:(k:Int)<4:=by omega
      obtain⟨l,o⟩:=exq (F2+W);have y3:(F2:Int)+(W:Int)=(l:Int):=by omega
      have a1:l<=400:=by omega
      by_cases hc:n<l
      ·have yc:(n:Int)<(l:Int):=by omega
       obtain⟨m,hm⟩:=exq (n - F2);have ym:(n:Int) - (F2:Int)=(m:Int):=by omega
       have a6:m<=300:=by omega
       have e:y=(s2,b,m):=by
        rw [<- d.out];have e1:F2=3+2 ^ (b+2)+k * 2 ^ b:=by rw [f.out,M.out,p.out]
        have h9:=PD.long_at b (by omega) k c n hn G (by omega) (by rw [<- e1,<- p.out]; omega);rw [h9,<- e1,hm,show 265+4 * (b - 1)+k=s2 by have:=N.out; omega]
       subst e;clear d M f p N hm o u c P;go_wp2_with fail
       go_ret3
       exact⟨rfl,a.out⟩
      ·have yc:¬ (n:Int)<(l:Int):=by omega
       have h:l=F+(k+1) * W:=by rw [<- o,f.out,Nat.add_mul,Nat.one_mul,Nat.add_assoc]
       have Q:=hid h;clear h o;go_wp2_with fail
       go_roundw
       case rel=>exact⟨k+1,l,s2+1,by go_num,rfl,by go_num,by omega,by omega,Q.out,by omega,a.out⟩
       case measure=>first | (simp [intOf]; omega) | simp [intOf]
     ·obtain rfl:k=4:=by omega
      have yk:¬ ((4:Nat):Int)<4:=by omega
      have B:F2=3+2 ^ (b+1+2):=by
       rw [f.out,M.out,p.out,Nat.pow_succ,Nat.pow_succ,Nat.pow_succ,Nat.pow_succ,Nat.pow_succ];omega
      have R:=hid B;have S:s2=261+4 * (b+1):=by have:=N.out; omega
      clear B u c;go_wp2_with fail
      go_roundw
      case rel=>exact⟨b+1,F2,s2,rfl,rfl,by go_num,by omega,by omega,S,R.out,A,a.out⟩
      case measure=>first | (simp [intOf]; omega) | simp [intOf]
theorem VG (x:Int) (H:Sp w0 L w) :
  Calls Tryz.prog 14 #[.int .i64 x] w fun e w'=>e=.returned (.tuple #[.int .i64 ((PD.farI x).1:Int),.int .i64 ((PD.farI x).2.1:Int),.int .i64 ((PD.farI x).2.2:Int)])/\Sp w0 L w':=by
 obtain⟨y,z⟩:=exq (PD.farI x);rw [z];have f:=hid z;have a:=hid H;clear z H;by_cases R:x<1
 ·have e:y=(0,0,0):=by rw [<- f.out]; unfold PD.farI; rw [if_neg (by omega)]
  subst e;clear f;go_enter Tryz.func14,Tryz.ntmps14
  go_wp2_with fail
  go_ret3
  exact⟨rfl,a.out⟩
 by_cases A:32768<x
 ·have e:y=(0,0,0):=by rw [<- f.out]; unfold PD.farI; rw [if_neg (by omega)]
  subst e;have S:x > 32768:=A;clear f;go_enter Tryz.func14,Tryz.ntmps14
  go_wp2_with fail
  go_ret3
  exact⟨rfl,a.out⟩
 obtain⟨n,rfl⟩:∃n:Nat,x=(n:Int):=⟨x.toNat,by omega⟩;have k1:¬ (n:Int)<1:=R;have S:¬ (n:Int) > 32768:=A;by_cases h4:n<=4
 ·obtain⟨q,T⟩:=exq (n - 1);have e:y=(q,0,0):=by rw [<- f.out,<- T]; exact PD.far_low n (by omega) (by omega)
  subst e;have U:(n:Int)<=4:=by omega
  have k5:(n:Int) - 1=(q:Int):=by omega
  have k6:q<=300:=by omega
  clear f T;go_enter Tryz.func14,Tryz.ntmps14
  go_wp2_with fail
  go_ret3
  exact⟨rfl,a.out⟩
 have U:¬ (n:Int)<=4:=by omega
 have hn:n<=32768:=by omega
 have B:5<=n:=by omega
 clear R A h4;go_enter Tryz.func14,Tryz.ntmps14
 go_wp2_with fail
 clear k1 S U;go_loopw [5,6,7,8] (fun sv fv wv bv wr=>∃(b F s W:Nat),sv=.int .i64 s/\fv=.int .i64 F/\wv=.int .i64 W/\bv=.int .i64 b/\1<=b/\b<=14/\s=2+2 * b/\F=1+2 ^ (b+1)/\W=2 ^ b/\F<=n/\Sp w0 L wr) (fun _ _ _ bv _=>15 - (intOf bv).toNat)
 case atStart=>exact⟨1,5,4,2,rfl,rfl,rfl,rfl,Nat.le_refl _,by decide,rfl,rfl,rfl,B,a.out⟩
 case round =>
  clear a;obtain⟨b,F,s,W,rfl,rfl,rfl,rfl,C,a1,V,D,E,G,j⟩:=hrel;have I:b<=13:=by
   refine Decidable.byContradiction fun q=>?_;obtain rfl:b=14:=by omega
   have e:(2:Nat) ^ (14+1)=32768:=rfl;rw [e] at D;omega
  have a2:W<=8192:=by rw [E]; exact Nat.pow_le_pow_right (by decide) I
  have J:=hid D;have K:=hid V;have l:=hid E;have a:=hid j;have a3:s<=300:=by omega
  have yb:(b:Int)<=13:=by omega
  clear D V E j;go_wp2_with fail
  go_loopw [5,6,9] (fun sv fv kv wr=>∃(k F2 s2:Nat),sv=.int .i64 s2/\fv=.int .i64 F2/\kv=.int .i64 k/\k<=2/\s2=s+k/\F2=F+k * W/\F2<=n/\Sp w0 L wr) (fun _ _ kv _=>2 - (intOf kv).toNat)
  case atStart=>exact⟨0,F,s,rfl,rfl,rfl,Nat.zero_le _,rfl,by omega,G,a.out⟩
  case round =>
   clear a;obtain⟨k,F2,s2,rfl,rfl,rfl,a4,M,o,p,j⟩:=hrel;have a:=hid j;have d:=hid o;clear j o;have X:s2<=400:=by omega
   by_cases c:k<2
   ·have yk:(k:Int)<2:=by omega
    obtain⟨h,i⟩:=exq (F2+W);have y3:(F2:Int)+(W:Int)=(h:Int):=by omega
    have Y:h<=50000:=by omega
    by_cases hc:n<h
    ·have yc:(n:Int)<(h:Int):=by omega
     obtain⟨m,Z⟩:=exq (n - F2);have ym:(n:Int) - (F2:Int)=(m:Int):=by omega
     have a5:m<=50000:=by omega
     have e:y=(s2,b,m):=by
      rw [<- f.out];have e1:F2=1+2 ^ (b+1)+k * 2 ^ b:=by rw [d.out,J.out,l.out]
      have h9:=PD.far_at b k n (by omega) c C hn (by omega) (by rw [<- e1,<- l.out]; omega);rw [h9,<- e1,Z,show 4+2 * (b - 1)+k=s2 by have:=K.out; omega]
     subst e;clear f J d l K Z i c M;go_wp2_with fail
     go_ret3
     exact⟨rfl,a.out⟩
    ·have yc:¬ (n:Int)<(h:Int):=by omega
     have g:h=F+(k+1) * W:=by rw [<- i,d.out,Nat.add_mul,Nat.one_mul,Nat.add_assoc]
     have N:=hid g;clear g i;go_wp2_with fail
     go_roundw
     case rel=>exact⟨k+1,h,s2+1,by go_num,rfl,by go_num,by omega,by omega,N.out,by omega,a.out⟩
     case measure=>first | (simp [intOf]; omega) | simp [intOf]
   ·obtain rfl:k=2:=by omega
    have yk:¬ ((2:Nat):Int)<2:=by omega
    have r:F2=1+2 ^ (b+1+1):=by
     rw [d.out,J.out,l.out,Nat.pow_succ,Nat.pow_succ];omega
    have O:=hid r;have P:s2=2+2 * (b+1):=by have:=K.out; omega
    obtain⟨v,t⟩:=exq (W * 2);have u:v=2 ^ (b+1):=by rw [<- t,l.out,Nat.pow_succ]
    have yw:(W:Int) * 2=(v:Int):=by omega
    have Q:=hid u;have a0:v<=20000:=by omega
    clear r c t u;go_wp2_with fail
    go_roundw
    case rel=>exact⟨b+1,F2,s2,v,rfl,rfl,rfl,by go_num,by omega,by omega,P,O.out,Q.out,p,a.out⟩
    case measure=>first | (simp [intOf]; omega) | simp [intOf]
namespace PD
abbrev Wd:=Nat × Nat × Nat × Nat
def wd (s:PM.St):List Wd:=if s.1=0 then [(0,s.2.2.toNat,0,0)] else [(0,257+(PI.longS s.1).1,(PI.longS s.1).2.1,(PI.longS s.1).2.2),(1,(PI.farS s.2.1).1,(PI.farS s.2.1).2.1,(PI.farS s.2.1).2.2)]
def wds (Y:List PM.St):List Wd:=Y.flatMap wd
def words (Y:List PM.St):List Wd:=wds Y++[(0,256,0,0)]
def signsOf (b:Nat) (l:List Wd):List Nat:=(l.filter fun t=>t.1 == b).map fun t=>t.2.1
def wW (A B:List Nat) (t:Wd):List Bool:=PI.sayW (if t.1=0 then A else B) t.2.1 t.2.2.2 t.2.2.1
def layW (A B:List Nat) (l:List Wd):List Bool:=l.flatMap (wW A B)
def costW (A B:List Nat) (l:List Wd):Nat:=(l.map fun t=>(if t.1=0 then A else B).getD t.2.1 0+t.2.2.1).sum
theorem wW_len (A B:List Nat) (t:Wd):(wW A B t).length=(if t.1=0 then A else B).getD t.2.1 0+t.2.2.1:=by
 unfold wW PI.sayW;rw [List.length_append,PI.codeW_len,PBits.bitsOf_length]
theorem layW_len (A B:List Nat) (l:List Wd):(layW A B l).length=costW A B l:=by
 unfold layW costW;rw [List.length_flatMap];congr 1;exact List.map_congr_left fun t _=>wW_len A B t
theorem wds_cons (s:PM.St) (l:List PM.St):wds (s::l)=wd s++wds l:=rfl
theorem signsOf_app (b:Nat) (u v:List Wd):signsOf b (u++v)=signsOf b u++signsOf b v:=by unfold signsOf; rw [List.filter_append,List.map_append]
theorem signs0 (Y:List PM.St):signsOf 0 (words Y)=PI.symsOf (toks Y):=by
 unfold words;induction Y with
 | nil=>rfl
 | cons s l ih =>
  rw [wds_cons,List.append_assoc,signsOf_app,ih];show _=PI.symsOf (tokOf s::toks l);unfold wd tokOf;split <;> rfl
theorem signs1 (Y:List PM.St):signsOf 1 (words Y)=PI.farsOf (toks Y):=by
 unfold words;induction Y with
 | nil=>rfl
 | cons s l ih =>
  rw [wds_cons,List.append_assoc,signsOf_app,ih];show _=PI.farsOf (tokOf s::toks l);unfold wd tokOf;split <;> rfl
theorem sayW_plain (m:List Nat) (s:Nat):PI.sayW m s 0 0=PI.codeW m s:=by
 unfold PI.sayW;show _++[]=_;rw [List.append_nil]
theorem layW_app (A B:List Nat) (u v:List Wd):layW A B (u++v)=layW A B u++layW A B v:=by unfold layW; rw [List.flatMap_append]
theorem lay_words (A B:List Nat) (Y:List PM.St):layW A B (words Y)=PI.toksW A B (toks Y):=by
 unfold words PI.toksW;induction Y with
 | nil =>
  show wW A B (0,256,0,0)++[]=[]++PI.codeW A 256;rw [List.append_nil,List.nil_append];exact sayW_plain A 256
 | cons s l ih =>
  rw [wds_cons,List.append_assoc,layW_app,ih];show _=(tokOf s::toks l).flatMap _++_;rw [List.flatMap_cons,List.append_assoc];congr 1;unfold wd tokOf;split
  ·show wW A B (0,s.2.2.toNat,0,0)++[]=PI.codeW A s.2.2.toNat;rw [List.append_nil];exact sayW_plain A _
  ·show wW A B _++(wW A B _++[])=_;rw [List.append_nil];rfl
def rwd (t:Nat × Nat):Wd:=(0,t.1,PI.tellB t.1,t.2)
theorem lay_row (F:List Nat) (l:List (Nat × Nat)):layW F [] (l.map rwd)=PI.tellsW F l:=by
 unfold layW PI.tellsW;rw [List.flatMap_map];rfl
theorem signs_row (l:List (Nat × Nat)):signsOf 0 (l.map rwd)=l.map Prod.fst:=by
 induction l with
 | nil=>rfl
 | cons t l ih =>
  show signsOf 0 ([rwd t]++l.map rwd)=[t.1]++l.map Prod.fst;rw [signsOf_app,ih]; rfl
theorem words_len (Y:List PM.St):(words Y).length<=2 * Y.length+1:=by
 unfold words;rw [List.length_append];have:(wds Y).length<=2 * Y.length:=by
  induction Y with
  | nil=>exact Nat.le_refl _
  | cons s l ih =>
   rw [wds_cons,List.length_append,List.length_cons];have:(wd s).length<=2:=by unfold wd; split <;> simp
   omega
 simp; omega
def WdOk (A B:List Nat) (t:Wd):Prop:=t.1<2/\PI.Has (if t.1=0 then A else B) t.2.1/\t.2.2.2<2 ^ t.2.2.1/\t.2.2.1<=13
theorem words_ok {A B:List Nat} {Y:List PM.St} {n:Nat} (hY:PM.mays Y n) (hA:∀s ∈ PI.symsOf (toks Y),s<286->PI.Has A s) (hB:∀s ∈ PI.farsOf (toks Y),s<30->PI.Has B s):∀t ∈ words Y,WdOk A B t:=by
 have c:∀(Y:List PM.St) (n:Nat),PM.mays Y n->∀t ∈ wds Y,t.1<2/\t.2.2.2<2 ^ t.2.2.1/\t.2.2.1<=13/\(t.1=0->t.2.1<286)/\(t.1=1->t.2.1<30):=by
  intro Y;induction Y with
  | nil=>intro n _ t a; cases a
  | cons s l ih =>
   intro n h t a;rw [wds_cons] at a;rcases List.mem_append.1 a with a | a
   ·unfold wd at a;split at a
    ·rw [List.mem_singleton.1 a];have:=s.2.2.toNat_lt;exact⟨by show 0<2; decide,by show 0<2 ^ 0; decide,by show 0<=13; decide,fun _=>by show s.2.2.toNat<286; omega,fun h=>by cases h⟩
    ·rename_i hne
     rcases h.1 with h1 | h1
     ·exact absurd h1.1 hne
     ·obtain⟨u,g,v⟩:=PI.longS_lt s.1 h1.1 h1.2.1;obtain⟨w,i,j⟩:=PI.farS_lt s.2.1 h1.2.2.1 h1.2.2.2.1;simp only [List.mem_cons,List.not_mem_nil,or_false] at a;rcases a with rfl | rfl
      ·exact⟨by show 0<2; decide,g,by show(PI.longS s.1).2.1<=13; omega,fun _=>by show 257+(PI.longS s.1).1<286; omega,fun h=>by cases h⟩
      ·exact⟨by show 1<2; decide,i,j,fun h=>absurd (show(1:Nat)=0 from h) (by decide),fun _=>by show(PI.farS s.2.1).1<30; omega⟩
   ·exact ih _ h.2 t a
 intro t a;have d:∀b,t.1=b->t.2.1 ∈ signsOf b (words Y):=fun b hb=>by
  unfold signsOf;exact List.mem_map.2 ⟨t,List.mem_filter.2 ⟨a,by simp [hb]⟩,rfl⟩
 have k:t.1<2/\t.2.2.2<2 ^ t.2.2.1/\t.2.2.1<=13/\(t.1=0->t.2.1<286)/\(t.1=1->t.2.1<30):=by
  unfold words at a;rcases List.mem_append.1 a with h | h
  ·exact c Y n hY t h
  ·rw [List.mem_singleton.1 h];exact⟨by show 0<2; decide,by show 0<2 ^ 0; decide,by show 0<=13; decide,fun _=>by show 256<286; decide,fun h=>by cases h⟩
 obtain⟨m,o,p,q,r⟩:=k;refine⟨m,?_,o,p⟩;by_cases e:t.1=0
 ·rw [if_pos e];have:=d 0 e;rw [signs0] at this;exact hA _ this (q e)
 ·have f:t.1=1:=by omega
  rw [if_neg e];have:=d 1 f;rw [signs1] at this;exact hB _ this (r f)
end PD
end Go.Proofs.YteajimobgkempaaGreatDoor

