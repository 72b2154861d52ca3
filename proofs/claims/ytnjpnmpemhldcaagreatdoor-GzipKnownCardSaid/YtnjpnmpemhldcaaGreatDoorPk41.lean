/- A pack. -/
import Derived.Test.YtnjpnmpemhldcaaGreatDoorPk40
set_option linter.all false
set_option maxRecDepth 100000
set_option maxHeartbeats 8000000
namespace Go.Proofs.YtnjpnmpemhldcaaGreatDoor
variable {w0 w:World} {L:List Pr}
open Go.RowKit
def RI (g n:Nat) (c:Value) (bp:Nat):Pr:=Ex fun cur:Array Value=>Ex fun(_:cur.size=n/\bp<=n/\cur.toList.take bp=List.replicate bp c)=>Is g (.cells cur 3 (0,0))
theorem RI.rd {g n bp:Nat} {c:Value} (H:Sp w0 (RI g n c bp::L) w):Rd w (some ⟨g,0,none⟩) ((List.replicate bp c)):=by
 obtain⟨a,H⟩:=H.unex;obtain⟨⟨h,i,b⟩,H⟩:=H.unex;have d:=H.is_ 0 rfl;refine fun _=>⟨_,rfl,fun j u hu=>?_⟩;have e:(Addr.add ⟨g,0,none⟩ j)=⟨g,j,none⟩:=by
  unfold Addr.add; split
  ·rename_i h0; subst h0; rfl
  ·simp
 rw [e];have f:j<bp:=by
  have:=(List.getElem?_eq_some_iff.1 hu).1;simpa using this
 rw [<- b,List.getElem?_take_of_lt f] at hu;simp [World.cell?,d];simpa using hu
theorem RI.row {g n:Nat} {c:Value} (H:Sp w0 (RI g n c n::L) w) (hn:n<=maxLen):Sp w0 (Row 3 1 (.slice (some ⟨g,0,none⟩) n n) n (List.replicate n c)::L) w:=by
 obtain⟨a,H⟩:=H.unex;obtain⟨⟨b,e,d⟩,H⟩:=H.unex;exact H.imp fun p hp=>⟨by simp,.inr ⟨g,n,a,rfl,hp,Nat.le_refl _,hn,by rw [b,Nat.mul_one],by rw [Nat.mul_one,d]⟩⟩
theorem RI.of_row {ad:Addr} {n:Nat} {c z:Value} (H:Sp w0 (Row 3 1 (.slice (some ad) n n) n (List.replicate n z)::L) w):∃g,ad=⟨g,0,none⟩/\Sp w0 (RI g n c 0::L) w:=by
 have h:=H.owns 0 rfl;rcases h.2 with ⟨hv,_⟩ | ⟨g,cap,cur,hv,hb,hh,h1,h2,h3,h4⟩
 ·cases hv
 ·injection hv with e1 e2 e3
  injection e1 with e1
  subst e1 e3;refine⟨g,rfl,H.imp fun p hp=>?_⟩;rcases hp.2 with ⟨hv,_⟩ | ⟨g',cap',cur',hv,hb',h1',h2',h3',h4'⟩
  ·cases hv
  ·injection hv with e1 e2 e3
   injection e1 with e1
   injection e1 with e1
   subst e1 e3;exact⟨cur',⟨by rw [h3',Nat.mul_one],Nat.zero_le _,rfl⟩,hb'⟩
theorem RI.copy {g n bp k:Nat} {c:Value} (H:Sp w0 (RI g n c bp::L) w) (a:Addr) (sLen sCap dCap:Nat) (ty:TypeId) (hk:k=min sLen (n - bp)) (hc1:c.oneCell'=true)
  (hsrc:∀j u,((List.replicate k c))[j]?=some u->w.cell? (a.add j)=some u) :
  ∃w',(Builtin.copy_ #[141,141] ty #[.slice (some ⟨g,bp,none⟩) (n - bp) dCap,.slice (some a) sLen sCap]).run Tryz.prog w=.ok (.int .i64 k) w'/\Sp w0 (RI g n c (bp+k)::L) w':=by
 obtain⟨p,e,l,f,m⟩:=info_parts infoJ;obtain⟨b,H⟩:=H.unex;obtain⟨⟨q,r,o⟩,H⟩:=H.unex;have h:=H.is_ 0 rfl;have d:((List.replicate k c)).length=k:=by simp
 have i:=run_copy_row (P:=Tryz.prog) w 141 141 ty 3 g bp (n - bp) dCap a sLen sCap b 3 ((List.replicate k c)) Tryz.underlying141 (by rw [e]; simp [f]) h (by rw [d]; exact hk) hsrc (by rw [d]; omega) (fun u hu=>by rw [(List.mem_replicate.1 hu).2]; exact hc1);rw [d] at i;refine⟨_,i,?_⟩;rw [ZZ w g b _ _ _ h];refine Sp.ex _ (Sp.ex ⟨?_,?_,?_⟩ (H.put _))
 ·simp [d]; omega
 ·omega
 ·show List.take (bp+k) (b.toList.take bp++(List.replicate k c)++b.toList.drop (bp+k))=_;have s:(b.toList.take bp++(List.replicate k c)).length=bp+k:=by
   rw [List.length_append,d,List.length_take];simp only [Array.length_toList];omega
  rw [List.take_append_of_le_length (by omega),List.take_of_length_le (by omega),o,<- List.replicate_append_replicate]
theorem repeatI_ok (A:Option Addr) (ca:Nat) (c:Value) (n:Nat) (H:Sp w0 L w) (hb:Ent L (fun w=>Rd w A [c])) (hc1:c.oneCell'=true) (hn1:1<=n) (hn:n<=4096) :
  Calls Tryz.prog 163 #[.slice A 1 ca,.int .i64 n] w fun e w'=>∃g,e=.returned (.slice (some ⟨g,0,none⟩) n n)/\Sp w0 (Row 3 1 (.slice (some ⟨g,0,none⟩) n n) n (List.replicate n c)::L) w':=by
 obtain⟨R,o,p,r,s⟩:=info_parts infoJ;obtain⟨ad,rfl⟩:∃ad,A=some ad:=by
  obtain⟨ad,e,_⟩:=(hb _ _ H) (by simp);exact⟨ad,e⟩
 have S:=hid hb;have k3:¬ (n:Int)<0:=by omega
 have k2:¬ (9223372036854775807:Int)<(n:Int):=by omega
 clear hb;go_enter Tryz.func163,Tryz.ntmps163
 go_wp2_with fail
 refine(Wv n (by omega) _).mono ?_;rintro _ _ ⟨rfl,rfl⟩;go_wp2_with (at_make; refine Zk rfl _ _ _ rfl 3 R (.int .i64 0) Tryz.underlying141 o p r rfl n rfl rfl (by rw [s]; omega) (by unfold maxLen; omega) H ?_)
 intro a1 T G;obtain⟨g,rfl,t⟩:=RI.of_row (c:=c) G;have a:∀j u,(List.replicate 1 c)[j]?=some u->T.cell? (ad.add j)=some u:=by
  obtain⟨v,f,y⟩:=(S.out _ _ t.tail) (by simp);injection f with f
  rw [f];exact y
 obtain⟨w2,h,I⟩:=RI.copy t ad 1 ca n 3 (k:=1) (by omega) hc1 a;rw [Nat.sub_zero] at h;rw [Nat.zero_add] at I;clear G t a;go_wp2_with (at_builtin; refine Lib.wpList_copy_run _ rfl _ _ 141 141 rfl _ _ rfl rfl h ?_)
 clear h;go_wp2_with fail
 go_loopw [8] (fun bv wr=>∃bp:Nat,bv=.int .i64 bp/\1<=bp/\bp<=n/\Sp w0 (RI g n c bp::L) wr) (fun bv _=>n - (intOf bv).toNat)
 case atStart=>exact⟨1,rfl,Nat.le_refl _,hn1,I⟩
 case round =>
  obtain⟨bp,rfl,U,V,J⟩:=hrel;by_cases W:bp<n
  ·have X:(bp:Int)<(n:Int):=by omega
   obtain⟨k,M⟩:∃k,k=min bp (n - bp):=⟨_,rfl⟩;obtain⟨q,N⟩:=exq (bp+k);have y0:(bp:Int)+(k:Int)=(q:Int):=by omega
   have y1:¬ n=bp:=by omega
   have y2:bp<=n:=by omega
   have y3:¬ bp=0:=by omega
   have Y:q<=n:=by omega
   have O:=hid M;have z:=hid N;have Z:1<=k:=by omega
   clear M N;go_wp2_with fail
   refine Zb (L:=L) [some (.int .i64 bp),some (.slice (some ⟨g,0,none⟩) n n),some (.int .i64 bp),some (.slice (some ⟨g,bp,none⟩) (n - bp) (n - bp)),some (.slice (some ⟨g,0,none⟩) n n),some (.int .i64 bp),some (.slice (some ⟨g,0,none⟩) bp n),some (.int .i64 k),some (.int .i64 q),some (.int .i64 q)] (fun _ _=>True) (fun ix vx=>match ix with | 7=>(fun _=>[RI g n c (bp+k)]) vx | _=>[]) (fun ix=>match ix with | 7=>[RI g n c bp] | _=>[]) 10 48
    [some 38,some 39,some 40,some 41,some 42,some 43,some 44,some 45,some 46,some 8]
    [[],[],[],[1,2],[],[],[4,5],[3,6],[0,7],[8,7,0,1,2,3,4,5,6,7,8]]
    [[],[],[],[1,2],[],[],[4,5],[1,2,3,4,5,6],[0,1,2,3,4,5,6,7],[0,1,2,3,4,5,6,7,8]]
    [[],[],[],[],[],[],[],[],[],[]] [[],[],[],[],[],[],[],[],[],[]] [(7,.slice (some ⟨g,0,none⟩) n n),(8,.int .i64 bp)]
    (by kernel_rfl) rfl (by decide) (by rfl) (by decide +kernel) rfl rfl (by simp) (J) ?hstep ?hend
   case hstep =>
    refine⟨?p0,⟨?p1,⟨?p2,⟨?p3,⟨?p4,⟨?p5,⟨?p6,⟨?p7,⟨?p8,⟨?p9,trivial⟩⟩⟩⟩⟩⟩⟩⟩⟩⟩
    case p0 | p1 | p2 | p3 | p4 | p5 | p6 | p8 | p9 =>
     intro x wx A b i m d B H K hK;replace hK:=hid hK;clear d B i;repeat (obtain⟨_,m⟩:=m)
     refine so ?_;go_step;exact hK.out _ _ rfl H
    case p7 =>
     intro x wx A b i m d B H K l;have C:=tq d 3;have D:=tq d 6;replace H:Sp w0 (_::b) wx:=H;have hK:=hid l;clear l m d B i;have E:=RI.rd H;have a:∀j u,(List.replicate k c)[j]?=some u->wx.cell? ((⟨g,0,none⟩:Addr).add j)=some u:=fun j u hu=>by
      obtain⟨v,f,y⟩:=E (by intro h0; have:=congrArg List.length h0; simp at this; omega);injection f with f
      subst f;refine y j u ?_;have hj:j<k:=by
       have:=(List.getElem?_eq_some_iff.1 hu).1;simpa using this
      have:=O.out;simp only [List.getElem?_replicate] at hu ⊢;rw [if_pos hj] at hu;rw [if_pos (by omega)];exact hu
     obtain⟨w9,F,H9⟩:=RI.copy H ⟨g,0,none⟩ bp n (n - bp) 3 O.out hc1 a;refine so ?_;exact Lib.wp_copy_run wx _ _ 141 141 rfl _ _ (ev C) (ev D) F (hK.out _ _ rfl H9)
   case hend =>
    intro x wx A P d H;replace H:Sp w0 (_::L) wx:=H;have Q:x 9=.int .i64 q:=d 9 (by decide);clear d;simp only [putAll,Act.put,List.setIfInBounds_toArray,List.set_cons_succ,List.set_cons_zero,Nat.reduceAdd] at P;subst P;rw [Q];clear Q;go_wp2;go_roundw
    case rel=>exact⟨q,rfl,by have:=z.out; omega,Y,by rw [<- z.out]; exact H⟩
    case measure =>
     have:=z.out;first | (simp [intOf]; omega) | simp [intOf]
  ·have X:¬ (bp:Int)<(n:Int):=by omega
   obtain rfl:bp=n:=by omega
   go_wp2_with fail
   go_ret;exact⟨g,rfl,RI.row J (by unfold maxLen; omega)⟩
theorem infoI:(Tryz.prog.info? 3).map (fun i=>(i.zero,i.size,i.bytes))=some (some (.int .i64 0),1,8):=by kernel_rfl
theorem UF (n:Nat) (H:Sp w0 L w) (hn:n<=1000000000) :
  Calls Tryz.prog 177 #[.slice none 0 0,.int .i64 n] w fun e w'=>∃v,e=.returned v/\Sp w0 (Row 3 1 v 0 []::L) w':=by
 obtain⟨h,i,a,b,d⟩:=info_parts infoI;by_cases j:0<n
 ·have k:(0:Int)<(n:Int):=by omega
  go_enter Tryz.func177,Tryz.ntmps177
  go_wp2_with (at_builtin; refine ZF rfl _ _ 141 3 rfl 3 h (.int .i64 0) 1 8 Tryz.underlying141 Tryz.underlying3 i a b d rfl (by decide) n rfl rfl j hn (by decide) H ?_)
  intro g c m o p l;have f:=l.rowCut 0 (Nat.zero_le _);rw [Nat.zero_mul,List.take_zero] at f;have q:(0:Int)<=(c:Int):=by omega
  go_wp2_with fail
  go_ret;exact⟨_,rfl,f⟩
 ·have k:¬ (0:Int)<(n:Int):=by omega
  obtain rfl:n=0:=by omega
  go_enter Tryz.func177,Tryz.ntmps177
  go_wp2_with fail
  go_ret;exact⟨_,rfl,H.rowNil _ _⟩
theorem concat_okI (ad:Addr) (k c:Nat) (qs:List Part) (H:Sp w0 L w) (hk:qs.length=k) (hb:Ent L (fun w=>Rd w (some ad) (qs.map Part.val))) (hq:∀q ∈ qs,q.Ok L 1) (hs:Part.sum qs<=1000000) (hkm:k<=1000000) :
  Calls Tryz.prog 162 #[.slice (some ad) k c] w fun e w'=>∃v,e=.returned v/\Sp w0 (Row 3 1 v (Part.sum qs) (Part.cat qs)::L) w':=by
 obtain⟨i0,E,F,G,I⟩:=info_parts infoI;obtain⟨N,B⟩:=exq (Part.sum qs);have p:∀i,Part.sum (qs.take i)<=N:=fun i=>by rw [<- B]; exact Part.sum_take qs i
 have T:=hid hk;have HB:=hid hb;have HQ:=hid hq;have U:=hid B;have f:=hid p;have a0:N<=1000000:=by omega
 rw [B];have g:∀i,i<k->∃q,qs[i]?=some q/\q.Ok L 1/\qs.take (i+1)=qs.take i++[q]/\∀w',Sp w0 L w'->w'.cell? (ad.add i)=some (.slice q.A q.n q.c):=fun i E=>by
  have b:i<qs.length:=by rw [hk]; exact E
  refine⟨qs[i],List.getElem?_eq_getElem b,hq _ (List.getElem_mem b),List.take_succ_eq_append_getElem b,fun w' H'=>?_⟩;obtain⟨a1,e,t⟩:=hb _ _ H' (by intro h; have:=congrArg List.length h; simp at this; subst this; simp at b);injection e with e
  subst e;refine t i _ ?_;rw [List.getElem?_map,List.getElem?_eq_getElem b]; rfl
 have V:=hid g;clear hk hb hq B p hs g;go_enter Tryz.func162,Tryz.ntmps162
 go_wp2_with fail
 go_loopw [3,11] (fun sv iv wr=>∃(i s:Nat),iv=.int .i64 i/\sv=.int .i64 s/\i<=k/\Hid (Part.sum (qs.take i)=s)/\Sp w0 L wr) (fun _ iv _=>k - (intOf iv).toNat)
 case atStart=>exact⟨0,0,rfl,rfl,Nat.zero_le _,hid rfl,H⟩
 case round =>
  clear H;obtain⟨i,s,rfl,rfl,a2,J,H⟩:=hrel;have a3:s<=N:=by rw [<- J.out]; exact f.out i
  by_cases K:i<k
  ·have M:(i:Int)<(k:Int):=by omega
   obtain⟨q,O,C,n,u⟩:=V.out i K;have t:=u _ H;have a:Part.sum (qs.take (i+1))=s+q.n:=by rw [n,Part.sum_snoc,J.out]
   have l:s+q.n<=N:=by rw [<- a]; exact f.out _
   have d:=hid a;obtain⟨W,D,Y,Z⟩:=q;simp only at t d l;have k2:¬ (s:Int)+(D:Int)<0:=by omega
   clear O C n u a;go_wp2_with fail
   go_roundw
   case rel=>exact⟨i+1,s+D,by go_num,by go_num,by omega,d,H⟩
   case measure=>first | (simp [intOf]; omega) | simp [intOf]
  ·have M:¬ (i:Int)<(k:Int):=by omega
   obtain rfl:i=k:=by omega
   have x:s=N:=by rw [<- J.out,<- U.out,List.take_of_length_le (by rw [T.out]; exact Nat.le_refl _)]
   subst x;have hg:=UF s H (by omega);have y:=hid hg;clear hg;go_wp2_with fail
   refine y.out.mono ?_;rintro _ w2 ⟨v,rfl,H2⟩;clear y H;go_wp2_with fail
   go_loopw [6,27] (fun vv jv wr=>∃(j:Nat),jv=.int .i64 j/\j<=i/\Sp w0 (Row 3 1 vv (Part.sum (qs.take j)) (Part.cat (qs.take j))::L) wr) (fun _ jv _=>i - (intOf jv).toNat)
   case atStart=>exact⟨0,rfl,Nat.zero_le _,H2⟩
   case round =>
    rename_i v0 _
    clear H2
    rename_i u6 u27
    obtain⟨j,rfl,a4,H⟩:=hrel;obtain⟨r,m⟩:=exq (Part.sum (qs.take j));obtain⟨X,o⟩:=exq (Part.cat (qs.take j));have a5:r<=s:=by rw [<- m]; exact f.out j
    rw [m,o] at H;obtain⟨VA,Vc,P,_,_⟩:=Row.form H 0 rfl;subst P;by_cases Q:j<i
    ·have M:(j:Int)<(i:Int):=by omega
     obtain⟨q,O,C,n,u⟩:=V.out j Q;have t:=u _ H.tail;have a:Part.sum (qs.take (j+1))=r+q.n:=by rw [n,Part.sum_snoc,m]
     have l:r+q.n<=s:=by rw [<- a]; exact f.out _
     have z:Part.cat (qs.take (j+1))=X++q.xs:=by rw [n,Part.cat_snoc,o]
     have d:=hid a;have A:=hid z;have R:=hid C;obtain⟨W,D,Y,Z⟩:=q;simp only at t d A l;clear O C n u a z m o;go_wp2_with (at_builtin; refine Za rfl _ _ 141 rfl 3 i0 (.int .i64 0) 1 8 Tryz.underlying141 E F G I rfl (by decide) _ r X rfl H W D Y Z rfl R.out.1 (R.out.2.1 _ _ H.tail) R.out.2.2 (by unfold maxLen; omega) (by omega) ?_)
     intro v9 w9 H9 _;go_wp2_with fail
     go_roundw
     case rel=>exact⟨j+1,by go_num,by omega,by rw [d.out,A.out]; exact H9⟩
     case measure=>first | (simp [intOf]; omega) | simp [intOf]
    ·have M:¬ (j:Int)<(i:Int):=by omega
     obtain rfl:j=i:=by omega
     have S:qs.take j=qs:=List.take_of_length_le (by rw [T.out]; exact Nat.le_refl _);rw [S,U.out] at m;rw [S] at o;have HR:=hid m;have HX:=hid o;clear m o S;go_wp2_with fail
     go_ret;exact⟨_,rfl,by rw [HX.out,HR.out]; exact H⟩
theorem YK (m:List Nat):cells64 (castI m)=cellsN m:=by
 unfold cells64 castI cellsN;rw [List.map_map]; rfl
theorem xbook_yes (A:Option Addr) (n c:Nat) (m:List Nat) (H:Sp w0 L w) (hn:n=m.length) (hb:Ent L fun w=>Rd w A (cellsN m)) (hk:PI.book m=true) :
  Calls Tryz.prog 164 #[.slice A n c] w fun e w'=>∃g,e=.returned (.pointer (some ⟨g,0,none⟩))/\Sp w0 (Bok g m::L) w':=by
 have a : Ent L fun w=>Rd w A (cells64 (castI m)):=by rw [YK]; exact hb
 have b : n=(castI m).length:=by unfold castI; rw [List.length_map]; exact hn
 have d:=XP A n c (castI m) H b a hk;rw [PI.PH.nat_cast,PI.mostN_of] at d;have f:=hid d;clear d hb a b hk hn;go_enter Tryz.func164,Tryz.ntmps164
 go_wp2_with fail
 refine f.out.mono ?_;rintro _ i ⟨g,v,rfl,h⟩;go_wp2;go_ret;exact⟨g,rfl,Sp.ex v h.star⟩
theorem Xu (A:Option Addr) (n c:Nat) (m:List Nat) (H:Sp w0 L w) (hn:n=m.length) (hb:Ent L fun w=>Rd w A (cellsN m)) (hl:n<=1000) (hk:PI.book m=false) :
  Calls Tryz.prog 164 #[.slice A n c] w fun e w'=>e=.panicked (pan 20)/\Sp w0 L w':=by
 have a : Ent L fun w=>Rd w A (cells64 (castI m)):=by rw [YK]; exact hb
 have b : n=(castI m).length:=by unfold castI; rw [List.length_map]; exact hn
 have d:=WE A n c (castI m) H b a (by omega) hk;have f:PH.enI (castI m)=1∨PH.enI (castI m)=20:=by
  unfold PH.enI;split
  ·exact .inr rfl
  ·exact .inl rfl
 obtain⟨x,g⟩:=exq (PH.enI (castI m));rw [g] at d f;have h:=hid d;have i:¬ x=0:=by omega
 have k:(x != 0)=true:=by simpa using i
 clear d hb a b hk f g hn;go_enter Tryz.func164,Tryz.ntmps164
 go_wp2_with fail
 refine h.out.mono ?_;rintro _ l ⟨rfl,j⟩;go_wp2;exact⟨rfl,rfl,j⟩
theorem row_ent {e:TypeId} {V:Option Addr} {n kk:Nat} {xs:List Value} {M:List Pr} (j:Nat) (hj:M[j]?=some (Row e 1 (.slice V n kk) n xs)):Ent M fun w=>Rd w V xs:=fun _ _ H=>by
 obtain⟨c,d,a,b,_,_⟩:=H.row_rd j hj;injection a with a
 subst a;exact b
theorem fixed_book:PI.book PI.fixedL=true/\PI.book PI.fixedD=true:=by decide +kernel
theorem fixed_len:PI.fixedL.length=288/\PI.fixedD.length=32:=by decide +kernel
theorem xfixed_ok {w0 w:World} {L:List Pr} (H:Sp w0 L w) :
    Calls Tryz.prog 135 #[] w fun e w'=>∃g1 g2,e=.returned (.tuple #[.pointer (some ⟨g1,0,none⟩),.pointer (some ⟨g2,0,none⟩)])/\Sp w0 (Bok g2 PI.fixedD::Bok g1 PI.fixedL::L) w':=by
  have H1:=H.newBk [.int .i64 8] 3
  go_enter Tryz.func135,Tryz.ntmps135
  go_wp2_with fail
  refine(repeatI_ok _ 1 (.int .i64 8) 144 H1 (fun _ _ H=>Rd.of_blk (H.blk 0 rfl)) rfl (by omega) (by omega)).mono ?_
  rintro _ w1 ⟨ga,rfl,H2⟩
  replace H2:=H2.pick 2 [0]
  clear H1
  have H3:=H2.newBk [.int .i64 9] 3
  go_wp2_with fail
  refine(repeatI_ok _ 1 (.int .i64 9) 112 H3 (fun _ _ H=>Rd.of_blk (H.blk 0 rfl)) rfl (by omega) (by omega)).mono ?_
  rintro _ w2 ⟨gb,rfl,H4⟩
  replace H4:=H4.pick 2 [0]
  clear H3 H2
  have H5:=H4.newBk [.int .i64 7] 3
  go_wp2_with fail
  refine(repeatI_ok _ 1 (.int .i64 7) 24 H5 (fun _ _ H=>Rd.of_blk (H.blk 0 rfl)) rfl (by omega) (by omega)).mono ?_
  rintro _ w3 ⟨gc,rfl,H6⟩
  replace H6:=H6.pick 2 [0]
  clear H5 H4
  have H7:=H6.newBk [.int .i64 8] 3
  go_wp2_with fail
  refine(repeatI_ok _ 1 (.int .i64 8) 8 H7 (fun _ _ H=>Rd.of_blk (H.blk 0 rfl)) rfl (by omega) (by omega)).mono ?_
  rintro _ w4 ⟨gd,rfl,H8⟩
  replace H8:=H8.pick 2 [0]
  clear H7 H6
  have H9:=H8.newBk [.slice (some ⟨ga,0,none⟩) 144 144,.slice (some ⟨gb,0,none⟩) 112 112,.slice (some ⟨gc,0,none⟩) 24 24,.slice (some ⟨gd,0,none⟩) 8 8] 141
  have hc:=concat_okI ⟨w4.heap.size,0,none⟩ 4 4 [⟨some ⟨ga,0,none⟩,144,144,List.replicate 144 (.int .i64 8)⟩,⟨some ⟨gb,0,none⟩,112,112,List.replicate 112 (.int .i64 9)⟩,⟨some ⟨gc,0,none⟩,24,24,List.replicate 24 (.int .i64 7)⟩,⟨some ⟨gd,0,none⟩,8,8,List.replicate 8 (.int .i64 8)⟩] H9 rfl (fun _ _ H=>Rd.of_blk (H.blk 0 rfl))
    (fun q hq=>by
      have one:∀(n:Nat) (v:Int),∀u ∈ List.replicate n (Value.int .i64 v),u.oneCell'=true:=fun n v u hu=>by rw [(List.mem_replicate.1 hu).2]; rfl
      rcases List.mem_cons.1 hq with rfl | hq
      · exact⟨by simp only [List.length_replicate],row_ent 4 rfl,one _ _⟩
      rcases List.mem_cons.1 hq with rfl | hq
      · exact⟨by simp only [List.length_replicate],row_ent 3 rfl,one _ _⟩
      rcases List.mem_cons.1 hq with rfl | hq
      · exact⟨by simp only [List.length_replicate],row_ent 2 rfl,one _ _⟩
      · rw [List.mem_singleton.1 hq]
        exact⟨by simp only [List.length_replicate],row_ent 1 rfl,one _ _⟩) (by simp [Part.sum]) (by omega)
  have hsum:Part.sum [⟨some ⟨ga,0,none⟩,144,144,List.replicate 144 (.int .i64 8)⟩,⟨some ⟨gb,0,none⟩,112,112,List.replicate 112 (.int .i64 9)⟩,⟨some ⟨gc,0,none⟩,24,24,List.replicate 24 (.int .i64 7)⟩,⟨some ⟨gd,0,none⟩,8,8,List.replicate 8 (.int .i64 8)⟩]=288:=rfl
  have hcat:Part.cat [⟨some ⟨ga,0,none⟩,144,144,List.replicate 144 (.int .i64 8)⟩,⟨some ⟨gb,0,none⟩,112,112,List.replicate 112 (.int .i64 9)⟩,⟨some ⟨gc,0,none⟩,24,24,List.replicate 24 (.int .i64 7)⟩,⟨some ⟨gd,0,none⟩,8,8,List.replicate 8 (.int .i64 8)⟩]=cellsN PI.fixedL:=by
    unfold Part.cat PI.fixedL cellsN
    simp only [List.flatMap_cons,List.flatMap_nil,List.map_append,List.map_replicate,List.append_nil,List.append_assoc]
    rfl
  rw [hsum,hcat] at hc
  have HC:=Lib.hid hc
  clear hc hsum hcat H8
  go_wp2_with fail
  refine HC.out.mono ?_
  rintro _ w5 ⟨vl,rfl,H10⟩
  obtain⟨VA,vc,rfl,_,_⟩:=Row.form H10 0 rfl
  have hb:=xbook_yes VA 288 vc PI.fixedL H10 fixed_len.1.symm (row_ent 0 rfl) fixed_book.1
  have HB:=Lib.hid hb
  clear hb HC H9
  go_wp2_with fail
  refine HB.out.mono ?_
  rintro _ w6 ⟨g1,rfl,H11⟩
  have H12:=H11.newBk [.int .i64 5] 3
  clear HB H10
  go_wp2_with fail
  refine(repeatI_ok _ 1 (.int .i64 5) 32 H12 (fun _ _ H=>Rd.of_blk (H.blk 0 rfl)) rfl (by omega) (by omega)).mono ?_
  rintro _ w7 ⟨ge,rfl,H13⟩
  have hrep:List.replicate 32 (Value.int .i64 5)=cellsN PI.fixedD:=by unfold cellsN PI.fixedD; rw [List.map_replicate]; rfl
  rw [hrep] at H13
  have hb:=xbook_yes (some ⟨ge,0,none⟩) 32 32 PI.fixedD H13 fixed_len.2.symm (row_ent 0 rfl) fixed_book.2
  clear hrep
  have HB:=Lib.hid hb
  clear hb H11 H12
  go_wp2_with fail
  refine HB.out.mono ?_
  rintro _ w8 ⟨g2,rfl,H14⟩
  go_wp2_with fail
  go_ret2
  exact⟨g1,g2,rfl,H14.pick 10 [0,3]⟩
end Go.Proofs.YtnjpnmpemhldcaaGreatDoor

