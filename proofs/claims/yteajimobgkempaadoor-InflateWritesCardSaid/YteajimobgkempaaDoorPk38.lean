/- A pack. -/
import Derived.Test.YteajimobgkempaaDoorPk37
set_option linter.all false
set_option maxRecDepth 100000
set_option maxHeartbeats 8000000
namespace Go.Proofs.YteajimobgkempaaDoor
variable {w0 w:World} {L:List Pr}
open Go.RowKit
theorem Xg (x:PI.Sg):(sgC x).length=3:=rfl
theorem rdS {w:World} {A:Option Addr} {l:List PI.Sg} (h:Rd w A (cellsS l)) {i:Nat} (hi:i<l.length):∃ad,A=some ad/\∀j v,(sgC (l.getD i (0,0,0)))[j]?=some v->w.cell? ((ad.add (i * 3)).add j)=some v:=by
 obtain⟨ad,e,b⟩:=h (fun h0=>by
  have:=congrArg List.length h0;unfold cellsS at this;rw [ZC sgC 3 Xg] at this;simp at this;omega)
 refine⟨ad,e,fun j v hj=>?_⟩;have a:j<3:=by
  have:=(List.getElem?_eq_some_iff.1 hj).1;rw [Xg] at this;exact this
 obtain⟨p,c,d⟩:=ZQ sgC 3 Xg l i j a hi;have f:p=l.getD i (0,0,0):=by
  rw [List.getD_eq_getElem?_getD,c]; rfl
 rw [Go.Addr.add_add];refine b _ _ ?_;show(l.flatMap sgC)[i * 3+j]?=_;rw [d,f];exact hj
theorem ZR (m:List Nat) (h15:∀x ∈ m,x<=15) (hs:PH.sum m<=32768) (s:Nat):PH.codeAt m s<4294967296:=by
 by_cases c:m.getD s 0=0
 ·unfold PH.codeAt; rw [if_pos c]; decide
 ·have b:s<m.length:=by
   refine Nat.lt_of_not_le fun h=>c ?_;rw [List.getD_eq_getElem?_getD,List.getElem?_eq_none h]; rfl
  obtain⟨p,d⟩:∃p,m.getD s 0=p+1:=⟨m.getD s 0 - 1,by omega⟩;have a:p+1<=15:=by
   rw [<- d,List.getD_eq_getElem?_getD,List.getElem?_eq_getElem b];exact h15 _ (List.getElem_mem b)
  have e:=PH.code_lt m s p b d a hs;have f:(2:Nat) ^ (p+1)<=2 ^ 15:=Nat.pow_le_pow_right (by decide) a;omega
theorem Ws (A:Option Addr) (n c:Nat) (l:List PI.Sg) (v0 v1:Value) (Inv:Nat->List Pr) (H:Sp w0 (Inv 0) w) (hn:n=l.length) (hl:n<=1000000) (hk:PI.SgOk l) (hb:∀k,k<=n->Ent (Inv k) fun w=>Rd w A (cellsS l))
  (hstep:∀(k:Nat) (X:Pr) (w:World),k<n->Sp w0 (X::Inv k) w->Calls Tryd.prog 18 #[.int .i64 ((l.getD k (0,0,0)).1:Int),.bool (PI.farAt l k),v0,v1] w fun e w'=>e=.returned (.tuple #[])/\Sp w0 (X::Inv (k+1)) w') :
  Calls Tryd.prog 17 #[.slice A n c,.func (.func 18) #[] #[v0,v1]] w fun e w'=>e=.returned (.tuple #[])/\Sp w0 (Inv n) w':=by
 have K:=hid hb;have D:=hid hstep;have L:=hid hn;have M:=hid hk;clear hb hstep hn hk;go_enter Tryd.func17,Tryd.ntmps17
 go_wp2_with fail
 go_loopw [4,9] (fun fv iv wr=>∃i:Nat,fv=.bool (PI.farAt l i)/\iv=.int .i64 i/\i<=n/\Sp w0 (Inv i) wr) (fun _ iv _=>n - (intOf iv).toNat)
 case atStart=>exact⟨0,rfl,rfl,Nat.zero_le _,H⟩
 case round =>
  obtain⟨i,rfl,rfl,E,y⟩:=hrel;clear H;by_cases p:i<n
  ·have N:(i:Int)<(n:Int):=by omega
   have q:i<l.length:=by rw [<- L.out]; exact p
   obtain⟨O,rfl,j⟩:=rdS (K.out i E _ _ y) q;have d:=D.out i;have a:=(M.out i q).1;obtain⟨F,m⟩:=exq (PI.farAt l i);have f:PI.farAt l (i+1)=PI.farNx F (l.getD i (0,0,0)).1:=by rw [<- m]; rfl
   rw [m] at d a ⊢;obtain⟨⟨s,v,b⟩,I⟩:∃x,l.getD i (0,0,0)=x:=⟨_,rfl⟩;rw [I] at j d a f;simp only at d a f;have r:=hid j;have g:=hid d;have o:=hid f;have t:=y.newBk [.int .i64 0,.int .i64 0,.int .i64 0] 83;have u:=hid t
   have G:s<286:=by cases F with
    | false=>exact a.1 rfl
    | true=>have:=a.2 rfl; omega
   clear j d m f I t y a;go_wp2_with (first | (refine Zf rfl 83 _ rfl (O.add (i * 3)) (sgC (s,v,b)) rfl r.out Tryd.isAgg83 Tryd.sizeOf83 ?_) | (refine Za rfl 83 _ _ rfl wr.heap.size 83 [.int .i64 0,.int .i64 0,.int .i64 0] (sgC (s,v,b)) rfl rfl u.out rfl Tryd.sizeOf83 (Zh _) ?_))
   intro J z;generalize wr.heap.size=g8 at z ⊢;have P:J.cell? ⟨g8,0,none⟩=some (.int .i64 s):=z.cell 0 rfl 0;have h:=hid (g.out _ J p z);clear u r g z;go_wp2_with fail
   refine h.out.mono ?_;rintro _ Q ⟨rfl,B⟩;have P:Q.cell? ⟨g8,0,none⟩=some (.int .i64 s):=B.cell 0 rfl 0;clear h;cases F with
   | true =>
    go_wp2_with fail
    go_roundw
    case rel=>exact⟨i+1,by rw [o.out]; rfl,by go_num,by omega,B.tail⟩
    case measure=>first | (simp [intOf]; omega) | simp [intOf]
   | false =>
    by_cases C:256<s
    ·have R:(s:Int) > 256:=by omega
     go_wp2_with fail
     go_roundw
     case rel=>exact⟨i+1,by rw [o.out]; first | (simp [PI.farNx,C]; done) | (simp [PI.farNx,C]; omega),by go_num,by omega,B.tail⟩
     case measure=>first | (simp [intOf]; omega) | simp [intOf]
    ·have R:¬ (s:Int) > 256:=by omega
     go_wp2_with fail
     go_roundw
     case rel=>exact⟨i+1,by rw [o.out]; first | (simp [PI.farNx,C]; done) | (simp [PI.farNx,C]; omega),by go_num,by omega,B.tail⟩
     case measure=>first | (simp [intOf]; omega) | simp [intOf]
  ·have N:¬ (i:Int)<(n:Int):=by omega
   obtain rfl:i=n:=by omega
   go_wp2_with fail
   go_end0;exact⟨rfl,y⟩
theorem Wt (A:Option Addr) (n c:Nat) (l:List PI.Sg) (v0 v1 v2 v3 v4 v5 v6:Value) (Inv:Nat->List Pr) (H:Sp w0 (Inv 0) w) (hn:n=l.length) (hl:n<=1000000) (hk:PI.SgOk l) (hb:∀k,k<=n->Ent (Inv k) fun w=>Rd w A (cellsS l))
  (hstep:∀(k:Nat) (X:Pr) (w:World),k<n->Sp w0 (X::Inv k) w->Calls Tryd.prog 35 #[.int .i64 ((l.getD k (0,0,0)).1:Int),.bool (PI.farAt l k),v0,v1,v2,v3,v4,v5,v6] w fun e w'=>e=.returned (.tuple #[])/\Sp w0 (X::Inv (k+1)) w') :
  Calls Tryd.prog 17 #[.slice A n c,.func (.func 35) #[] #[v0,v1,v2,v3,v4,v5,v6]] w fun e w'=>e=.returned (.tuple #[])/\Sp w0 (Inv n) w':=by
 have K:=hid hb;have D:=hid hstep;have L:=hid hn;have M:=hid hk;clear hb hstep hn hk;go_enter Tryd.func17,Tryd.ntmps17
 go_wp2_with fail
 go_loopw [4,9] (fun fv iv wr=>∃i:Nat,fv=.bool (PI.farAt l i)/\iv=.int .i64 i/\i<=n/\Sp w0 (Inv i) wr) (fun _ iv _=>n - (intOf iv).toNat)
 case atStart=>exact⟨0,rfl,rfl,Nat.zero_le _,H⟩
 case round =>
  obtain⟨i,rfl,rfl,E,y⟩:=hrel;clear H;by_cases p:i<n
  ·have N:(i:Int)<(n:Int):=by omega
   have q:i<l.length:=by rw [<- L.out]; exact p
   obtain⟨O,rfl,j⟩:=rdS (K.out i E _ _ y) q;have d:=D.out i;have a:=(M.out i q).1;obtain⟨F,m⟩:=exq (PI.farAt l i);have f:PI.farAt l (i+1)=PI.farNx F (l.getD i (0,0,0)).1:=by rw [<- m]; rfl
   rw [m] at d a ⊢;obtain⟨⟨s,v,b⟩,I⟩:∃x,l.getD i (0,0,0)=x:=⟨_,rfl⟩;rw [I] at j d a f;simp only at d a f;have r:=hid j;have g:=hid d;have o:=hid f;have t:=y.newBk [.int .i64 0,.int .i64 0,.int .i64 0] 83;have u:=hid t
   have G:s<286:=by cases F with
    | false=>exact a.1 rfl
    | true=>have:=a.2 rfl; omega
   clear j d m f I t y a;go_wp2_with (first | (refine Zf rfl 83 _ rfl (O.add (i * 3)) (sgC (s,v,b)) rfl r.out Tryd.isAgg83 Tryd.sizeOf83 ?_) | (refine Za rfl 83 _ _ rfl wr.heap.size 83 [.int .i64 0,.int .i64 0,.int .i64 0] (sgC (s,v,b)) rfl rfl u.out rfl Tryd.sizeOf83 (Zh _) ?_))
   intro J z;generalize wr.heap.size=g8 at z ⊢;have P:J.cell? ⟨g8,0,none⟩=some (.int .i64 s):=z.cell 0 rfl 0;have h:=hid (g.out _ J p z);clear u r g z;go_wp2_with fail
   refine h.out.mono ?_;rintro _ Q ⟨rfl,B⟩;have P:Q.cell? ⟨g8,0,none⟩=some (.int .i64 s):=B.cell 0 rfl 0;clear h;cases F with
   | true =>
    go_wp2_with fail
    go_roundw
    case rel=>exact⟨i+1,by rw [o.out]; rfl,by go_num,by omega,B.tail⟩
    case measure=>first | (simp [intOf]; omega) | simp [intOf]
   | false =>
    by_cases C:256<s
    ·have R:(s:Int) > 256:=by omega
     go_wp2_with fail
     go_roundw
     case rel=>exact⟨i+1,by rw [o.out]; first | (simp [PI.farNx,C]; done) | (simp [PI.farNx,C]; omega),by go_num,by omega,B.tail⟩
     case measure=>first | (simp [intOf]; omega) | simp [intOf]
    ·have R:¬ (s:Int) > 256:=by omega
     go_wp2_with fail
     go_roundw
     case rel=>exact⟨i+1,by rw [o.out]; first | (simp [PI.farNx,C]; done) | (simp [PI.farNx,C]; omega),by go_num,by omega,B.tail⟩
     case measure=>first | (simp [intOf]; omega) | simp [intOf]
  ·have N:¬ (i:Int)<(n:Int):=by omega
   obtain rfl:i=n:=by omega
   go_wp2_with fail
   go_end0;exact⟨rfl,y⟩
theorem Vq (pa pb s:Nat) (va vb:Value) (ca cb:List Nat) (fr:Bool) {X:Pr} (H:Sp w0 (X::Bk pb 51 [vb]::Bk pa 51 [va]::Row 3 1 vb 30 (cellsN ca)::Row 3 1 va 286 (cellsN cb)::L) w) (hca:ca.length=30) (hcb:cb.length=286)
  (hs:(fr=false->s<286)/\(fr=true->s<30)) (ha:∀x ∈ ca,x<=1000000) (hb:∀x ∈ cb,x<=1000000) :
  Calls Tryd.prog 18 #[.int .i64 s,.bool fr,.pointer (some ⟨pb,0,none⟩),.pointer (some ⟨pa,0,none⟩)] w fun e w'=>e=.returned (.tuple #[]) /\
   Sp w0 (X::Bk pb 51 [vb]::Bk pa 51 [va]::Row 3 1 vb 30 (cellsN (if fr then ca.set s (ca.getD s 0+1) else ca))::Row 3 1 va 286 (cellsN (if fr then cb else cb.set s (cb.getD s 0+1)))::L) w':=by
 have c:∀(l:List Nat) (x:Nat),(cellsN l).set s (.int .i64 x)=cellsN (l.set s x):=fun l x=>by simp [cellsN,List.map_set]
 have d:∀l:List Nat,s<l.length->(cellsN l)[s]?=some (.int .i64 (l.getD s 0:Nat)):=fun l h=>by simp [cellsN,List.getD_eq_getElem?_getD,h]
 cases fr with
 | true =>
  have hs:=hs.2 rfl;obtain⟨j,k,rfl,_,a,i,b⟩:=(H.pick 4 [3,0,1,2]).rowSet hs;have o:w.cell? ⟨pb,0,none⟩=some (.slice (some j) 30 k):=H.cell 1 rfl 0;rw [d ca (by omega)] at a;have m:ca.getD s 0<=1000000:=by
   rw [List.getD_eq_getElem?_getD,List.getElem?_eq_getElem (by omega)];exact ha _ (List.getElem_mem _)
  obtain⟨x,f⟩:=exq (ca.getD s 0);rw [f] at a m ⊢;have g:=b (.int .i64 ((x+1:Nat):Int));rw [c] at g;have n:=hid (g.pick 4 [1,2,3,0]);have p:(s:Int)<30:=by omega
  clear H g b c d ha hb f;go_enter Tryd.func18,Tryd.ntmps18
  go_wp2_with fail
  go_end0;exact⟨rfl,n.out⟩
 | false =>
  have hs:=hs.1 rfl;obtain⟨j,k,rfl,_,a,i,b⟩:=(H.pick 5 [4,0,1,2,3]).rowSet hs;have o:w.cell? ⟨pa,0,none⟩=some (.slice (some j) 286 k):=H.cell 2 rfl 0;rw [d cb (by omega)] at a;have m:cb.getD s 0<=1000000:=by
   rw [List.getD_eq_getElem?_getD,List.getElem?_eq_getElem (by omega)];exact hb _ (List.getElem_mem _)
  obtain⟨x,f⟩:=exq (cb.getD s 0);rw [f] at a m ⊢;have g:=b (.int .i64 ((x+1:Nat):Int));rw [c] at g;have n:=hid (g.pick 5 [1,2,3,4,0]);have p:(s:Int)<286:=by omega
  clear H g b c d ha hb f;go_enter Tryd.func18,Tryd.ntmps18
  go_wp2_with fail
  go_end0;exact⟨rfl,n.out⟩
theorem Vr (pr pi pp pd pb pc pa gp k n cr nd cd cb nm cc ca:Nat) (A VD VB VC VA:Option Addr) (m d:List Nat) (l:List PI.Sg) (fr:Bool) (l1:List Bool) {X:Pr}
  (H:Sp w0 (X::Bk pr 48 [.slice A n cr]::Bk pi 3 [.int .i64 k]::Bk pp 42 [.pointer (some ⟨gp,0,none⟩)]::Bk pd 88 [.slice VD nd cd]::Bk pb 51 [.slice VB nd cb]::Bk pc 88 [.slice VC nm cc]::Bk pa 51 [.slice VA nm ca]::Pen gp l1::L) w) (hn:n=l.length) (hnd:nd=d.length) (hnm:nm=m.length) (hk:k<n) (hfr:PI.farAt l k=fr) (hsg:PI.SgOk l) (hl:l1.length<=90000000) (hnb:n<=1000000)
  (hdl:30<=nd) (hml:286<=nm) (hd15:∀x ∈ d,x<=15) (hm15:∀x ∈ m,x<=15) (hds:PH.sum d<=32768) (hms:PH.sum m<=32768)
  (hr:Ent L fun w=>Rd w A (cellsS l)) (hvd:Ent L fun w=>Rd w VD (rowU (PH.codeAt d) nd)) (hvb:Ent L fun w=>Rd w VB (cellsN d)) (hvc:Ent L fun w=>Rd w VC (rowU (PH.codeAt m) nm)) (hva:Ent L fun w=>Rd w VA (cellsN m)) :
  Calls Tryd.prog 35 #[.int .i64 ((l.getD k (0,0,0)).1:Int),.bool fr,.pointer (some ⟨pr,0,none⟩),.pointer (some ⟨pi,0,none⟩),.pointer (some ⟨pp,0,none⟩),.pointer (some ⟨pd,0,none⟩),.pointer (some ⟨pb,0,none⟩),.pointer (some ⟨pc,0,none⟩),.pointer (some ⟨pa,0,none⟩)] w fun e w'=>e=.returned (.tuple #[]) /\
   Sp w0 (X::Bk pr 48 [.slice A n cr]::Bk pi 3 [.int .i64 ((k+1:Nat):Int)]::Bk pp 42 [.pointer (some ⟨gp,0,none⟩)]::Bk pd 88 [.slice VD nd cd]::Bk pb 51 [.slice VB nd cb]::Bk pc 88 [.slice VC nm cc]::Bk pa 51 [.slice VA nm ca]::Pen gp (l1++PI.sgW m d (l.getD k (0,0,0)) fr)::L) w':=by
 have a0:k<l.length:=by omega
 obtain⟨G,rfl,S⟩:=rdS (hr _ _ (H.pick 9 [])) a0;obtain⟨⟨J,M⟩,O,hv⟩:=hsg k a0;rw [hfr] at J M;obtain⟨⟨s,v,b⟩,hx⟩:∃x,l.getD k (0,0,0)=x:=⟨_,rfl⟩;rw [hx] at S J M O hv ⊢;simp only at J M O hv ⊢;have q1:(k:Int)<(n:Int):=by omega
 have c2:w.cell? ⟨pr,0,none⟩=some (.slice (some G) n cr):=H.cell 1 rfl 0;have c3:w.cell? ⟨pi,0,none⟩=some (.int .i64 k):=H.cell 2 rfl 0;have a1:=hid S;have a2:=hid (H.newBk [.int .i64 0,.int .i64 0,.int .i64 0] 83);have a3:=hid hvd;have a4:=hid hvb;have a5:=hid hvc;have a6:=hid hva;have a7:=hid hnd;have a8:=hid hnm;have P:=hid hd15;have Q:=hid hm15;have b0:=hid hds;have b1:=hid hms;clear hr hvd hvb hvc hva S hx hfr H hnd hnm hd15 hm15 hds hms hsg hn;go_enter Tryd.func35,Tryd.ntmps35
 go_wp2_with (first | (refine Zf rfl 83 _ rfl (G.add (k * 3)) (sgC (s,v,b)) rfl a1.out Tryd.isAgg83 Tryd.sizeOf83 ?_) | (refine Za rfl 83 _ _ rfl w.heap.size 83 [.int .i64 0,.int .i64 0,.int .i64 0] (sgC (s,v,b)) rfl rfl a2.out rfl Tryd.sizeOf83 (Zh _) ?_))
 intro w8 H8;generalize w.heap.size=g11 at H8 ⊢;clear a2 a1 c2 c3;have c3:w8.cell? ⟨pi,0,none⟩=some (.int .i64 k):=H8.cell 3 rfl 0;have z3:w8.frozen? ⟨pi,0,none⟩=false:=H8.frozen 3 rfl 0;have I:=((H8.pick 4 [3,0,1,2]).set 0 (.int .i64 ((k+1:Nat):Int))).pick 10 [9,1,2,3,0,4,5,6,7,8];have R:=hid I;clear H8 I;cases fr with
 | true =>
  have hs:=M rfl;obtain⟨o,q⟩:=exq (PH.codeAt d s);obtain⟨p,r⟩:=exq (d.getD s 0);have z:s<nd:=by omega
  have q2:(s:Int)<(nd:Int):=by omega
  have F:o<4294967296:=by rw [<- q]; exact ZR d P.out b0.out s
  have b2:p<=15:=by
   rw [<- r,List.getD_eq_getElem?_getD,List.getElem?_eq_getElem (by rw [<- a7.out]; exact z)];exact P.out _ (List.getElem_mem _)
  have T:=hid F;have D:(rowU (PH.codeAt d) nd)[s]?=some (.int .u32 o):=by rw [Zp _ _ _ z,q]
  have E:(cellsN d)[s]?=some (.int .i64 p):=by
   have:s<d.length:=by rw [<- a7.out]; exact z
   rw [<- r]; simp [cellsN,List.getD_eq_getElem?_getD,this]
  obtain⟨u,rfl,_⟩:=a3.out _ _ (R.out.pick 10 []) (fun h0=>by rw [h0] at D; cases D);obtain⟨y,rfl,_⟩:=a4.out _ _ (R.out.pick 10 []) (fun h0=>by rw [h0] at E; cases E);have U:Hid (Ent (Bk g11 83 (sgC (s,v,b))::X::Bk pr 48 [.slice (some G) n cr]::Bk pi 3 [.int .i64 ((k+1:Nat):Int)]::Bk pp 42 [.pointer (some ⟨gp,0,none⟩)]::Bk pd 88 [.slice (some u) nd cd]::Bk pb 51 [.slice (some y) nd cb]::Bk pc 88 [.slice VC nm cc]::Bk pa 51 [.slice VA nm ca]::L) fun w=>w.cell? (u.add s)=some (.int .u32 o)):=hid fun w0 w h=>by
   obtain⟨a9,B,C⟩:=a3.out _ _ (h.pick 9 []) (fun h0=>by rw [h0] at D; cases D);injection B with B
   subst B;exact C _ _ D
  have V:Hid (Ent (Bk g11 83 (sgC (s,v,b))::X::Bk pr 48 [.slice (some G) n cr]::Bk pi 3 [.int .i64 ((k+1:Nat):Int)]::Bk pp 42 [.pointer (some ⟨gp,0,none⟩)]::Bk pd 88 [.slice (some u) nd cd]::Bk pb 51 [.slice (some y) nd cb]::Bk pc 88 [.slice VC nm cc]::Bk pa 51 [.slice VA nm ca]::L) fun w=>w.cell? (y.add s)=some (.int .i64 p)):=hid fun w0 w h=>by
   obtain⟨a9,B,C⟩:=a4.out _ _ (h.pick 9 []) (fun h0=>by rw [h0] at E; cases E);injection B with B
   subst B;exact C _ _ E
  have W:=hid q;have Y:=hid r;clear q r F D E;go_wp2_with fail
  refine Zg (L:=(Bk g11 83 (sgC (s,v,b))::X::Bk pr 48 [.slice (some G) n cr]::Bk pi 3 [.int .i64 ((k+1:Nat):Int)]::Bk pp 42 [.pointer (some ⟨gp,0,none⟩)]::Bk pd 88 [.slice (some u) nd cd]::Bk pb 51 [.slice (some y) nd cb]::Bk pc 88 [.slice VC nm cc]::Bk pa 51 [.slice VA nm ca]::L)) (fun ix vx=>([(·=.pointer (some ⟨gp,0,none⟩)),(·=.slice (some u) nd cd),(·=.int .i64 s),(·=.pointer (some (u.add s))),(·=.int .u32 o),(·=.slice (some y) nd cb),(·=.int .i64 s),(·=.pointer (some (y.add s))),(·=.int .i64 p),(·=.tuple #[])]:List (Value->Prop)).getD ix (fun _=>True) vx)
   (fun ix vx=>([fun _=>[],fun _=>[],fun _=>[],fun _=>[],fun _=>[],fun _=>[],fun _=>[],fun _=>[],fun _=>[],fun _=>[Pen gp (l1++PH.bitsC p o)]]:List (Value->List Pr)).getD ix (fun _=>[]) vx) (fun ix=>([[],[],[],[],[],[],[],[],[],[Pen gp l1]]:List (List Pr)).getD ix []) 10 45
   [some 19,some 20,some 21,some 22,some 23,some 24,some 25,some 26,some 27,some 28]
   [[],[],[],[1,2],[3],[],[],[5,6],[7],[0,4,8]]
   [[],[],[],[1,2],[1,2,3],[],[],[5,6],[5,6,7],[0,1,2,3,4,5,6,7,8]]
   [[],[],[],[],[],[],[],[],[],[]]
   [[],[],[],[],[],[],[],[],[],[]]
   [(0,.int .i64 s),(4,.pointer (some ⟨pp,0,none⟩)),(5,.pointer (some ⟨pd,0,none⟩)),(6,.pointer (some ⟨pb,0,none⟩))]
   (by kernel_rfl) rfl (by decide) (by rfl) rfl (by decide +kernel) (by decide +kernel) (by rfl) rfl rfl (by decide) (by simp) (by rfl) (R.out) ?hstep ?hend
  case hstep =>
   refine⟨?_,⟨?_,⟨?_,⟨?_,⟨?_,⟨?_,⟨?_,⟨?_,⟨?_,⟨?_,trivial⟩⟩⟩⟩⟩⟩⟩⟩⟩⟩
   ·intro x wx A c g f i H K a;have e4:A.tmps[4]?.getD undef=.pointer (some ⟨pp,0,none⟩):=g (4,_) (by simp);have j:=hid a;clear a g f;have t:=i (fun w=>w.cell? ⟨pp,0,none⟩=some (.pointer (some ⟨gp,0,none⟩))) (fun w0 w h=>h.cell 4 rfl 0) _ _ H;refine so ?_;go_step;exact j.out _ _ rfl H
   ·intro x wx A c g f i H K a;have e5:A.tmps[5]?.getD undef=.pointer (some ⟨pd,0,none⟩):=g (5,_) (by simp);have j:=hid a;clear a g f;have t:=i (fun w=>w.cell? ⟨pd,0,none⟩=some (.slice (some u) nd cd)) (fun w0 w h=>h.cell 5 rfl 0) _ _ H;refine so ?_;go_step;exact j.out _ _ rfl H
   ·intro x wx A c g f i H K a;have e0:A.tmps[0]?.getD undef=.int .i64 s:=g (0,_) (by simp);have j:=hid a;clear a g f i;refine so ?_;go_step;exact j.out _ _ rfl H
   ·intro x wx A c g f i H K a;have b3:=tq f 1;have b4:=tq f 2;have j:=hid a;clear a g f i;refine so ?_;go_step;exact j.out _ _ rfl H
   ·intro x wx A c g f i H K a;have b5:=tq f 3;have j:=hid a;clear a g f;have t:=i _ U.out _ _ H;refine so ?_;go_step;exact j.out _ _ rfl H
   ·intro x wx A c g f i H K a;have e6:A.tmps[6]?.getD undef=.pointer (some ⟨pb,0,none⟩):=g (6,_) (by simp);have j:=hid a;clear a g f;have t:=i (fun w=>w.cell? ⟨pb,0,none⟩=some (.slice (some y) nd cb)) (fun w0 w h=>h.cell 6 rfl 0) _ _ H;refine so ?_;go_step;exact j.out _ _ rfl H
   ·intro x wx A c g f i H K a;have e0:A.tmps[0]?.getD undef=.int .i64 s:=g (0,_) (by simp);have j:=hid a;clear a g f i;refine so ?_;go_step;exact j.out _ _ rfl H
   ·intro x wx A c g f i H K a;have b6:=tq f 5;have b7:=tq f 6;have j:=hid a;clear a g f i;refine so ?_;go_step;exact j.out _ _ rfl H
   ·intro x wx A c g f i H K a;have b8:=tq f 7;have j:=hid a;clear a g f;have t:=i _ V.out _ _ H;refine so ?_;go_step;exact j.out _ _ rfl H
   ·intro x wx A c g f i H K a;have b9:=tq f 0;have c0:=tq f 4;have c1:=tq f 8;replace H:Sp w0 (_::c) wx:=H;have j:=hid a;clear a g f i;refine so ?_;go_wp2_with fail
    refine(Yb gp o p l1 H T.out (by omega) (by omega)).mono ?_;rintro _ w9 ⟨rfl,I⟩;exact j.out _ _ rfl I
  case hend =>
   intro x wx A hA f H;replace H:Sp w0 (_::(Bk g11 83 (sgC (s,v,b))::X::Bk pr 48 [.slice (some G) n cr]::Bk pi 3 [.int .i64 ((k+1:Nat):Int)]::Bk pp 42 [.pointer (some ⟨gp,0,none⟩)]::Bk pd 88 [.slice (some u) nd cd]::Bk pb 51 [.slice (some y) nd cb]::Bk pc 88 [.slice VC nm cc]::Bk pa 51 [.slice VA nm ca]::L)) wx:=H;clear f;simp only [putAll,Act.put,List.setIfInBounds_toArray,List.set_cons_succ,List.set_cons_zero,Nat.reduceAdd] at hA;subst hA;have N:=hid H;clear H R;have c4:wx.cell? ⟨pp,0,none⟩=some (.pointer (some ⟨gp,0,none⟩)):=N.out.cell 5 rfl 0;have c5:wx.cell? ⟨g11,1,none⟩=some (.int .i64 v):=N.out.cell 1 rfl 1;have c6:wx.cell? ⟨g11,2,none⟩=some (.int .i64 b):=N.out.cell 1 rfl 2;have Z:=hid (Zj gp v b _ N.out (by omega) (by rw [List.length_append,PH.bitsC_len]; omega));go_wp2_with fail
   refine Z.out.mono ?_;rintro _ w9 ⟨rfl,I⟩;go_wp2_with fail
   go_end0;have e:PI.sgW m d (s,v,b) true=PH.bitsC p o++PBits.bitsOf v b:=by
    rw [<- W.out,<- Y.out]; rfl
   rw [e,<- List.append_assoc];exact⟨rfl,I.pick 10 [2,3,4,5,6,7,8,9,0]⟩
 | false =>
  have hs:=J rfl;obtain⟨o,q⟩:=exq (PH.codeAt m s);obtain⟨p,r⟩:=exq (m.getD s 0);have z:s<nm:=by omega
  have q2:(s:Int)<(nm:Int):=by omega
  have F:o<4294967296:=by rw [<- q]; exact ZR m Q.out b1.out s
  have b2:p<=15:=by
   rw [<- r,List.getD_eq_getElem?_getD,List.getElem?_eq_getElem (by rw [<- a8.out]; exact z)];exact Q.out _ (List.getElem_mem _)
  have T:=hid F;have D:(rowU (PH.codeAt m) nm)[s]?=some (.int .u32 o):=by rw [Zp _ _ _ z,q]
  have E:(cellsN m)[s]?=some (.int .i64 p):=by
   have:s<m.length:=by rw [<- a8.out]; exact z
   rw [<- r]; simp [cellsN,List.getD_eq_getElem?_getD,this]
  obtain⟨u,rfl,_⟩:=a5.out _ _ (R.out.pick 10 []) (fun h0=>by rw [h0] at D; cases D);obtain⟨y,rfl,_⟩:=a6.out _ _ (R.out.pick 10 []) (fun h0=>by rw [h0] at E; cases E);have U:Hid (Ent (Bk g11 83 (sgC (s,v,b))::X::Bk pr 48 [.slice (some G) n cr]::Bk pi 3 [.int .i64 ((k+1:Nat):Int)]::Bk pp 42 [.pointer (some ⟨gp,0,none⟩)]::Bk pd 88 [.slice VD nd cd]::Bk pb 51 [.slice VB nd cb]::Bk pc 88 [.slice (some u) nm cc]::Bk pa 51 [.slice (some y) nm ca]::L) fun w=>w.cell? (u.add s)=some (.int .u32 o)):=hid fun w0 w h=>by
   obtain⟨a9,B,C⟩:=a5.out _ _ (h.pick 9 []) (fun h0=>by rw [h0] at D; cases D);injection B with B
   subst B;exact C _ _ D
  have V:Hid (Ent (Bk g11 83 (sgC (s,v,b))::X::Bk pr 48 [.slice (some G) n cr]::Bk pi 3 [.int .i64 ((k+1:Nat):Int)]::Bk pp 42 [.pointer (some ⟨gp,0,none⟩)]::Bk pd 88 [.slice VD nd cd]::Bk pb 51 [.slice VB nd cb]::Bk pc 88 [.slice (some u) nm cc]::Bk pa 51 [.slice (some y) nm ca]::L) fun w=>w.cell? (y.add s)=some (.int .i64 p)):=hid fun w0 w h=>by
   obtain⟨a9,B,C⟩:=a6.out _ _ (h.pick 9 []) (fun h0=>by rw [h0] at E; cases E);injection B with B
   subst B;exact C _ _ E
  have W:=hid q;have Y:=hid r;clear q r F D E;go_wp2_with fail
  refine Zg (L:=(Bk g11 83 (sgC (s,v,b))::X::Bk pr 48 [.slice (some G) n cr]::Bk pi 3 [.int .i64 ((k+1:Nat):Int)]::Bk pp 42 [.pointer (some ⟨gp,0,none⟩)]::Bk pd 88 [.slice VD nd cd]::Bk pb 51 [.slice VB nd cb]::Bk pc 88 [.slice (some u) nm cc]::Bk pa 51 [.slice (some y) nm ca]::L)) (fun ix vx=>([(·=.pointer (some ⟨gp,0,none⟩)),(·=.slice (some u) nm cc),(·=.int .i64 s),(·=.pointer (some (u.add s))),(·=.int .u32 o),(·=.slice (some y) nm ca),(·=.int .i64 s),(·=.pointer (some (y.add s))),(·=.int .i64 p),(·=.tuple #[])]:List (Value->Prop)).getD ix (fun _=>True) vx)
   (fun ix vx=>([fun _=>[],fun _=>[],fun _=>[],fun _=>[],fun _=>[],fun _=>[],fun _=>[],fun _=>[],fun _=>[],fun _=>[Pen gp (l1++PH.bitsC p o)]]:List (Value->List Pr)).getD ix (fun _=>[]) vx) (fun ix=>([[],[],[],[],[],[],[],[],[],[Pen gp l1]]:List (List Pr)).getD ix []) 10 45
   [some 29,some 30,some 31,some 32,some 33,some 34,some 35,some 36,some 37,some 38]
   [[],[],[],[1,2],[3],[],[],[5,6],[7],[0,4,8]]
   [[],[],[],[1,2],[1,2,3],[],[],[5,6],[5,6,7],[0,1,2,3,4,5,6,7,8]]
   [[],[],[],[],[],[],[],[],[],[]]
   [[],[],[],[],[],[],[],[],[],[]]
   [(0,.int .i64 s),(4,.pointer (some ⟨pp,0,none⟩)),(7,.pointer (some ⟨pc,0,none⟩)),(8,.pointer (some ⟨pa,0,none⟩))]
   (by kernel_rfl) rfl (by decide) (by rfl) rfl (by decide +kernel) (by decide +kernel) (by rfl) rfl rfl (by decide) (by simp) (by rfl) (R.out) ?hstep ?hend
  case hstep =>
   refine⟨?_,⟨?_,⟨?_,⟨?_,⟨?_,⟨?_,⟨?_,⟨?_,⟨?_,⟨?_,trivial⟩⟩⟩⟩⟩⟩⟩⟩⟩⟩
   ·intro x wx A c g f i H K a;have e4:A.tmps[4]?.getD undef=.pointer (some ⟨pp,0,none⟩):=g (4,_) (by simp);have j:=hid a;clear a g f;have t:=i (fun w=>w.cell? ⟨pp,0,none⟩=some (.pointer (some ⟨gp,0,none⟩))) (fun w0 w h=>h.cell 4 rfl 0) _ _ H;refine so ?_;go_step;exact j.out _ _ rfl H
   ·intro x wx A c g f i H K a;have e7:A.tmps[7]?.getD undef=.pointer (some ⟨pc,0,none⟩):=g (7,_) (by simp);have j:=hid a;clear a g f;have t:=i (fun w=>w.cell? ⟨pc,0,none⟩=some (.slice (some u) nm cc)) (fun w0 w h=>h.cell 7 rfl 0) _ _ H;refine so ?_;go_step;exact j.out _ _ rfl H
   ·intro x wx A c g f i H K a;have e0:A.tmps[0]?.getD undef=.int .i64 s:=g (0,_) (by simp);have j:=hid a;clear a g f i;refine so ?_;go_step;exact j.out _ _ rfl H
   ·intro x wx A c g f i H K a;have c7:=tq f 1;have c8:=tq f 2;have j:=hid a;clear a g f i;refine so ?_;go_step;exact j.out _ _ rfl H
   ·intro x wx A c g f i H K a;have c9:=tq f 3;have j:=hid a;clear a g f;have t:=i _ U.out _ _ H;refine so ?_;go_step;exact j.out _ _ rfl H
   ·intro x wx A c g f i H K a;have e8:A.tmps[8]?.getD undef=.pointer (some ⟨pa,0,none⟩):=g (8,_) (by simp);have j:=hid a;clear a g f;have t:=i (fun w=>w.cell? ⟨pa,0,none⟩=some (.slice (some y) nm ca)) (fun w0 w h=>h.cell 8 rfl 0) _ _ H;refine so ?_;go_step;exact j.out _ _ rfl H
   ·intro x wx A c g f i H K a;have e0:A.tmps[0]?.getD undef=.int .i64 s:=g (0,_) (by simp);have j:=hid a;clear a g f i;refine so ?_;go_step;exact j.out _ _ rfl H
   ·intro x wx A c g f i H K a;have d0:=tq f 5;have d1:=tq f 6;have j:=hid a;clear a g f i;refine so ?_;go_step;exact j.out _ _ rfl H
   ·intro x wx A c g f i H K a;have d2:=tq f 7;have j:=hid a;clear a g f;have t:=i _ V.out _ _ H;refine so ?_;go_step;exact j.out _ _ rfl H
   ·intro x wx A c g f i H K a;have d3:=tq f 0;have d4:=tq f 4;have d5:=tq f 8;replace H:Sp w0 (_::c) wx:=H;have j:=hid a;clear a g f i;refine so ?_;go_wp2_with fail
    refine(Yb gp o p l1 H T.out (by omega) (by omega)).mono ?_;rintro _ w9 ⟨rfl,I⟩;exact j.out _ _ rfl I
  case hend =>
   intro x wx A hA f H;replace H:Sp w0 (_::(Bk g11 83 (sgC (s,v,b))::X::Bk pr 48 [.slice (some G) n cr]::Bk pi 3 [.int .i64 ((k+1:Nat):Int)]::Bk pp 42 [.pointer (some ⟨gp,0,none⟩)]::Bk pd 88 [.slice VD nd cd]::Bk pb 51 [.slice VB nd cb]::Bk pc 88 [.slice (some u) nm cc]::Bk pa 51 [.slice (some y) nm ca]::L)) wx:=H;clear f;simp only [putAll,Act.put,List.setIfInBounds_toArray,List.set_cons_succ,List.set_cons_zero,Nat.reduceAdd] at hA;subst hA;have N:=hid H;clear H R;have c4:wx.cell? ⟨pp,0,none⟩=some (.pointer (some ⟨gp,0,none⟩)):=N.out.cell 5 rfl 0;have c5:wx.cell? ⟨g11,1,none⟩=some (.int .i64 v):=N.out.cell 1 rfl 1;have c6:wx.cell? ⟨g11,2,none⟩=some (.int .i64 b):=N.out.cell 1 rfl 2;have Z:=hid (Zj gp v b _ N.out (by omega) (by rw [List.length_append,PH.bitsC_len]; omega));go_wp2_with fail
   refine Z.out.mono ?_;rintro _ w9 ⟨rfl,I⟩;go_wp2_with fail
   go_end0;have e:PI.sgW m d (s,v,b) false=PH.bitsC p o++PBits.bitsOf v b:=by
    rw [<- W.out,<- Y.out]; rfl
   rw [e,<- List.append_assoc];exact⟨rfl,I.pick 10 [2,3,4,5,6,7,8,9,0]⟩
end Go.Proofs.YteajimobgkempaaDoor

