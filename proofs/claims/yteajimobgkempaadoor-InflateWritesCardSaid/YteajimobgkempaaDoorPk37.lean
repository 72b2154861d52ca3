/- A pack. -/
import Derived.Deep.Fields
import Derived.Test.YteajimobgkempaaDoorPk21
import Derived.Test.YteajimobgkempaaDoorPk24
import Derived.Test.YteajimobgkempaaDoorPk36
set_option linter.all false
set_option maxRecDepth 100000
set_option maxHeartbeats 8000000
namespace Go.Proofs.YteajimobgkempaaDoor
variable {w0 w:World} {L:List Pr}
open Go.RowKit
theorem WT (q:Nat):IntKind.u32.wrap (q:Int)=((q % 4294967296:Nat):Int):=by rw [IntKind.wrap_u32']; omega
theorem Zj (gp n many:Nat) (l:List Bool) (H:Sp w0 (Pen gp l::L) w) (hm:many<=57) (hl:l.length+many<=100000000) :
  Calls Tryd.prog 13 #[.pointer (some ⟨gp,0,none⟩),.int .i64 n,.int .i64 many] w fun e w'=>e=.returned (.tuple #[])/\Sp w0 (Pen gp (l++PBits.bitsOf n many)::L) w':=by
 go_enter Tryd.func13,Tryd.ntmps13
 go_wp2_with fail
 go_loopw [6] (fun iv wr=>∃i:Nat,iv=.int .i64 i/\i<=many/\Sp w0 (Pen gp (l++PBits.bitsOf n i)::L) wr) (fun iv _=>many - (intOf iv).toNat)
 case atStart=>exact⟨0,rfl,Nat.zero_le _,by show Sp w0 (Pen gp (l++[])::L) _; rw [List.append_nil]; exact H⟩
 case round =>
  obtain⟨i,rfl,r,b⟩:=hrel;clear H;by_cases j:i<many
  ·have k:(i:Int)<(many:Int):=by omega
   obtain⟨q,c⟩:=exq (n / 2 ^ i);have s:(n:Int) / 2 ^ i=(q:Int):=by rw [<- c]; simp
   have o:=WT q;obtain⟨m,a⟩:=exq (q % 4294967296);rw [a] at o;have d:m<4294967296:=by omega
   have f:=Xf gp m _ b d (by rw [List.length_append,PBits.bitsOf_length]; omega);have g:(m % 2 == 1)=(n / 2 ^ i % 2 == 1):=by rw [c,show m % 2=q % 2 by omega]
   rw [g,List.append_assoc,<- PI.bitsOf_snoc] at f;have h:=hid f;clear f g c a b;go_wp2_with fail
   refine h.out.mono ?_;rintro _ t ⟨rfl,p⟩;clear h;go_wp2;go_roundw
   case rel=>exact⟨i+1,by go_num,by omega,p⟩
   case measure=>first | (simp [intOf]; omega) | simp [intOf]
  ·have k:¬ (i:Int)<(many:Int):=by omega
   obtain rfl:i=many:=by omega
   go_wp2_with fail
   go_end0;exact⟨rfl,b⟩
theorem Yb (gp c n:Nat) (l:List Bool) (H:Sp w0 (Pen gp l::L) w) (hc:c<4294967296) (hn:n<=31) (hl:l.length+n<=100000000) :
  Calls Tryd.prog 34 #[.pointer (some ⟨gp,0,none⟩),.int .u32 c,.int .i64 n] w fun e w'=>e=.returned (.tuple #[])/\Sp w0 (Pen gp (l++PH.bitsC n c)::L) w':=by
 go_enter Tryd.func34,Tryd.ntmps34
 go_wp2_with fail
 go_loopw [6] (fun iv wr=>∃j:Nat,iv=.int .i64 ((n:Int) - 1 - (j:Int))/\j<=n/\Sp w0 (Pen gp (l++(PH.bitsC n c).take j)::L) wr) (fun iv _=>(intOf iv+1).toNat)
 case atStart=>exact⟨0,by go_num,Nat.zero_le _,by show Sp w0 (Pen gp (l++[])::L) _; rw [List.append_nil]; exact H⟩
 case round =>
  obtain⟨j,rfl,t,a⟩:=hrel;clear H;by_cases f:j<n
  ·obtain⟨k,g⟩:=exq (n - 1 - j);have b:(n:Int) - 1 - (j:Int)=(k:Int):=by omega
   rw [b];obtain⟨q,d⟩:=exq (c / 2 ^ k);have u:(c:Int) / 2 ^ k=(q:Int):=by rw [<- d]; simp
   have h:q<4294967296:=by rw [<- d]; exact Nat.lt_of_le_of_lt (Nat.div_le_self _ _) hc
   have i:=Xf gp q _ a h (by rw [List.length_append,List.length_take,PH.bitsC_len]; omega);have m:(q % 2 == 1)=(c / 2 ^ (n - 1 - j) % 2 == 1):=by rw [g,d]
   rw [m,List.append_assoc,<- PI.bitsC_snoc n c j f] at i;have o:=hid i;have p:k<=30:=by omega
   clear i m d a;have r:=hid g;clear g b;go_wp2_with fail
   refine o.out.mono ?_;rintro _ v ⟨rfl,s⟩;clear o;go_wp2;go_roundw
   case rel=>exact⟨j+1,by have:=r.out; go_num,by omega,s⟩
   case measure=>first | (simp [intOf]; omega) | simp [intOf]
  ·obtain rfl:j=n:=by omega
   have b:(j:Int) - 1 - (j:Int) = -1:=by omega
   rw [b];have e:(PH.bitsC j c).take j=PH.bitsC j c:=List.take_of_length_le (by rw [PH.bitsC_len]; exact Nat.le_refl _);rw [e] at a;go_wp2_with fail
   go_end0;exact⟨rfl,a⟩
def sgC (x:PI.Sg):List Value:=[.int .i64 x.1,.int .i64 x.2.1,.int .i64 x.2.2]
def sgV (x:PI.Sg):Value:=.agg (sgC x).toArray
theorem Zh (x:PI.Sg):∀v ∈ sgC x,v.oneCell'=true:=by
 intro v a;rcases List.mem_cons.1 a with rfl | a
 ·rfl
 rcases List.mem_cons.1 a with rfl | a
 ·rfl
 ·rw [List.mem_singleton.1 a]; rfl
def cellsS (l:List PI.Sg):List Value:=l.flatMap sgC
namespace PI
theorem lengthsT_get:∀k,k<28->(lengthsT.getD k (0,0)).2=k / 4 - 1/\(lengthsT.getD k (0,0)).2<=5/\(lengthsT.getD k (0,0)).1<=227:=by decide
theorem awayT_get:∀k,k<30->(awayT.getD k (0,0)).2=k / 2 - 1/\(awayT.getD k (0,0)).2<=13/\(awayT.getD k (0,0)).1<=24577:=by decide
end PI
theorem Xw (n:Nat) (H:Sp w0 L w) (h1:3<=n) (h2:n<=258) :
  Calls Tryd.prog 30 #[.int .i64 n] w fun e w'=>e=.returned (sgV ((257+(PI.longS n).1,(PI.longS n).2.2,(PI.longS n).2.1):PI.Sg))/\Sp w0 L w':=by
 have B:=H.newBk [.int .i64 0,.int .i64 0,.int .i64 0] 83;obtain⟨g,hg⟩:=exq w.heap.size;rw [hg] at B;have C:∀(w9:World) (x:PI.Sg),Sp w0 (Bk g 83 (sgC x)::L) w9->∀A:Act,A.tmps[2]?.getD undef=.pointer (some ⟨g,0,none⟩)->True:=fun _ _ _ _ _=>trivial;clear C;go_enter Tryd.func30,Tryd.ntmps30
 by_cases D:n=258
 ·subst D;have m:=H.newBk (sgC ((285,0,0):PI.Sg)) 83;rw [hg] at m;clear B H;go_wp2_with fail
  change bodyPost _ _ _ _ _ (w.alloc (.cells (sgC ((285,0,0):PI.Sg)).toArray 83));generalize w.alloc _=w9 at m ⊢;have a:=run_loadCells_list (P:=Tryd.prog) w9 ⟨g,0,none⟩ (sgC ((285,0,0):PI.Sg)) (fun j v hj=>by rw [addr0,m.cell 0 rfl]; exact hj);rw [show(sgC ((285,0,0):PI.Sg)).length=3 from rfl] at a;refine bodyPost_ret (v:=sgV ((285,0,0):PI.Sg)) (by simp [results,Tryd.results30,Tryd.isAgg83,Tryd.sizeOf83,a,Result.andThen,sgV,asAddr,loadVar]) rfl ?_;exact⟨rfl,m.tail⟩
 have Q:n<258:=by omega
 have E:¬ (n:Int)=258:=by omega
 have R : ((n:Int) == 258)=false:=by rw [beq_eq_false_iff_ne]; exact E
 obtain⟨F,hF⟩:=exq (PI.findT PI.lengthsT n 27);have o:=hid hF;clear H hF;go_wp2_with fail
 generalize w.alloc _=w1 at B ⊢;go_loopw [3,4] (fun fv sv wr=>∃k:Nat,k<=F/\k<28/\fv=.int .i64 (((PI.lengthsT.getD k (0,0)).1:Nat):Int)/\sv=.int .i64 ((k+257:Nat):Int)/\Sp w0 (Bk g 83 [.int .i64 0,.int .i64 0,.int .i64 0]::L) wr) (fun _ sv _=>285 - (intOf sv).toNat)
 case atStart=>exact⟨0,Nat.zero_le _,by omega,rfl,rfl,B⟩
 case round =>
  obtain⟨k,G,S,rfl,rfl,T⟩:=hrel;clear B;obtain⟨p,U,V⟩:=PI.lengthsT_get k S;have b:=PI.stop_yes PI.lengths_steps n 27 k rfl (by show 3<=n; exact h1) (by rw [o.out]; exact G);have c:=PI.stop_no PI.lengths_steps n 27 k rfl (by show 3<=n; exact h1) (by show n<_ ; simp [PI.lengthsT]; omega) (by rw [o.out]; exact G);obtain⟨I,q⟩:=exq ((PI.lengthsT.getD k (0,0)).1);obtain⟨i,r⟩:=exq ((PI.lengthsT.getD k (0,0)).2);rw [q] at b c V ⊢;rw [r] at b c p U;obtain⟨pw,h⟩:∃pw:Nat,2 ^ i=pw:=⟨_,rfl⟩;rw [h] at b c;have a3:pw<=2 ^ 13:=by rw [<- h]; exact Nat.pow_le_pow_right (by decide) (by omega)
  have W:Hid ((2:Int) ^ i=(pw:Int)):=by rw [<- h]; exact hid (by simp)
  obtain⟨k4,J⟩:=exq (k / 4);rw [J] at p;obtain⟨z,s⟩:=exq (k+257);rw [s];have y1:(z:Int) - 257=(k:Int):=by omega
  have y2:(k:Int) / 4=(k4:Int):=by omega
  have y3:max (0:Int) ((k4:Int) - 1)=(i:Int):=by omega
  have X:=hid b;have Y:=hid c;have K:=hid q;have Z:=hid r;have t:=hid s;have a4:=W.out;clear b c q r h s p J;obtain⟨fp,M⟩:=exq (I+pw);have y4:(I:Int)+(pw:Int)=(fp:Int):=by omega
  have u:=hid M;clear M;by_cases a5:n<fp
  ·have k1:(n:Int)<(fp:Int):=by omega
   have y:k=F:=by rw [<- o.out]; exact X.out (by have:=u.out; omega)
   have a6:I<=n:=by
    have f:=PI.findT_spec PI.lengthsT n 27 (by show 3<=n; exact h1);rw [o.out,<- y,K.out] at f;exact f.2.1
   obtain⟨d,hd⟩:=exq (n - I);have y5:(n:Int) - (I:Int)=(d:Int):=by omega
   have HD:=hid hd;have a0:=hid T;have a1:=hid y;clear hd T y;go_wp2_with (refine Za rfl 83 _ _ rfl g 83 _ (sgC ((z,d,i):PI.Sg)) rfl rfl a0.out rfl Tryd.sizeOf83 (Zh _) ?_)
   intro w9 m;go_wp2_with fail
   have a:=run_loadCells_list (P:=Tryd.prog) w9 ⟨g,0,none⟩ (sgC ((z,d,i):PI.Sg)) (fun j v hj=>by rw [addr0,m.cell 0 rfl]; exact hj);rw [show(sgC ((z,d,i):PI.Sg)).length=3 from rfl] at a;refine bodyPost_ret (v:=sgV ((z,d,i):PI.Sg)) (by simp [results,Tryd.results30,Tryd.isAgg83,Tryd.sizeOf83,a,Result.andThen,sgV,asAddr,loadVar]) rfl ?_;refine⟨?_,m.tail⟩;have e:((z,d,i):PI.Sg)=((257+(PI.longS n).1,(PI.longS n).2.2,(PI.longS n).2.1):PI.Sg):=by
    simp only [PI.longS,if_neg (show ¬ n=258 by omega)];rw [o.out,<- a1.out,K.out,Z.out,HD.out];rw [Nat.add_comm 257 k,t.out]
   rw [e]
  ·have k1:¬ (n:Int)<(fp:Int):=by omega
   obtain⟨N,O⟩:=Y.out (by have:=u.out; omega);rw [o.out] at N;have a7:F<=27:=by
    have f:=PI.findT_spec PI.lengthsT n 27 (by show 3<=n; exact h1);rw [o.out] at f;exact f.1
   have l:(PI.lengthsT.getD (k+1) (0,0)).1=fp:=by rw [O,u.out]
   have a2:=hid l;clear O l;go_wp2_with fail
   go_roundw
   case rel=>exact⟨k+1,N,by omega,by rw [a2.out],by have:=t.out; go_num,T⟩
   case measure=>have:=t.out; first | (simp [intOf]; omega) | simp [intOf]
theorem Wp (n:Nat) (H:Sp w0 L w) (h1:1<=n) (h2:n<=32768) :
  Calls Tryd.prog 31 #[.int .i64 n] w fun e w'=>e=.returned (sgV (((PI.farS n).1,(PI.farS n).2.2,(PI.farS n).2.1):PI.Sg))/\Sp w0 L w':=by
 have K:=H.newBk [.int .i64 0,.int .i64 0,.int .i64 0] 83;obtain⟨g,hg⟩:=exq w.heap.size;rw [hg] at K;have y:∀(w9:World) (x:PI.Sg),Sp w0 (Bk g 83 (sgC x)::L) w9->∀A:Act,A.tmps[2]?.getD undef=.pointer (some ⟨g,0,none⟩)->True:=fun _ _ _ _ _=>trivial;clear y;go_enter Tryd.func31,Tryd.ntmps31
 have M:True:=by trivial
 obtain⟨F,Z⟩:=exq (PI.findT PI.awayT n 29);have l:=hid Z;clear H Z;go_wp2_with fail
 generalize w.alloc _=w1 at K ⊢;go_loopw [3,4] (fun fv sv wr=>∃k:Nat,k<=F/\k<30/\fv=.int .i64 (((PI.awayT.getD k (0,0)).1:Nat):Int)/\sv=.int .i64 ((k+0:Nat):Int)/\Sp w0 (Bk g 83 [.int .i64 0,.int .i64 0,.int .i64 0]::L) wr) (fun _ sv _=>30 - (intOf sv).toNat)
 case atStart=>exact⟨0,Nat.zero_le _,by omega,rfl,rfl,K⟩
 case round =>
  obtain⟨k,z,N,rfl,rfl,O⟩:=hrel;clear K;obtain⟨m,Q,R⟩:=PI.awayT_get k N;have a:=PI.stop_yes PI.away_steps n 29 k rfl (by show 1<=n; exact h1) (by rw [l.out]; exact z);have b:=PI.stop_no PI.away_steps n 29 k rfl (by show 1<=n; exact h1) (by show n<_ ; simp [PI.awayT]; omega) (by rw [l.out]; exact z);obtain⟨B,o⟩:=exq ((PI.awayT.getD k (0,0)).1);obtain⟨h,p⟩:=exq ((PI.awayT.getD k (0,0)).2);rw [o] at a b R ⊢;rw [p] at a b m Q;obtain⟨pw,f⟩:∃pw:Nat,2 ^ h=pw:=⟨_,rfl⟩;rw [f] at a b;have a0:pw<=2 ^ 13:=by rw [<- f]; exact Nat.pow_le_pow_right (by decide) (by omega)
  have S:Hid ((2:Int) ^ h=(pw:Int)):=by rw [<- f]; exact hid (by simp)
  obtain⟨k4,C⟩:=exq (k / 2);rw [C] at m;obtain⟨u,q⟩:=exq (k+0);rw [q];have y1:True:=by trivial
  have y2:(u:Int) / 2=(k4:Int):=by omega
  have y3:max (0:Int) ((k4:Int) - 1)=(h:Int):=by omega
  have T:=hid a;have U:=hid b;have D:=hid o;have V:=hid p;have r:=hid q;have a1:=S.out;clear a b o p f q m C;obtain⟨fp,E⟩:=exq (B+pw);have y4:(B:Int)+(pw:Int)=(fp:Int):=by omega
  have s:=hid E;clear E;by_cases a2:n<fp
  ·have k1:(n:Int)<(fp:Int):=by omega
   have t:k=F:=by rw [<- l.out]; exact T.out (by have:=s.out; omega)
   have a3:B<=n:=by
    have c:=PI.findT_spec PI.awayT n 29 (by show 1<=n; exact h1);rw [l.out,<- t,D.out] at c;exact c.2.1
   obtain⟨d,hd⟩:=exq (n - B);have y5:(n:Int) - (B:Int)=(d:Int):=by omega
   have HD:=hid hd;have W:=hid O;have X:=hid t;clear hd O t;go_wp2_with (refine Za rfl 83 _ _ rfl g 83 _ (sgC ((u,d,h):PI.Sg)) rfl rfl W.out rfl Tryd.sizeOf83 (Zh _) ?_)
   intro w9 H9;go_wp2_with fail
   have G:=run_loadCells_list (P:=Tryd.prog) w9 ⟨g,0,none⟩ (sgC ((u,d,h):PI.Sg)) (fun j v hj=>by rw [addr0,H9.cell 0 rfl]; exact hj);rw [show(sgC ((u,d,h):PI.Sg)).length=3 from rfl] at G;refine bodyPost_ret (v:=sgV ((u,d,h):PI.Sg)) (by simp [results,Tryd.results31,Tryd.isAgg83,Tryd.sizeOf83,G,Result.andThen,sgV,asAddr,loadVar]) rfl ?_;refine⟨?_,H9.tail⟩;have e:((u,d,h):PI.Sg)=(((PI.farS n).1,(PI.farS n).2.2,(PI.farS n).2.1):PI.Sg):=by
    simp only [PI.farS];rw [l.out,<- X.out,D.out,V.out,HD.out];have:=r.out; simp at this; rw [this]
   rw [e]
  ·have k1:¬ (n:Int)<(fp:Int):=by omega
   obtain⟨I,J⟩:=U.out (by have:=s.out; omega);rw [l.out] at I;have a4:F<=29:=by
    have c:=PI.findT_spec PI.awayT n 29 (by show 1<=n; exact h1);rw [l.out] at c;exact c.1
   have i:(PI.awayT.getD (k+1) (0,0)).1=fp:=by rw [J,s.out]
   have Y:=hid i;clear J i;go_wp2_with fail
   go_roundw
   case rel=>exact⟨k+1,I,by omega,by rw [Y.out],by have:=r.out; go_num,O⟩
   case measure=>have:=r.out; first | (simp [intOf]; omega) | simp [intOf]
theorem ZP {P:Program} {o:Oper} {a:Act} {K:Act->World->Prop} {Q:Exit->Act->World->Prop} (l c:Operand) (t:TypeId) (hop:o.op=Op.makeSlice t l c)
  (e:TypeId) (i:TypeInfo) (z:Value) (h1:P.underlying t=some (.slice e)) (h2:P.info? e=some i) (h3:i.zero=some z) (h4:i.size=1) (hz1:z.cells=#[z])
  (n:Nat) (hl:a.eval l=.int .i64 n) (hc:a.eval c=.int .i64 n) (b2:i.bytes * n<=281474976710656) (b3:n<=maxLen) (H:Sp w0 L w)
  (hK:∀(ad:Addr) w',Sp w0 (Row e 1 (.slice (some ad) n n) n (List.replicate n z)::L) w'->K (a.put o.dst (.slice (some ad) n n)) w') :
  o.wp P a w K Q:=by
 have b:=run_make (P:=P) w t e i z h1 h2 h3 .i64 .i64 (n:Int) (n:Int) (by omega) (Int.le_refl _) (by rw [<- Int.natCast_mul]; omega) (by have h3:=b3; unfold maxLen at h3; omega);rw [hz1,h4,Nat.mul_one,show((n:Int)).toNat=n from rfl] at b;have d:=(H.newBk (List.replicate n z) e).bkRow 1 n (by rw [List.length_replicate,Nat.mul_one]) b3;unfold Oper.wp;simp [execOp,hop,hl,hc,b,Result.andThen];refine hK _ _ ?_;have f:madeCells #[z] n=(List.replicate n z).toArray:=by rw [<- toList_madeCells_one]
 rw [f];exact d
theorem Z1 (A:Option Addr) (n c:Nat) (m:List Nat) (H:Sp w0 L w) (hn:n=m.length) (hb:Ent L fun w=>Rd w A (cellsN m)) (hl:n<=1024) (h15:∀x ∈ m,x<=15) (hs:PH.sum m<=32768) :
  Calls Tryd.prog 33 #[.slice A n c] w fun e w'=>∃v,e=.returned v/\Sp w0 (Row 47 1 v n (rowU (PH.codeAt m) n)::L) w':=by
 have a:=hid (WG A n c m H hn (by rw [cellsN_cast]; exact hb) hl h15 hs);clear hb hn hs h15;go_enter Tryd.func33,Tryd.ntmps33
 go_wp2_with fail
 refine a.out.mono ?_;rintro _ d ⟨v,rfl,b⟩;obtain⟨V,f,rfl,_,_⟩:=Row.form b 0 rfl;clear a;have g:((n:Int) != (n:Int))=false:=by simp
 go_wp2_with fail
 go_ret;exact⟨_,rfl,b⟩
theorem YQ (A:Option Addr) (n c:Nat) (cs:List Nat) (lm:Nat) (H:Sp w0 L w) (hn:n=cs.length) (hb:Ent L fun w=>Rd w A (cellsN cs)) (hl:n<=1024) (h1:1<=lm) (h15:lm<=15) (hc:∀x ∈ cs,x<=4294967296) (hk:n<=2 ^ lm) :
  Calls Tryd.prog 19 #[.slice A n c,.int .i64 lm] w fun e w'=>∃v,e=.returned v/\Sp w0 (Row 3 1 v n (cellsN (PL.lens cs lm))::L) w':=by
 have a:=hid (XF A n c cs lm H hn (by have e:cells64 (castN cs)=cellsN cs:=cellsN_cast cs; rw [e]; exact hb) hl h1 h15 hc (Nat.le_trans (PI.items_le _) (by omega)));clear hb hn hc hk;go_enter Tryd.func19,Tryd.ntmps19
 go_wp2_with fail
 refine a.out.mono ?_;rintro _ d ⟨v,rfl,b⟩;obtain⟨V,f,rfl,_,_⟩:=Row.form b 0 rfl;clear a;have g:((n:Int) != (n:Int))=false:=by simp
 go_wp2_with fail
 go_ret;exact⟨_,rfl,b⟩
def rowF (f:Nat->Nat) (n i:Nat):List Nat:=(List.range n).map fun j=>if j<i then f j else 0
theorem Xx (f:Nat->Nat) (n i:Nat) (h:i<n):(cellsN (rowF f n i)).set i (.int .i64 (f i:Int))=cellsN (rowF f n (i+1)):=by
 refine List.ext_getElem (by simp [cellsN,rowF]) fun j h1 h2=>?_;rw [List.getElem_set];simp only [cellsN,rowF,List.getElem_map,List.getElem_range];by_cases e:i=j
 ·subst e; rw [if_pos rfl,if_pos (by omega)]
 ·rw [if_neg e];by_cases a:j<i
  ·rw [if_pos a,if_pos (by omega)]
  ·rw [if_neg a,if_neg (by omega)]
theorem Y2 (f:Nat->Nat) (n:Nat):List.replicate n (Value.int .i64 0)=cellsN (rowF f n 0):=by
 refine List.ext_getElem (by simp [cellsN,rowF]) fun j h1 h2=>?_;simp [cellsN,rowF]
theorem Xy (f:Nat->Nat) (n:Nat):rowF f n n=(List.range n).map f:=by
 refine List.map_congr_left fun j hj=>?_;rw [if_pos (List.mem_range.1 hj)]
def f8 (j:Nat):Nat:=if j<144 then 8 else if j<256 then 9 else if j<280 then 7 else 8
def f5 (_:Nat):Nat:=5
theorem Vz:(List.range 288).map f8=PI.fixedL:=by decide +kernel
theorem VE:(List.range 32).map f5=PI.fixedD:=by decide +kernel
theorem Y3 (H:Sp w0 L w) :
  Calls Tryd.prog 16 #[] w fun e w'=>∃v1 v2,e=.returned (.tuple #[v1,v2])/\Sp w0 (Row 3 1 v1 288 (cellsN PI.fixedL)::Row 3 1 v2 32 (cellsN PI.fixedD)::L) w':=by
 obtain⟨W,X,t,y,z⟩:=info_parts infoJ;go_enter Tryd.func16,Tryd.ntmps16
 go_wp2_with fail
 refine Zg (L:=L) (fun ix vx=>([(fun u=>∃ad,u=.slice (some ad) 288 288),(fun u=>∃ad,u=.slice (some ad) 32 32),(fun u=>∃ad,u=.slice (some ad) 288 288),(fun u=>∃ad,u=.slice (some ad) 32 32)]:List (Value->Prop)).getD ix (fun _=>True) vx)
  (fun ix vx=>([fun u=>[Row 3 1 u 288 (List.replicate 288 (.int .i64 0))],fun u=>[Row 3 1 u 32 (List.replicate 32 (.int .i64 0))],fun u=>[Row 3 1 u 288 (List.replicate 288 (.int .i64 0))],fun u=>[Row 3 1 u 32 (List.replicate 32 (.int .i64 0))]]:List (Value->List Pr)).getD ix (fun _=>[]) vx) (fun ix=>([[],[],[],[]]:List (List Pr)).getD ix []) 4 46
  [some 6,some 7,some 2,some 3]
  [[],[],[0,0],[1,2,0,1,2]]
  [[],[],[0],[0,1,2]]
  [[],[],[0],[1]]
  [[],[],[],[]]
  []
  (by kernel_rfl) rfl (by decide) (by rfl) rfl (by decide +kernel) (by decide +kernel) (by rfl) rfl rfl (by decide) (by simp) (by rfl) (H) ?hstep ?hend
 case hstep =>
  refine⟨?_,⟨?_,⟨?_,⟨?_,trivial⟩⟩⟩⟩
  ·intro x wx A a n j o H K b;have p:Hid (∀(v:Value) (w' : World),(fun u=>∃ad,u=.slice (some ad) 288 288) v->Sp w0 ((Row 3 1 v 288 (List.replicate 288 (.int .i64 0)))::a) w'->K (A.put (some 6) v) w'):=hid b;clear b n j o;refine so ?_;refine ZP _ _ 51 rfl 3 W (.int .i64 0) Tryd.underlying51 X t y rfl 288 rfl rfl (by rw [z]; omega) (by unfold maxLen; omega) H ?_;intro ad w9 N;exact p.out _ _ ⟨ad,rfl⟩ N
  ·intro x wx A a n j o H K b;have p:Hid (∀(v:Value) (w' : World),(fun u=>∃ad,u=.slice (some ad) 32 32) v->Sp w0 ((Row 3 1 v 32 (List.replicate 32 (.int .i64 0)))::a) w'->K (A.put (some 7) v) w'):=hid b;clear b n j o;refine so ?_;refine ZP _ _ 51 rfl 3 W (.int .i64 0) Tryd.underlying51 X t y rfl 32 rfl rfl (by rw [z]; omega) (by unfold maxLen; omega) H ?_;intro ad w9 N;exact p.out _ _ ⟨ad,rfl⟩ N
  ·intro x wx A a n j o H K b;have q6:=(j 0 (by decide)).1;have e6:=(j 0 (by decide)).2 6 rfl;replace H:Sp w0 ((Row 3 1 (x 0) 288 (List.replicate 288 (.int .i64 0)))::a) wx:=H;have p:Hid (∀(v:Value) (w' : World),(fun u=>∃ad,u=.slice (some ad) 288 288) v->Sp w0 ((Row 3 1 v 288 (List.replicate 288 (.int .i64 0)))::a) w'->K (A.put (some 2) v) w'):=hid b;clear b n j o;obtain⟨ad,O⟩:=q6;rw [O] at H e6;refine so ?_;go_step;exact p.out _ _ ⟨ad,rfl⟩ H
  ·intro x wx A a n j o H K b;have q7:=(j 1 (by decide)).1;have e7:=(j 1 (by decide)).2 7 rfl;replace H:Sp w0 ((Row 3 1 (x 1) 32 (List.replicate 32 (.int .i64 0)))::a) wx:=H;have p:Hid (∀(v:Value) (w' : World),(fun u=>∃ad,u=.slice (some ad) 32 32) v->Sp w0 ((Row 3 1 v 32 (List.replicate 32 (.int .i64 0)))::a) w'->K (A.put (some 3) v) w'):=hid b;clear b n j o;obtain⟨ad,O⟩:=q7;rw [O] at H e7;refine so ?_;go_step;exact p.out _ _ ⟨ad,rfl⟩ H
 case hend =>
  intro x wx A Y j H;replace H:Sp w0 ((Row 3 1 (x 2) 288 (List.replicate 288 (.int .i64 0)))::(Row 3 1 (x 3) 32 (List.replicate 32 (.int .i64 0)))::L) wx:=H;have y2:∃ad,(x 2)=.slice (some ad) 288 288:=j 2 (by decide);have y3:∃ad,(x 3)=.slice (some ad) 32 32:=j 3 (by decide);clear j;simp only [putAll,Act.put,List.setIfInBounds_toArray,List.set_cons_succ,List.set_cons_zero,Nat.reduceAdd] at Y;subst Y;obtain⟨P,B⟩:=y2;obtain⟨Q,C⟩:=y3;rw [B,C] at H ⊢;have Z:=hid H;clear H B C;go_wp2_with fail
  go_loopw [4,10] (fun _ iv wr=>∃i:Nat,iv=.int .i64 i/\i<=288/\Sp w0 (Row 3 1 (.slice (some P) 288 288) 288 (cellsN (rowF f8 288 i))::Row 3 1 (.slice (some Q) 32 32) 32 (List.replicate 32 (.int .i64 0))::L) wr) (fun _ iv _=>288 - (intOf iv).toNat)
  case atStart=>exact⟨0,rfl,Nat.zero_le _,by rw [<- Y2]; exact Z.out⟩
  case round =>
   obtain⟨i,rfl,R,q⟩:=hrel;clear Z;by_cases d:i<288
   ·have S:(i:Int)<288:=by omega
    obtain⟨D,c9,f,_,c,E,g⟩:=q.rowSet d;injection f with f _ _
    injection f with f
    subst f;have r:=g (.int .i64 8);obtain⟨D,c9,f,_,l,T,k⟩:=r.rowSet d;injection f with f _ _
    injection f with f
    subst f;have s:=Xx f8 288 i d;have J:=hid s;rw [List.getElem?_set,if_pos rfl,if_pos (by simp [cellsN,rowF]; omega)] at l;have U:(wr.cell? (P.add i))=some (.int .i64 0):=by
     rw [c]; simp [cellsN,rowF,d]
    have m:=hid r;have F:=hid k;clear g k s c r;by_cases M:i<144
    ·have k2:¬ (i:Int)≥144:=by omega
     have k3:¬ (i:Int)≥256:=by omega
     go_wp2_with fail
     go_roundw
     case rel =>
      refine⟨i+1,by go_num,by omega,?_⟩;have h:=J.out;rw [show f8 i=8 by simp [f8,M]] at h;rw [<- h];exact m.out
     case measure=>first | (simp [intOf]; omega) | simp [intOf]
    ·have k2:(i:Int)≥144:=by omega
     by_cases V:i<256
     ·have k3:(i:Int)<256:=by omega
      have k4:¬ (i:Int)≥256:=by omega
      go_wp2_with fail
      go_roundw
      case rel =>
       refine⟨i+1,by go_num,by omega,?_⟩;have h:=J.out;rw [show f8 i=9 by simp [f8,M,V]] at h;have G:=F.out (.int .i64 9);rw [List.set_set] at G;rw [<- h];exact G
      case measure=>first | (simp [intOf]; omega) | simp [intOf]
     ·have k3:¬ (i:Int)<256:=by omega
      have k4:(i:Int)≥256:=by omega
      by_cases h3:i<280
      ·have k5:(i:Int)<280:=by omega
       go_wp2_with fail
       go_roundw
       case rel =>
        refine⟨i+1,by go_num,by omega,?_⟩;have h:=J.out;rw [show f8 i=7 by simp [f8,M,V,h3]] at h;have G:=F.out (.int .i64 7);rw [List.set_set] at G;rw [<- h];exact G
       case measure=>first | (simp [intOf]; omega) | simp [intOf]
      ·have k5:¬ (i:Int)<280:=by omega
       go_wp2_with fail
       go_roundw
       case rel =>
        refine⟨i+1,by go_num,by omega,?_⟩;have h:=J.out;rw [show f8 i=8 by simp [f8,M,V,h3]] at h;rw [<- h];exact m.out
       case measure=>first | (simp [intOf]; omega) | simp [intOf]
   ·have S:¬ (i:Int)<288:=by omega
    obtain rfl:i=288:=by omega
    rw [Xy,Vz,Y2 f5 32] at q;go_wp2_with fail
    go_loopw [5,37] (fun _ iv wr=>∃i:Nat,iv=.int .i64 i/\i<=32/\Sp w0 (Row 3 1 (.slice (some Q) 32 32) 32 (cellsN (rowF f5 32 i))::Row 3 1 (.slice (some P) 288 288) 288 (cellsN PI.fixedL)::L) wr) (fun _ iv _=>32 - (intOf iv).toNat)
    case atStart=>exact⟨0,rfl,Nat.zero_le _,q.swap⟩
    case round =>
     obtain⟨i,rfl,a0,q⟩:=hrel;by_cases d:i<32
     ·have S:(i:Int)<32:=by omega
      obtain⟨D,c9,f,_,c,E,g⟩:=q.rowSet d;injection f with f _ _
      injection f with f
      subst f;have U:(wr.cell? (Q.add i))=some (.int .i64 0):=by
       rw [c]; simp [cellsN,rowF,d]
      have r:=g (.int .i64 5);have s:=Xx f5 32 i d;have e5:f5 i=5:=rfl;rw [e5] at s;have I:(cellsN (rowF f5 32 i)).set i (.int .i64 5)=cellsN (rowF f5 32 (i+1)):=s;rw [I] at r;have m:=hid r;clear g s I c r;go_wp2_with fail
      go_roundw
      case rel=>exact⟨i+1,by go_num,by omega,m.out⟩
      case measure=>first | (simp [intOf]; omega) | simp [intOf]
     ·have S:¬ (i:Int)<32:=by omega
      obtain rfl:i=32:=by omega
      rw [Xy,VE] at q;go_wp2_with fail
      go_ret2;exact⟨_,_,rfl,q.swap⟩
open Go.ChangeShapes Go.WideShapes Go.ChangeAt Go.RowKit Go.Deep
section
variable {H:Type} {enc:TypeId × Value->H} {P:Program} {w:World} {base:Nat} {spare:Nat->Bool} {held:Bool}
theorem Wq {α:Type} [Inhabited α] (f:α->Value) (Good:α->Prop) {t e:TypeId} {A:Option Addr} {len cap:Nat} {fuel:Nat} {x:DataW H × List MemPlace} (ht:P.underlying t=some (.slice e)) (hC:P.cellsOf e=1)
  (hel:∀n c y,DataW.trod enc P w base (fun _=>true) held n e [c]=some y->∃p,c=f p/\Good p)
  (h:DataW.trod enc P w base (fun _=>true) held fuel t [.slice A len cap]=some x):∃ps:List α,Rd w A (ps.map f)/\len=ps.length/\len<=cap/\cap<=maxLen/\∀p ∈ ps,Good p:=by
 rcases open_slice ht h with ⟨hcs,_⟩ | ⟨a,l,c,m,n,D,Pl,hcs,hb,hl,hm,hmm,_,hi⟩
 ·have:A=none/\len=0/\cap=0:=by simpa using hcs
  obtain⟨rfl,rfl,rfl⟩:=this;exact⟨[],Rd.nil,rfl,Nat.le_refl _,by simp [maxLen],fun p h=>by cases h⟩
 ·have:A=some a/\len=l/\cap=c:=by simpa using hcs
  obtain⟨rfl,rfl,rfl⟩:=this;rw [if_pos rfl] at hmm;have o:∀i,i<len->∃p:α,w.cell? (a.add i)=some (f p)/\Good p:=by
   intro i z;obtain⟨q,v,r⟩:=hi i (by omega);rw [hC,Nat.mul_one] at v;obtain⟨_,b,s⟩:=World.cells?_some v
   match q,b with
   | [c0],_ =>
    obtain⟨p,rfl,d⟩:=hel _ _ _ r;have c0:=s 0 (by simp);rw [Go.Addr.add_add] at c0;exact⟨p,by simpa using c0,d⟩
  obtain⟨g,d⟩:=choose_lt o;refine⟨(List.range len).map g,fun _=>⟨a,rfl,fun j u hu=>?_⟩,by simp,hl,hm,fun p hp=>?_⟩
  ·rw [List.map_map,List.getElem?_map] at hu;have k:j<len:=by
    rcases Nat.lt_or_ge j len with h | h
    ·exact h
    ·rw [List.getElem?_eq_none (by simp; omega)] at hu; simp at hu
   rw [List.getElem?_range k] at hu;simp only [Option.map_some,Function.comp_apply,Option.some.injEq] at hu;rw [<- hu];exact(d j k).1
  ·obtain⟨j,k,rfl⟩:=List.mem_map.1 hp;exact(d j (List.mem_range.1 k)).2
end
theorem Rd.same {W:World} {A:Option Addr} {xs:List Value} (h:Rd W A xs) (k:Nat) (hk:L[k]?=some (Same W)):Ent L (fun w=>Rd w A xs) :=
 Ent.of_same k hk fun _ hs=>h.keep fun p _ _ hp=>World.cell?_of_block (hs p.block (Zz hp))
open Go.ChangeShapes Go.WideShapes Go.ChangeAt Go.RowKit Go.Deep
structure PartV where
 p:PI.WPart
 bv:Value
 cv:Value
instance:Inhabited PartV:=⟨⟨⟨0,[],[]⟩,undef,undef⟩⟩
def cellsPr (l:List (Nat × Nat)):List Value:=l.flatMap fun c=>[.int .u16 c.1,.int .u16 c.2]
def PartV.cells (x:PartV):List Value:=[.int .u8 x.p.kind,x.bv,x.cv]
def PartV.Ok (w:World) (x:PartV):Prop:=x.p.kind<256/\Byt w x.bv x.p.bytes/\(∃A c,x.cv=.slice A x.p.copies.length c/\Rd w A (cellsPr x.p.copies)/\x.p.copies.length<=c/\c<=maxLen)/\∀c ∈ x.p.copies,c.1<65536/\c.2<65536
theorem ZQ {α β:Type} (f:α->List β) (z:Nat) (hf:∀p,(f p).length=z):∀(ps:List α) (i j:Nat),j<z->i<ps.length->∃p,ps[i]?=some p/\(ps.flatMap f)[i * z+j]?=(f p)[j]?:=by
 intro ps;induction ps with
 | nil=>intro i j _ h; cases h
 | cons p ps ih =>
  intro i j a b;rw [List.flatMap_cons];cases i with
  | zero=>exact⟨p,rfl,by rw [Nat.zero_mul,Nat.zero_add,List.getElem?_append_left (by rw [hf]; exact a)]⟩
  | succ i =>
   obtain⟨q,c,d⟩:=ih i j a (by simpa using b);refine⟨q,c,?_⟩;rw [List.getElem?_append_right (by rw [hf,Nat.succ_mul]; omega),hf,show(i+1) * z+j - z=i * z+j by rw [Nat.succ_mul]; omega];exact d
theorem ZC {α β:Type} (f:α->List β) (z:Nat) (hf:∀p,(f p).length=z) (ps:List α):(ps.flatMap f).length=ps.length * z:=by
 induction ps with
 | nil=>simp
 | cons p ps ih=>rw [List.flatMap_cons,List.length_append,hf,ih,List.length_cons,Nat.succ_mul,Nat.add_comm]
section
variable {H:Type} {enc:TypeId × Value->H} {P:Program} {w:World} {base:Nat} {spare:Nat->Bool} {held:Bool}
theorem Yo {α:Type} [Inhabited α] (z:Nat) (hz:0<z) (f:α->List Value) (hf:∀p,(f p).length=z) (Good:α->Prop) {t e:TypeId} {A:Option Addr} {len cap:Nat} {fuel:Nat} {x:DataW H × List MemPlace} (ht:P.underlying t=some (.slice e)) (hC:P.cellsOf e=z)
  (hel:∀n cs y,cs.length=z->DataW.trod enc P w base (fun _=>true) held n e cs=some y->∃p,cs=f p/\Good p)
  (h:DataW.trod enc P w base (fun _=>true) held fuel t [.slice A len cap]=some x):∃ps:List α,Rd w A (ps.flatMap f)/\len=ps.length/\len<=cap/\cap<=maxLen/\∀p ∈ ps,Good p:=by
 rcases open_slice ht h with ⟨hcs,_⟩ | ⟨a,l,c,m,n,D,Pl,hcs,hb,hl,hm,hmm,_,hi⟩
 ·have:A=none/\len=0/\cap=0:=by simpa using hcs
  obtain⟨rfl,rfl,rfl⟩:=this;exact⟨[],Rd.nil,rfl,Nat.le_refl _,by simp [maxLen],fun p h=>by cases h⟩
 ·have:A=some a/\len=l/\cap=c:=by simpa using hcs
  obtain⟨rfl,rfl,rfl⟩:=this;rw [if_pos rfl] at hmm;have r:∀i,i<len->∃p:α,(∀j,j<z->w.cell? (a.add (i * z+j))=(f p)[j]?)/\Good p:=by
   intro i I;obtain⟨J,C,s⟩:=hi i (by omega);rw [hC] at C;obtain⟨_,b,v⟩:=World.cells?_some C;obtain⟨p,rfl,q⟩:=hel _ _ _ b s;refine⟨p,fun j hj=>?_,q⟩;have:=v j hj;rw [Go.Addr.add_add] at this;exact this
  obtain⟨g,q⟩:=choose_lt r;refine⟨(List.range len).map g,fun _=>⟨a,rfl,fun k u hu=>?_⟩,by simp,hl,hm,fun p hp=>?_⟩
  ·have K:k<len * z:=by
    have d:=(List.getElem?_eq_some_iff.1 hu).1;rw [ZC f z hf] at d;simpa using d
   have B:k / z<len:=(Nat.div_lt_iff_lt_mul hz).2 K;have E:k % z<z:=Nat.mod_lt _ hz;have o:k / z * z+k % z=k:=by rw [Nat.mul_comm]; exact Nat.div_add_mod k z
   obtain⟨p,d,F⟩:=ZQ f z hf ((List.range len).map g) (k / z) (k % z) E (by simpa using B);rw [o,hu] at F;have L:p=g (k / z):=by
    rw [List.getElem?_map,List.getElem?_range B] at d;exact(Option.some.inj d).symm
   have G:=(q (k / z) B).1 (k % z) E;rw [o] at G;rw [G,F,L]
  ·obtain⟨j,hj,rfl⟩:=List.mem_map.1 hp;exact(q j (List.mem_range.1 hj)).2
theorem Wr {e eu:TypeId} (he:P.underlying e=some (.array 2 eu)) (h2:P.cellsOf eu=1) (hu:P.underlying eu=some (.int .u16)) (n:Nat) (cs:List Value) (y:DataW H × List MemPlace) (hl:cs.length=2) (h:DataW.trod enc P w base (fun _=>true) held n e cs=some y) :
  ∃p:Nat × Nat,cs=[.int .u16 p.1,.int .u16 p.2]/\p.1<65536/\p.2<65536:=by
 obtain⟨o,m,_,rfl,_,c,j⟩:=DataW.trod_array he h
 match cs,hl,o,c with
 | [c0,c1],_,[y0,y1],_ =>
  have d:=j 0 (by omega);have f:=j 1 (by omega);rw [h2] at d f;replace d:DataW.trod enc P w base (fun _=>true) held m eu [c0]=some y0:=d;replace f:DataW.trod enc P w base (fun _=>true) held m eu [c1]=some y1:=f;obtain⟨a,g,_,q⟩:=DataW.trod_int hu d;obtain⟨b,i,_,r⟩:=DataW.trod_int hu f;replace g:c0=.int .u16 a:=by simpa using g
  replace i:c1=.int .u16 b:=by simpa using i
  subst g i;have k:=bounds_u16 q;have l:=bounds_u16 r;obtain⟨s,rfl⟩:=Int.eq_ofNat_of_zero_le k.1;obtain⟨t,rfl⟩:=Int.eq_ofNat_of_zero_le l.1;exact⟨(s,t),rfl,by have:=k.2; simp only; omega,by have:=l.2; simp only; omega⟩
theorem cells1 {c:Value} {t:TypeId} {e:TypeId} {n:Nat} {y:DataW H × List MemPlace} (ht:P.underlying t=some (.slice e)) (h:DataW.trod enc P w base (fun _=>true) held n t [c]=some y):∃A l k,c=.slice A l k:=by
 rcases open_slice ht h with ⟨hcs,_⟩ | ⟨a,l,c',m,n,D,Pl,hcs,_⟩
 ·exact⟨none,0,0,by simpa using hcs⟩
 ·exact⟨some a,l,c',by simpa using hcs⟩
theorem Vp {e eb eb1 ec ec1 eu:TypeId} {f0 f1 f2:Field} (he:P.underlying e=some (.struct #[f0,f1,f2])) (hone:oneCellFields P #[f0,f1,f2]=true) (h0:P.underlying f0.type=some (.int .u8))
  (h1:P.underlying f1.type=some (.slice eb1)) (h1b:P.underlying eb1=some (.int .u8)) (h1c:P.cellsOf eb1=1) (h2:P.underlying f2.type=some (.slice ec1)) (h2b:P.underlying ec1=some (.array 2 eu)) (h2c:P.cellsOf ec1=2) (h2d:P.cellsOf eu=1) (h2e:P.underlying eu=some (.int .u16))
  (n:Nat) (cs:List Value) (y:DataW H × List MemPlace) (hl:cs.length=3) (h:DataW.trod enc P w base (fun _=>true) held n e cs=some y):∃p:PartV,cs=p.cells/\p.Ok w:=by
 obtain⟨z,m,_,rfl,_,b,l⟩:=DataW.trod_struct he h
 match cs,hl,z,b with
 | [c0,c1,c2],_,[y0,y1,y2],_ =>
  have g:=l 0 f0 rfl;have d:=l 1 f1 rfl;have f:=l 2 f2 rfl;obtain⟨A,D⟩:=hone_of hone 0 f0 rfl;obtain⟨E,F⟩:=hone_of hone 1 f1 rfl;obtain⟨G,I⟩:=hone_of hone 2 f2 rfl;rw [A,D] at g;rw [E,F] at d;rw [G,I] at f;replace g:DataW.trod enc P w base (fun _=>true) held m f0.type [c0]=some y0:=g;replace d:DataW.trod enc P w base (fun _=>true) held m f1.type [c1]=some y1:=d;replace f:DataW.trod enc P w base (fun _=>true) held m f2.type [c2]=some y2:=f;obtain⟨a,o,_,J⟩:=DataW.trod_int h0 g;replace o:c0=.int .u8 a:=by simpa using o
  subst o;have s:=bounds_u8 J;obtain⟨t,rfl⟩:=Int.eq_ofNat_of_zero_le s.1;obtain⟨B,U,u,rfl⟩:=cells1 h1 d;obtain⟨i,K,r,L,M,j⟩:=Wq (fun p:Nat=>Value.int .u8 p) (fun p=>p<256) h1 h1c (fun n c y h=>by
   obtain⟨k,r,_,N⟩:=DataW.trod_int h1b h;have j:=bounds_u8 N;obtain⟨q,rfl⟩:=Int.eq_ofNat_of_zero_le j.1;exact⟨q,by simpa using r,by have:=j.2; omega⟩) d
  obtain⟨C,V,v,rfl⟩:=cells1 h2 f
  obtain⟨x,O,Q,R,S,T⟩:=Yo 2 (by decide) (fun p:Nat × Nat=>[.int .u16 p.1,.int .u16 p.2]) (fun _=>rfl) (fun p=>p.1<65536/\p.2<65536) h2 h2c (fun n cs y hl h=>by
   obtain⟨p,h1,h2⟩:=Wr h2b h2d h2e n cs y hl h;exact⟨p,h1,h2⟩) f
  subst r Q;refine⟨⟨⟨t,i.map UInt8.ofNat,x⟩,.slice B i.length u,.slice C x.length v⟩,rfl,by have:=s.2; show t < 256; omega,⟨B,u,by simp,?_,by simpa using L,M⟩,⟨C,v,rfl,O,R,S⟩,T⟩;have:cells8 (i.map UInt8.ofNat)=i.map fun p:Nat=>Value.int .u8 p:=by
   unfold cells8;rw [List.map_map];refine List.map_congr_left fun p hp=>?_;have:=j p hp;show Value.int .u8 (((UInt8.ofNat p).toNat:Nat):Int)=_;rw [UInt8.toNat_ofNat',Nat.mod_eq_of_lt (by omega)]
  rw [this];exact K
end
theorem PartV.Ok.keep {w w' : World} {x:PartV} (h:x.Ok w) (hs:∀b,b<w.heap.size->w'.heap[b]?=w.heap[b]?):x.Ok w':=by
 obtain⟨a,d,⟨A,c,e,f,g⟩,i⟩:=h;exact⟨a,d.keep fun p _ hp=>World.cell?_of_block (hs p.block (Zz hp)),⟨A,c,e,f.keep fun p _ _ hp=>World.cell?_of_block (hs p.block (Zz hp)),g⟩,i⟩
end Go.Proofs.YteajimobgkempaaDoor

