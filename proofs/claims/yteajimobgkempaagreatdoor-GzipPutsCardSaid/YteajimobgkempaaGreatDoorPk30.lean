/- A pack. -/
import Derived.Test.YteajimobgkempaaGreatDoorPk29
set_option linter.all false
set_option maxRecDepth 100000
set_option maxHeartbeats 8000000
namespace Go.Proofs.YteajimobgkempaaGreatDoor
variable {w0 w:World} {L:List Pr}
namespace PI
theorem bitsOf_snoc (n k:Nat):PBits.bitsOf n (k+1)=PBits.bitsOf n k++[n / 2 ^ k % 2 == 1]:=by
 induction k generalizing n with
 | zero=>simp [PBits.bitsOf]
 | succ k ih =>
  rw [PBits.bitsOf,ih (n / 2)];show _=((n % 2 == 1)::PBits.bitsOf (n / 2) k)++_;rw [List.cons_append,Nat.div_div_eq_div_mul,show 2 * 2 ^ k=2 ^ (k+1) by rw [Nat.pow_succ,Nat.mul_comm]]
end PI
namespace PI
theorem getD_cons_drop {α:Type} {l:List α} {k:Nat} (z:α) (h:k<l.length):l.drop k=l.getD k z::l.drop (k+1):=by
 rw [List.drop_eq_getElem_cons h,List.getD_eq_getElem?_getD,List.getElem?_eq_getElem h]; rfl
end PI
namespace PI
theorem runL_eq (x:Nat):∀(l:List Nat) (m:Nat),m<=l.length->(∀j,j<m->l.getD j 0=x)->(m<l.length->l.getD m 0≠x)->runL x l=m:=by
 intro l;induction l with
 | nil=>intro m h _ _; simp at h; rw [h]; rfl
 | cons y l ih =>
  intro m c a b;cases m with
  | zero =>
   have:=b (by simp);unfold runL;rw [if_neg (by simpa using this)]
  | succ m =>
   have d:=a 0 (by omega);unfold runL;rw [if_pos (by simpa using d),ih m (by simpa using c) (fun j hj=>by simpa using a (j+1) (by omega)) (fun hj=>by simpa using b (by simpa using hj))]
theorem runL_at {l:List Nat} {i k:Nat} (hi:i<l.length) (hik:i<k) (hk:k<=l.length) (h:∀j,i<=j->j<k->l.getD j 0=l.getD i 0) (hs:k<l.length->l.getD k 0≠l.getD i 0):runL (l.getD i 0) (l.drop (i+1))+1=k - i:=by
 have e:runL (l.getD i 0) (l.drop i)=k - i:=by
  refine runL_eq _ _ _ (by rw [List.length_drop]; omega) (fun j hj=>?_) (fun hj=>?_)
  ·rw [List.getD_eq_getElem?_getD,List.getElem?_drop,<- List.getD_eq_getElem?_getD];exact h (i+j) (by omega) (by omega)
  ·rw [List.getD_eq_getElem?_getD,List.getElem?_drop,<- List.getD_eq_getElem?_getD,show i+(k - i)=k by omega];exact hs (by rw [List.length_drop] at hj; omega)
 rw [<- e,getD_cons_drop 0 hi,runL,if_pos rfl]
end PI
open Go.RowKit
theorem Xb:∀(l:List PD.Wd) (i:Nat),i<l.length->∀j v,(wdC (l.getD i (0,0,0,0)))[j]?=some v->(Ze l)[i * 4+j]?=some v
 | [],i,h=>by simp at h
 | t::l,0,_=>fun j v hj=>by
  have a:j<(wdC t).length:=(List.getElem?_eq_some_iff.1 hj).1;show(wdC t++Ze l)[0 * 4+j]?=some v;rw [List.getElem?_append_left (by omega),Nat.zero_mul,Nat.zero_add]; exact hj
 | t::l,i+1,h=>fun j v hj=>by
  show(wdC t++Ze l)[(i+1) * 4+j]?=some v;rw [List.getElem?_append_right (by show 4<=_; omega),show(i+1) * 4+j - (wdC t).length=i * 4+j by show _ - 4=_; omega];exact Xb l i (by simpa using h) j v hj
theorem rdW {w:World} {A:Option Addr} {l:List PD.Wd} (h:Rd w A (Ze l)) {i:Nat} (hi:i<l.length):∃ad,A=some ad/\w.cell? (ad.add (i * 4))=some (.int .i64 ((l.getD i (0,0,0,0)).1:Int))/\w.cell? ⟨(ad.add (i * 4)).block,(ad.add (i * 4)).off+1,none⟩=some (.int .i64 ((l.getD i (0,0,0,0)).2.1:Int))/\w.cell? ⟨(ad.add (i * 4)).block,(ad.add (i * 4)).off+2,none⟩=some (.int .i64 ((l.getD i (0,0,0,0)).2.2.1:Int))/\w.cell? ⟨(ad.add (i * 4)).block,(ad.add (i * 4)).off+3,none⟩=some (.int .i64 ((l.getD i (0,0,0,0)).2.2.2:Int)):=by
 obtain⟨ad,e,b⟩:=h (by intro e; have:=WQ l; rw [e] at this; simp at this; omega);have a:=fun j v hj=>b _ _ (Xb l i hi j v hj);refine⟨ad,e,a 0 _ rfl,?_,?_,?_⟩
 ·rw [Zv ad (i * 4) 1 (by omega)]; exact a 1 _ rfl
 ·rw [Zv ad (i * 4) 2 (by omega)]; exact a 2 _ rfl
 ·rw [Zv ad (i * 4) 3 (by omega)]; exact a 3 _ rfl
theorem Yo (m:Nat) (l:List Nat):cntR m l=cellsN (PI.cnts m l):=by unfold cntR cellsN PI.cnts; rw [List.map_map]; rfl
theorem WR {l:List PD.Wd} {i b:Nat} (h:i<l.length):PD.signsOf b (l.take (i+1))=PD.signsOf b (l.take i)++(if (l.getD i (0,0,0,0)).1=b then [(l.getD i (0,0,0,0)).2.1] else []):=by
 rw [List.take_succ_eq_append_getElem h,PD.signsOf_app];congr 1;have e:l.getD i (0,0,0,0)=l[i]:=by rw [List.getD_eq_getElem?_getD,List.getElem?_eq_getElem h]; rfl
 rw [e];unfold PD.signsOf;by_cases a:l[i].1=b
 ·rw [if_pos a,List.filter_cons,if_pos (by simpa using a)]; rfl
 ·rw [if_neg a,List.filter_cons,if_neg (by simpa using a)]; rfl
theorem Yw (A:Option Addr) (n c:Nat) (l:List PD.Wd) (bk m:Nat) (H:Sp w0 L w) (hrd:Ent L fun w=>Rd w A (Ze l)) (hn:n=l.length) (hnm:n<=1000000) (hm:m<=1000) (hs:∀t ∈ l,t.1=bk->t.2.1<m) :
  Calls Tryz.prog 56 #[.slice A n c,.int .i64 bk,.int .i64 m] w fun e w'=>∃v,e=.returned v/\Sp w0 (Row 3 1 v m (cellsN (PI.cnts m (PD.signsOf bk l)))::L) w':=by
 obtain⟨W,X,D,E,F⟩:=info_parts infoInt;rw [<- Yo];have G:=hid hrd;have M:=hid hn;have Y:=hid hs;clear hrd hn hs;go_enter Tryz.func56,Tryz.ntmps56
 go_wp2_with (at_make; refine Zk rfl _ _ _ rfl 3 W (.int .i64 0) Tryz.underlying97 X D E rfl m rfl rfl (by rw [F]; omega) (by unfold maxLen; omega) H ?_)
 intro Z w1 d;have N:List.replicate m (Value.int .i64 0)=cntR m (PD.signsOf bk (l.take 0)):=by
  unfold cntR;rw [List.take_zero];apply List.ext_getElem
  ·simp
  ·intro i h1 h2;simp [PD.signsOf]
 rw [N] at d;have z:=hid d;clear H d N;go_wp2_with fail
 go_loopw [14] (fun iv wr=>∃i:Nat,iv=.int .i64 i/\i<=n/\Sp w0 (Row 3 1 (.slice (some Z) m m) m (cntR m (PD.signsOf bk (l.take i)))::L) wr) (fun iv _=>n - (intOf iv).toNat)
 case atStart=>exact⟨0,rfl,Nat.zero_le _,z.out⟩
 case round =>
  obtain⟨i,rfl,a0,d⟩:=hrel;clear z;by_cases I:i<n
  ·have k1:(i:Int)<(n:Int):=by omega
   have h:i<l.length:=by rw [<- M.out]; exact I
   obtain⟨ad,rfl,O,P,Q,S⟩:=rdW (G.out _ _ d.tail) h;have f:=WR (b:=bk) h;have k:l.getD i (0,0,0,0) ∈ l:=by rw [List.getD_eq_getElem?_getD,List.getElem?_eq_getElem h]; exact List.getElem_mem h
   have g:=Y.out _ k;obtain⟨⟨b,s,q,r⟩,T⟩:∃t,l.getD i (0,0,0,0)=t:=⟨_,rfl⟩;rw [T] at O P Q S f g;simp only at O P Q S f g;have u:=d.newBk [.int .i64 b,.int .i64 s,.int .i64 q,.int .i64 r] 139;have t0:=u.cell 0 rfl 0;have t1:=u.cell 0 rfl 1;simp only [List.getElem?_cons_zero,List.getElem?_cons_succ] at t0 t1;obtain⟨R,J⟩:=exq (PD.signsOf bk (l.take i));rw [J] at f d u;have a1:R.length<=i:=by
    rw [<- J]; unfold PD.signsOf;rw [List.length_map];exact Nat.le_trans (List.length_filter_le _ _) (by rw [List.length_take]; omega)
   have j:=hid f;clear T k f J;by_cases U:b=bk
   ·subst U;have o:=g rfl;have k2:(s:Int)<(m:Int):=by omega
    obtain⟨a2,c2,ev,_,B,a3,p⟩:=u.swap.rowSet o;injection ev with e1 e2 e3
    injection e1 with e1
    subst e1;rw [Zx _ _ _ o] at B;obtain⟨K,x⟩:=exq (R.count s);rw [x] at B;have V:K<=1000000:=by
     have:=List.count_le_length (a:=s) (l:=R);omega
    have y:=p (.int .i64 ((K:Int)+1));rw [ZK m s R ((K:Int)+1) (by rw [x])] at y;have C:=hid y;rw [if_pos rfl] at j;clear p y d u g x e2 e3;go_wp2_with fail
    go_roundw
    case rel =>
     refine⟨i+1,by go_num,by omega,?_⟩;rw [j.out];exact C.out.pick 2 [0]
    case measure=>first | (simp [intOf]; omega) | simp [intOf]
   ·have k2:((b:Int) == (bk:Int))=false:=by rw [beq_eq_false_iff_ne]; omega
    have k3:¬ (b:Int)=(bk:Int):=by omega
    rw [if_neg U,List.append_nil] at j;have z:=hid u.tail;clear d u g;go_wp2_with fail
    go_roundw
    case rel =>
     refine⟨i+1,by go_num,by omega,?_⟩;rw [j.out];exact z.out
    case measure=>first | (simp [intOf]; omega) | simp [intOf]
  ·have k1:¬ (i:Int)<(n:Int):=by omega
   rw [List.take_of_length_le (by rw [<- M.out]; omega)] at d;have z:=hid d;clear d;go_wp2_with fail
   go_ret;exact⟨_,rfl,z.out⟩
theorem Wu (A:Option Addr) (n c:Nat) (l:List Nat) (least:Nat) (H:Sp w0 L w) (hrd:Ent L fun w=>Rd w A (cellsN l)) (hn:n=l.length) (hnm:n<=1000000) (hls:least<=1000000) :
  Calls Tryz.prog 57 #[.slice A n c,.int .i64 least] w fun e w'=>e=.returned (.int .i64 (PD.used l least n:Int))/\Sp w0 L w':=by
 obtain⟨T,m⟩:=exq (PD.used l least n);rw [m];have q:=hid m;have o:=hid hrd;have u:=hid hn;clear hrd hn m;go_enter Tryz.func57,Tryz.ntmps57
 go_wp2_with fail
 go_loopw [5] (fun kv wr=>∃k:Nat,kv=.int .i64 k/\k<=n/\PD.used l least k=T/\Sp w0 L wr) (fun kv _=>(intOf kv).toNat)
 case atStart=>exact⟨n,rfl,Nat.le_refl _,q.out,H⟩
 case round =>
  obtain⟨k,rfl,y,b,i⟩:=hrel;clear q H;by_cases d:least<k
  ·obtain⟨j,rfl⟩:∃j,k=j+1:=⟨k - 1,by omega⟩;have v:((j+1:Nat):Int) > (least:Int):=by omega
   have z:(j:Int)+1 > (least:Int):=by omega
   have f:j<l.length:=by rw [<- u.out]; omega
   have B:(j:Int)<(n:Int):=by omega
   obtain⟨r,rfl,s⟩:=(o.out _ _ i).at_ (k:=j) (by simpa [cellsN] using f);obtain⟨x,p⟩:=exq (l.getD j 0);have g:wr.cell? (r.add j)=some (.int .i64 x):=by
    rw [s,<- p,List.getD_eq_getElem?_getD,List.getElem?_eq_getElem f]; simp [cellsN]
   rw [PD.used,p] at b;have a:=hid b;clear s p b;by_cases t:x=0
   ·subst t;replace g:wr.cell? (r.add j)=some (.int .i64 0):=g;rw [if_pos ⟨d,rfl⟩] at a;go_wp2_with fail
    go_roundw
    case rel=>exact⟨j,by go_num,by omega,a.out,i⟩
    case measure=>first | (simp [intOf]; omega) | simp [intOf]
   ·have C:((x:Int) == 0)=false:=by rw [beq_eq_false_iff_ne]; omega
    have D:¬ (x:Int)=0:=by omega
    rw [if_neg (fun h=>t h.2)] at a;go_wp2_with fail
    go_ret;exact⟨by rw [<- a.out]; rfl,i⟩
  ·have v:¬ (k:Int) > (least:Int):=by omega
   have a:Hid (k=T):=by
    rw [<- b];cases k with
    | zero=>exact hid rfl
    | succ j=>rw [PD.used,if_neg (fun h=>d h.1)]; exact hid rfl
   clear b;go_wp2_with fail
   go_ret;exact⟨by rw [<- a.out]; rfl,i⟩
theorem rdN {w:World} {A:Option Addr} {l:List Nat} (h:Rd w A (cellsN l)) {i:Nat} (hi:i<l.length):∃ad,A=some ad/\w.cell? (ad.add i)=some (.int .i64 (l.getD i 0:Nat)):=by
 obtain⟨ad,e,a⟩:=h.at_ (k:=i) (by simpa [cellsN] using hi);refine⟨ad,e,?_⟩;rw [a,List.getD_eq_getElem?_getD,List.getElem?_eq_getElem hi];simp [cellsN]
theorem rdN' {ad:Addr} {l:List Nat} {w:World} (h:Rd w (some ad) (cellsN l)) {i:Nat} (hi:i<l.length):w.cell? (ad.add i)=some (.int .i64 (l.getD i 0:Nat)):=by
 obtain⟨b,e,a⟩:=rdN h hi;injection e with e
 rw [e]; exact a
theorem drun_ok (A:Option Addr) (n c:Nat) (l:List Nat) (i:Nat) {w0 w:World} {L:List Pr} (H:Sp w0 L w) (hrd:Ent L fun w=>Rd w A (cellsN l)) (hn:n=l.length) (hnm:n<=1000000) (hi:i<n) :
  Calls Tryz.prog 88 #[.slice A n c,.int .i64 (i:Int)] w fun e w'=>e=.returned (.int .i64 ((PI.runL (l.getD i 0) (l.drop (i+1))+1:Nat):Int))/\Sp w0 L w':=by
 obtain⟨T,hT⟩:∃T,PI.runL (l.getD i 0) (l.drop (i+1))+1=T:=⟨_,rfl⟩
 rw [hT]
 have hil:i<l.length:=by rw [<- hn]; exact hi
 obtain⟨ad,rfl,hc0⟩:=rdN (hrd _ _ H) hil
 obtain⟨x,hx⟩:∃x,l.getD i 0=x:=⟨_,rfl⟩
 have HT:=Lib.hid hT
 have HRD:=Lib.hid hrd
 have HN:=Lib.hid hn
 have HX:=Lib.hid hx
 clear hrd hn hT hx hc0
 go_enter Tryz.func88,Tryz.ntmps88
 go_wp2_with fail
 go_loopw [5] (fun kv wr=>∃k:Nat,kv=.int .i64 (k:Int)/\i+k<=n/\(∀j,i<=j->j<i+k->l.getD j 0=x)/\Sp w0 L wr) (fun kv _=>n - (intOf kv).toNat)
 case atStart=>exact⟨0,rfl,by omega,fun j h1 h2=>by omega,H⟩
 case round =>
  obtain⟨k,rfl,hk,hall,H1⟩:=hrel
  have HALL:=Lib.hid hall
  obtain⟨q,hq⟩:∃q,i+k=q:=⟨_,rfl⟩
  have y1:(i:Int)+(k:Int)=(q:Int):=by omega
  have c0:=rdN' (HRD.out _ _ H1) hil
  rw [HX.out] at c0
  clear hall
  by_cases hqn:q<n
  ·have n1:(q:Int)<(n:Int):=by omega
   have n2:decide ((q:Int)<(n:Int))=true:=decide_eq_true n1
   have n3:(i:Int)<(n:Int):=by omega
   have hql:q<l.length:=by rw [<- HN.out]; exact hqn
   have c1:=rdN' (HRD.out _ _ H1) hql
   obtain⟨y,hy⟩:∃y,l.getD q 0=y:=⟨_,rfl⟩
   rw [hy] at c1
   have HY:=Lib.hid hy
   clear hy
   by_cases hyx:y=x
   ·subst hyx
    have HH1:=Lib.hid H1
    clear H1 H
    go_wp2_with fail
    go_quiet (fail)
    have HQ:=Lib.hid (HH1.out.drewN nq)
    clear HH1
    go_wp2_with fail
    go_roundw
    case rel=>exact⟨k+1,by go_num,by omega,fun j h1 h2=>by
     by_cases e:j=q
     ·rw [e]; exact HY.out
     ·exact HALL.out j h1 (by omega),HQ.out⟩
    case measure=>first | (simp [intOf]; omega) | simp [intOf]
   ·have n4:((y:Int) == (x:Int))=false:=by rw [beq_eq_false_iff_ne]; omega
    have n5:¬ (y:Int)=(x:Int):=by omega
    have HK:Hid (k=T):=by
     rw [<- HT.out]
     have k0:0<k:=by
      rcases Nat.eq_zero_or_pos k with h | h
      ·subst h
       have:q=i:=by omega
       subst this
       exact absurd (HY.out.symm.trans HX.out) hyx
      ·exact h
     have h:=PI.runL_at (l:=l) (i:=i) (k:=q) hil (by omega) (by omega) (fun j h1 h2=>by rw [HX.out]; exact HALL.out j h1 (by omega)) (fun _=>by rw [HY.out,HX.out]; exact hyx)
     rw [h]
     exact Lib.hid (by omega)
    have HH1:=Lib.hid H1
    clear H1 H HT HALL
    go_wp2_with fail
    go_quiet (fail)
    have HQ:=Lib.hid (HH1.out.drewN nq)
    clear HH1
    go_wp2_with fail
    go_ret
    exact⟨by rw [<- HK.out]; rfl,HQ.out⟩
  ·have n1:¬ (q:Int)<(n:Int):=by omega
   have n2:decide ((q:Int)<(n:Int))=false:=decide_eq_false n1
   have HK:Hid (k=T):=by
    rw [<- HT.out]
    have h:=PI.runL_at (l:=l) (i:=i) (k:=q) hil (by omega) (by have:=HN.out; omega) (fun j h1 h2=>by rw [HX.out]; exact HALL.out j h1 (by omega)) (fun h=>by have:=HN.out; omega)
    rw [h]
    exact Lib.hid (by omega)
   have HH1:=Lib.hid H1
   clear H1 H HT HALL
   go_wp2_with fail
   go_quiet (fail)
   have HQ:=Lib.hid (HH1.out.drewN nq)
   clear HH1
   go_wp2_with fail
   go_ret
   exact⟨by rw [<- HK.out]; rfl,HQ.out⟩
namespace PD
theorem runL_get (x:Nat):∀(r:List Nat) (j:Nat),j<PI.runL x r->r.getD j 0=x:=by
 intro r;induction r with
 | nil=>intro j h; simp [PI.runL] at h
 | cons y r ih =>
  intro j h;unfold PI.runL at h;split at h
  ·rename_i e
   cases j with
   | zero=>exact e
   | succ j=>exact ih j (by omega)
  ·omega
theorem rl_at {l:List Nat} {i f p:Nat} (hi:i<l.length):rl (f+1) p (l.drop i) =
  if p=l.getD i 0/\l.getD i 0≠0/\3<=PI.runL (l.getD i 0) (l.drop (i+1))+1 then (16,min (PI.runL (l.getD i 0) (l.drop (i+1))+1) 6 - 3)::rl f (l.getD i 0) (l.drop (i+min (PI.runL (l.getD i 0) (l.drop (i+1))+1) 6))
  else if l.getD i 0=0/\11<=PI.runL (l.getD i 0) (l.drop (i+1))+1 then (18,min (PI.runL (l.getD i 0) (l.drop (i+1))+1) 138 - 11)::rl f (l.getD i 0) (l.drop (i+min (PI.runL (l.getD i 0) (l.drop (i+1))+1) 138))
  else if l.getD i 0=0/\3<=PI.runL (l.getD i 0) (l.drop (i+1))+1 then (17,PI.runL (l.getD i 0) (l.drop (i+1))+1 - 3)::rl f (l.getD i 0) (l.drop (i+(PI.runL (l.getD i 0) (l.drop (i+1))+1)))
  else (l.getD i 0,0)::rl f (l.getD i 0) (l.drop (i+1)):=by
 have e:l.drop i=l.getD i 0::l.drop (i+1):=by
  rw [List.drop_eq_getElem_cons hi,List.getD_eq_getElem?_getD,List.getElem?_eq_getElem hi]; rfl
 generalize l.getD i 0=x at e ⊢;generalize l.drop (i+1)=r at e ⊢;have d:∀k,l.drop (i+k)=(x::r).drop k:=fun k=>by rw [<- e,List.drop_drop]
 rw [d (min (PI.runL x r+1) 6),d (min (PI.runL x r+1) 138),d (PI.runL x r+1),e];rfl
end PD
theorem Uz (A:Option Addr) (n c:Nat) (l:List Nat) (H:Sp w0 L w) (hrd:Ent L fun w=>Rd w A (cellsN l)) (hn:n=l.length) (hnm:n<=100000) (h15:∀x ∈ l,x<=15) :
  Calls Tryz.prog 58 #[.slice A n c] w fun e w'=>∃v,e=.returned v/\Sp w0 (Row 139 4 v ((PD.row l).map PD.rwd).length (Ze ((PD.row l).map PD.rwd))::L) w':=by
 obtain⟨Z,hj,D,E,F⟩:=info_parts infoT;obtain⟨FW,W⟩:=exq ((PD.row l).map PD.rwd);rw [W];have a0:([]:List PD.Wd)++(PD.rl n 0 (l.drop 0)).map PD.rwd=FW:=by rw [<- W,hn]; rfl
 have HF:=hid a0;have z:=hid hrd;have y:=hid hn;have b3:=hid h15;clear hrd hn h15 W a0;go_enter Tryz.func58,Tryz.ntmps58
 go_wp2_with fail
 go_loopw [3,4] (fun rv iv wr=>∃(i f:Nat) (R:List PD.Wd) (p:Nat),iv=.int .i64 i/\i<=n/\n<=i+f/\R.length<=i/\(if i=0 then 0 else l.getD (i - 1) 0)=p/\R++(PD.rl f p (l.drop i)).map PD.rwd=FW/\Sp w0 (Row 139 4 rv R.length (Ze R)::L) wr) (fun _ iv _=>n - (intOf iv).toNat)
 case atStart=>exact⟨0,n,[],0,rfl,Nat.zero_le _,by omega,Nat.le_refl _,rfl,HF.out,H.rowNil _ _⟩
 case round =>
  obtain⟨i,f,R,p,rfl,b6,hf,b7,hp,O,d⟩:=hrel;clear H HF;have G:=hid O;have HP:=hid hp;clear O hp;by_cases a1:i<n
  ·have k1:(i:Int)<(n:Int):=by omega
   have u:i<l.length:=by rw [<- y.out]; exact a1
   obtain⟨f,rfl⟩:∃f',f=f'+1:=⟨f - 1,by omega⟩;have J:=PD.rl_at (f:=f) (p:=p) u;obtain⟨ad,rfl,B⟩:=rdN (z.out _ _ d.tail) u;have I:=drun_ok (some ad) n c l i d (fun w0 w h=>z.out w0 w h.tail) y.out (by omega) a1;obtain⟨x,Y⟩:=exq (l.getD i 0);have a2:x<=15:=by
    rw [<- Y,List.getD_eq_getElem?_getD,List.getElem?_eq_getElem u];exact b3.out _ (List.getElem_mem u)
   obtain⟨q,hq⟩:=exq (PI.runL (l.getD i 0) (l.drop (i+1))+1);have b8:1<=q/\i+q<=n:=by
    have:=PI.runL_le (l.getD i 0) (l.drop (i+1));rw [List.length_drop] at this;have:=y.out;omega
   have P:∀k,1<=k->k<=q->(if i+k=0 then 0 else l.getD (i+k - 1) 0)=x:=fun k h1 h2=>by
    rw [if_neg (by omega)];by_cases e:k=1
    ·subst e; rw [Nat.add_sub_cancel]; exact Y
    ·have h:=PD.runL_get (l.getD i 0) (l.drop (i+1)) (k - 2) (by omega);rw [List.getD_eq_getElem?_getD,List.getElem?_drop,show i+1+(k - 2)=i+k - 1 by omega,Y] at h;rw [List.getD_eq_getElem?_getD];exact h
   rw [hq] at J I;rw [Y] at J B;obtain⟨K,a3⟩:=exq (decide (p=x/\x≠0));have s:=hid P;have a4:=hid J;have Q:=hid I;have M:=hid a3;have HX:=hid Y;obtain⟨VR,a5,rfl,_,_⟩:=Row.form d 0 rfl;clear J I P hq Y a3;go_wp2_with fail
   refine Q.out.mono ?_;rintro _ w2 ⟨rfl,d⟩;clear Q B;go_upto_region 5 with (fail)
   go_cut [6] from 7 to 93 (fun s6 wx=>s6=.bool K/\Sp w0 (Row 139 4 (.slice VR R.length a5) R.length (Ze R)::L) wx)
   case first =>
    have B:=rdN' (z.out _ _ d.tail) u;rw [HX.out] at B;have t:=hid d;by_cases a6:0<i
    ·have g1:(i:Int) > 0:=by omega
     have g2:decide (0<i)=true:=decide_eq_true a6;obtain⟨j,a7⟩:=exq (i - 1);have y1:(i:Int) - 1=(j:Int):=by omega
     have k2:(j:Int)<(n:Int):=by omega
     have S:=rdN' (i:=j) (z.out _ _ d.tail) (by omega);have a8:l.getD j 0=p:=by
      have h:=HP.out;rw [if_neg (by omega),a7] at h;exact h
     rw [a8] at S;have o:=M.out;clear d a8 a7;by_cases C:p=x
     ·subst C;by_cases T:p=0
      ·have e:K=false:=by rw [<- o,decide_eq_false]; exact fun h=>h.2 T
       subst e T;replace B:w2.cell? (ad.add i)=some (.int .i64 0):=B;replace S:w2.cell? (ad.add j)=some (.int .i64 0):=S;clear o;go_wp2_with fail
       go_quiet (fail)
       have X:=hid (t.out.drewN nq);clear t;go_wp2_with fail
       go_meet
       exact⟨rfl,X.out⟩
      ·have e:K=true:=by rw [<- o,decide_eq_true]; exact⟨rfl,T⟩
       subst e;have g5:¬ (p:Int)=0:=by omega
       have g6:((p:Int) != 0)=true:=by simpa using T
       clear o;go_wp2_with fail
       go_quiet (fail)
       have X:=hid (t.out.drewN nq);clear t;go_wp2_with fail
       go_meet
       exact⟨rfl,X.out⟩
     ·have e:K=false:=by rw [<- o,decide_eq_false]; exact fun h=>C h.1
      subst e;have g5:¬ (p:Int)=(x:Int):=by omega
      have g6:((p:Int) == (x:Int))=false:=by rw [beq_eq_false_iff_ne]; exact g5
      clear o;go_wp2_with fail
      go_quiet (fail)
      have X:=hid (t.out.drewN nq);clear t;go_wp2_with fail
      go_meet
      exact⟨rfl,X.out⟩
    ·have g1:¬ (i:Int) > 0:=by omega
     have g2:decide (0<i)=false:=decide_eq_false a6;have e:K=false:=by
      rw [<- M.out,decide_eq_false];have h:=HP.out;rw [if_pos (by omega)] at h;intro h2; exact h2.2 (by omega)
     subst e;clear d;go_wp2_with fail
     go_quiet (fail)
     have X:=hid (t.out.drewN nq);clear t;go_wp2_with fail
     go_meet
     exact⟨rfl,X.out⟩
   case rest =>
    obtain⟨rfl,d⟩:=hcut;have g:=a4.out;have HA:=M.out;clear a4 M;by_cases S:K=true/\3<=q
    ·obtain⟨rfl,h3⟩:=S;have C:=of_decide_eq_true HA;rw [if_pos ⟨C.1,C.2,h3⟩] at g;obtain⟨m,hm⟩:=exq (min q 6);obtain⟨v,U⟩:=exq (m - 3);have y1:min (q:Int) 6=(m:Int):=by omega
     have y2:(m:Int) - 3=(v:Int):=by omega
     have y3:(q:Int)≥3:=by omega
     rw [hm,U] at g;have a9:Hid (R++(((0,16,2,v):PD.Wd)::(PD.rl f x (l.drop (i+m))).map PD.rwd)=FW):=by rw [<- G.out,g]; exact hid rfl
     have y:=a9;have b4:1<=m/\m<=q:=by omega
     clear G g HA hm U C a9;have r:=d.newBk (wdC (0,16,2,v)) 139;have a:=hid (Rd.of_blk (r.blk 0 rfl));have b:=hid (r.pick 2 [1]);clear d r;go_wp2_with (at_builtin; refine wpList_append_sp rfl _ _ 95 rfl 139 Z (.agg #[.int .i64 0,.int .i64 0,.int .i64 0,.int .i64 0]) 4 32 Tryz.underlying95 hj D E F rfl (by decide) _ R.length (Ze R) rfl b.out (some ⟨_,0,none⟩) 1 1 (wdC (0,16,2,v)) rfl rfl a.out (ZY _) (by unfold maxLen; omega) (by omega) ?_)
     intro v4 w4 N _;clear b a;go_wp2_with fail
     go_roundw
     case rel =>
      refine⟨i+m,f,R++[(0,16,2,v)],x,by go_num,by omega,by omega,by rw [List.length_append]; simp only [List.length_cons,List.length_nil]; omega,s.out m (by omega) (by omega),by rw [List.append_assoc]; exact y.out,?_⟩;rw [List.length_append,ZC];rw [show Ze [((0,16,2,v):PD.Wd)]=wdC (0,16,2,v) from List.append_nil _];exact N
     case measure=>first | (simp [intOf]; omega) | simp [intOf]
    ·have b0:PD.rl (f+1) p (l.drop i)=if x=0/\11<=q then (18,min q 138 - 11)::PD.rl f x (l.drop (i+min q 138)) else if x=0/\3<=q then (17,q - 3)::PD.rl f x (l.drop (i+q)) else (x,0)::PD.rl f x (l.drop (i+1)):=by
      rw [g,if_neg];intro h;exact S ⟨by rw [<- HA,decide_eq_true]; exact⟨h.1,h.2.1⟩,h.2.2⟩
     have b1:K=false∨¬ (q:Int)≥3:=by
      cases K
      ·exact .inl rfl
      ·exact .inr fun h=>S ⟨rfl,by omega⟩
     have B:=rdN' (z.out _ _ d.tail) u;rw [HX.out] at B;have a:=hid b0;clear g b0 HA S;clear B;go_upto_region 8 with (fail)
     go_cut [43] from 7 to 93 (fun s43 wx=>s43=.bool false/\Sp w0 (Row 139 4 (.slice VR R.length a5) R.length (Ze R)::L) wx)
     case first =>
      rcases b1 with rfl | y3
      ·go_wp2_with fail
       go_meet
       exact⟨rfl,d⟩
      ·cases K
       ·go_wp2_with fail
        go_meet
        exact⟨rfl,d⟩
       ·go_wp2_with fail
        go_meet
        exact⟨rfl,d⟩
     case rest =>
      obtain⟨rfl,d⟩:=hcut;clear b1;have g:=a.out;have B:=rdN' (z.out _ _ d.tail) u;rw [HX.out] at B;clear a;by_cases T:x=0
      ·subst T;replace B:World.cell? _ (ad.add i)=some (.int .i64 0):=B;by_cases b2:11<=q
       ·rw [if_pos ⟨rfl,b2⟩] at g;have y3:(q:Int)≥11:=by omega
        obtain⟨m,hm⟩:=exq (min q 138);obtain⟨v,U⟩:=exq (m - 11);have y1:min (q:Int) 138=(m:Int):=by omega
        have y2:(m:Int) - 11=(v:Int):=by omega
        rw [hm,U] at g;have y:Hid (R++(((0,18,7,v):PD.Wd)::(PD.rl f 0 (l.drop (i+m))).map PD.rwd)=FW):=by rw [<- G.out,g]; exact hid rfl
        have b4:1<=m/\m<=q:=by omega
        clear G g hm U;have r:=d.newBk (wdC (0,18,7,v)) 139;have a:=hid (Rd.of_blk (r.blk 0 rfl));have b:=hid (r.pick 2 [1]);clear d r;go_wp2_with (at_builtin; refine wpList_append_sp rfl _ _ 95 rfl 139 Z (.agg #[.int .i64 0,.int .i64 0,.int .i64 0,.int .i64 0]) 4 32 Tryz.underlying95 hj D E F rfl (by decide) _ R.length (Ze R) rfl b.out (some ⟨_,0,none⟩) 1 1 (wdC (0,18,7,v)) rfl rfl a.out (ZY _) (by unfold maxLen; omega) (by omega) ?_)
        intro v4 w4 N _;clear b a;go_wp2_with fail
        go_roundw
        case rel =>
         refine⟨i+m,f,R++[(0,18,7,v)],0,by go_num,by omega,by omega,by rw [List.length_append]; simp only [List.length_cons,List.length_nil]; omega,s.out m (by omega) (by omega),by rw [List.append_assoc]; exact y.out,?_⟩;rw [List.length_append,ZC];rw [show Ze [((0,18,7,v):PD.Wd)]=wdC (0,18,7,v) from List.append_nil _];exact N
        case measure=>first | (simp [intOf]; omega) | simp [intOf]
       ·rw [if_neg (fun h=>b2 h.2)] at g;have y3:¬ (q:Int)≥11:=by omega
        by_cases h3:3<=q
        ·rw [if_pos ⟨rfl,h3⟩] at g;have y4:(q:Int)≥3:=by omega
         obtain⟨v,U⟩:=exq (q - 3);have y2:(q:Int) - 3=(v:Int):=by omega
         rw [U] at g;have y:Hid (R++(((0,17,3,v):PD.Wd)::(PD.rl f 0 (l.drop (i+q))).map PD.rwd)=FW):=by rw [<- G.out,g]; exact hid rfl
         clear G g U;have r:=d.newBk (wdC (0,17,3,v)) 139;have a:=hid (Rd.of_blk (r.blk 0 rfl));have b:=hid (r.pick 2 [1]);clear d r;go_wp2_with (at_builtin; refine wpList_append_sp rfl _ _ 95 rfl 139 Z (.agg #[.int .i64 0,.int .i64 0,.int .i64 0,.int .i64 0]) 4 32 Tryz.underlying95 hj D E F rfl (by decide) _ R.length (Ze R) rfl b.out (some ⟨_,0,none⟩) 1 1 (wdC (0,17,3,v)) rfl rfl a.out (ZY _) (by unfold maxLen; omega) (by omega) ?_)
         intro v4 w4 N _;clear b a;go_wp2_with fail
         go_roundw
         case rel =>
          refine⟨i+q,f,R++[(0,17,3,v)],0,by go_num,by omega,by omega,by rw [List.length_append]; simp only [List.length_cons,List.length_nil]; omega,s.out q (by omega) (by omega),by rw [List.append_assoc]; exact y.out,?_⟩;rw [List.length_append,ZC];rw [show Ze [((0,17,3,v):PD.Wd)]=wdC (0,17,3,v) from List.append_nil _];exact N
         case measure=>first | (simp [intOf]; omega) | simp [intOf]
        ·rw [if_neg (fun h=>h3 h.2)] at g;have y4:¬ (q:Int)≥3:=by omega
         have y:Hid (R++(((0,0,0,0):PD.Wd)::(PD.rl f 0 (l.drop (i+1))).map PD.rwd)=FW):=by rw [<- G.out,g]; exact hid rfl
         clear G g;have r:=d.newBk (wdC (0,0,0,0)) 139;have a:=hid (Rd.of_blk (r.blk 0 rfl));have b:=hid (r.pick 2 [1]);clear d r;go_wp2_with (at_builtin; refine wpList_append_sp rfl _ _ 95 rfl 139 Z (.agg #[.int .i64 0,.int .i64 0,.int .i64 0,.int .i64 0]) 4 32 Tryz.underlying95 hj D E F rfl (by decide) _ R.length (Ze R) rfl b.out (some ⟨_,0,none⟩) 1 1 (wdC (0,0,0,0)) rfl rfl a.out (ZY _) (by unfold maxLen; omega) (by omega) ?_)
         intro v4 w4 N _;clear b a;go_wp2_with fail
         go_roundw
         case rel =>
          refine⟨i+1,f,R++[(0,0,0,0)],0,by go_num,by omega,by omega,by rw [List.length_append]; simp only [List.length_cons,List.length_nil]; omega,s.out 1 (by omega) (by omega),by rw [List.append_assoc]; exact y.out,?_⟩;rw [List.length_append,ZC];rw [show Ze [((0,0,0,0):PD.Wd)]=wdC (0,0,0,0) from List.append_nil _];exact N
         case measure=>first | (simp [intOf]; omega) | simp [intOf]
      ·rw [if_neg (fun h=>T h.1),if_neg (fun h=>T h.1)] at g;have y3:¬ (x:Int)=0:=by omega
       have y4:((x:Int) == 0)=false:=by rw [beq_eq_false_iff_ne]; exact y3
       have y:Hid (R++(((0,x,0,0):PD.Wd)::(PD.rl f x (l.drop (i+1))).map PD.rwd)=FW):=by
        rw [<- G.out,g,List.map_cons];have e:PD.rwd (x,0)=(0,x,0,0):=by unfold PD.rwd; rw [PI.tellB_small x a2]
        rw [e]; exact hid rfl
       clear G g;have r:=d.newBk (wdC (0,x,0,0)) 139;have a:=hid (Rd.of_blk (r.blk 0 rfl));have b:=hid (r.pick 2 [1]);clear d r;go_wp2_with (at_builtin; refine wpList_append_sp rfl _ _ 95 rfl 139 Z (.agg #[.int .i64 0,.int .i64 0,.int .i64 0,.int .i64 0]) 4 32 Tryz.underlying95 hj D E F rfl (by decide) _ R.length (Ze R) rfl b.out (some ⟨_,0,none⟩) 1 1 (wdC (0,x,0,0)) rfl rfl a.out (ZY _) (by unfold maxLen; omega) (by omega) ?_)
       intro v4 w4 N _;clear b a;go_wp2_with fail
       go_roundw
       case rel =>
        refine⟨i+1,f,R++[(0,x,0,0)],x,by go_num,by omega,by omega,by rw [List.length_append]; simp only [List.length_cons,List.length_nil]; omega,s.out 1 (by omega) (by omega),by rw [List.append_assoc]; exact y.out,?_⟩;rw [List.length_append,ZC];rw [show Ze [((0,x,0,0):PD.Wd)]=wdC (0,x,0,0) from List.append_nil _];exact N
       case measure=>first | (simp [intOf]; omega) | simp [intOf]
  ·have k1:¬ (i:Int)<(n:Int):=by omega
   have V:FW=R:=by
    rw [<- G.out,List.drop_eq_nil_of_le (by rw [<- y.out]; omega)];have:PD.rl f p []=[]:=by cases f <;> rfl
    rw [this]; simp
   have b5:=hid V;have HX:=hid d;clear d V;go_wp2_with fail
   go_ret;exact⟨_,rfl,by rw [b5.out]; exact HX.out⟩
end Go.Proofs.YteajimobgkempaaGreatDoor

