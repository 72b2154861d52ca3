/- A pack. -/
import Derived.Test.YtnjpnmpemhldcaaGreatDoorPk28
set_option linter.all false
set_option maxRecDepth 100000
set_option maxHeartbeats 8000000
namespace Go.Proofs.YtnjpnmpemhldcaaGreatDoor
variable {w0 w:World} {L:List Pr}
open Go.RowKit
theorem infoInt:(Tryz.prog.info? 3).map (fun i=>(i.zero,i.size,i.bytes))=some (some (.int .i64 0),1,8):=by kernel_rfl
theorem ZD (a b:List Nat):cellsN (a++b)=cellsN a++cellsN b:=by simp [cellsN]
theorem Z3 {k:Nat} (hk:k<288):PI.fixedL.getD k 0=if 280<=k then 8 else if 256<=k then 7 else if 144<=k then 9 else 8:=by
 have:∀k,k<288->PI.fixedL.getD k 0=if 280<=k then 8 else if 256<=k then 7 else if 144<=k then 9 else 8:=by decide +kernel
 exact this k hk
theorem ZI:PI.fixedL.length=288:=by decide +kernel
theorem ZK {k v:Nat} (hk:k<288) (h:PI.fixedL.getD k 0=v):PI.fixedL.take (k+1)=PI.fixedL.take k++[v]:=by
 have a:k<PI.fixedL.length:=by rw [ZI]; exact hk
 rw [List.take_succ_eq_append_getElem a];rw [List.getD_eq_getElem?_getD,List.getElem?_eq_getElem a] at h;rw [show PI.fixedL[k]=v from h]
theorem YE (H:Sp w0 L w) :
  Calls Tryz.prog 86 #[] w fun e w'=>∃v0 v1,e=.returned (.agg #[v0,v1])/\Sp w0 (Row 3 1 v0 288 (cellsN PI.fixedL)::Row 3 1 v1 32 (cellsN PI.fixedD)::L) w':=by
 obtain⟨D,E,p,q,r⟩:=info_parts infoInt;have O:=H.newBk [.slice none 0 0,.slice none 0 0] 142;have a:=O.newBk [.slice none 0 0,.slice none 0 0] 142;rw [size_alloc] at a;have l:=hid (a.rowNil 3 1);clear H O a;go_enter Tryz.func86,Tryz.ntmps86
 go_wp2_with fail
 generalize w.heap.size+1=g at l ⊢;generalize w.heap.size=g0 at l ⊢;go_loopw [4] (fun kv wr=>∃(k:Nat) (v:Value),kv=.int .i64 k/\k<=288/\Sp w0 (Row 3 1 v k (cellsN (PI.fixedL.take k))::Bk g 142 [v,.slice none 0 0]::Bk g0 142 [.slice none 0 0,.slice none 0 0]::L) wr) (fun kv _=>288 - (intOf kv).toNat)
 case atStart=>exact⟨0,_,rfl,Nat.zero_le _,l.out⟩
 case round =>
  obtain⟨k,v,rfl,t,a⟩:=hrel;clear l;obtain⟨I,J,rfl,_,_⟩:=Row.form a 0 rfl;by_cases B:k<288
  ·have K:(k:Int)<288:=by omega
   have t:=B;by_cases o:280<=k
   ·have T:(k:Int)≥280:=by omega
    have C:Hid (PI.fixedL.take (k+1)=PI.fixedL.take k++[8]):=hid (ZK t (by rw [Z3 t]; simp only [if_pos o]));have m:=a.newBk [.int .i64 8] 3;have b:=hid (Rd.of_blk (m.blk 0 rfl));have c:=hid (m.pick 4 [1,2,3]);have n:=a.cell 1 rfl 0;have x:=a.frozen 1 rfl 0;simp only [List.getElem?_cons_zero] at n;clear a m;go_wp2_with (at_builtin; refine Za rfl _ _ 141 rfl 3 D (.int .i64 0) 1 8 Tryz.underlying141 E p q r rfl (by decide) _ k (cellsN (PI.fixedL.take k)) rfl c.out (some ⟨_,0,none⟩) 1 1 [.int .i64 8] rfl rfl b.out (by intro u y; rw [List.mem_singleton.1 y]; rfl) (by unfold maxLen; omega) (by omega) ?_)
    intro M w4 d _;obtain⟨f,i,rfl,_,_⟩:=Row.form d 0 rfl;have z:=d.cell 1 rfl 0;have N:=d.frozen 1 rfl 0;simp only [List.getElem?_cons_zero] at z;have l:=hid (d.swap.set 0 (.slice f (k+1) i));clear c b n x d;go_wp2_with fail
    go_roundw
    case rel =>
     refine⟨k+1,.slice f (k+1) i,by go_num,by omega,?_⟩;have h:=l.out.swap;rw [C.out,ZD];exact h
    case measure=>first | (simp [intOf]; omega) | simp [intOf]
   ·have T:¬ (k:Int)≥280:=by omega
    by_cases s:256<=k
    ·have U:(k:Int)≥256:=by omega
     have C:Hid (PI.fixedL.take (k+1)=PI.fixedL.take k++[7]):=hid (ZK t (by rw [Z3 t]; simp only [if_neg o,if_pos s]));have m:=a.newBk [.int .i64 7] 3;have b:=hid (Rd.of_blk (m.blk 0 rfl));have c:=hid (m.pick 4 [1,2,3]);have n:=a.cell 1 rfl 0;have x:=a.frozen 1 rfl 0;simp only [List.getElem?_cons_zero] at n;clear a m;go_wp2_with (at_builtin; refine Za rfl _ _ 141 rfl 3 D (.int .i64 0) 1 8 Tryz.underlying141 E p q r rfl (by decide) _ k (cellsN (PI.fixedL.take k)) rfl c.out (some ⟨_,0,none⟩) 1 1 [.int .i64 7] rfl rfl b.out (by intro u y; rw [List.mem_singleton.1 y]; rfl) (by unfold maxLen; omega) (by omega) ?_)
     intro M w4 d _;obtain⟨f,i,rfl,_,_⟩:=Row.form d 0 rfl;have z:=d.cell 1 rfl 0;have N:=d.frozen 1 rfl 0;simp only [List.getElem?_cons_zero] at z;have l:=hid (d.swap.set 0 (.slice f (k+1) i));clear c b n x d;go_wp2_with fail
     go_roundw
     case rel =>
      refine⟨k+1,.slice f (k+1) i,by go_num,by omega,?_⟩;have h:=l.out.swap;rw [C.out,ZD];exact h
     case measure=>first | (simp [intOf]; omega) | simp [intOf]
    ·have U:¬ (k:Int)≥256:=by omega
     by_cases A:144<=k
     ·have V:(k:Int)≥144:=by omega
      have C:Hid (PI.fixedL.take (k+1)=PI.fixedL.take k++[9]):=hid (ZK t (by rw [Z3 t]; simp only [if_neg o,if_neg s,if_pos A]));have m:=a.newBk [.int .i64 9] 3;have b:=hid (Rd.of_blk (m.blk 0 rfl));have c:=hid (m.pick 4 [1,2,3]);have n:=a.cell 1 rfl 0;have x:=a.frozen 1 rfl 0;simp only [List.getElem?_cons_zero] at n;clear a m;go_wp2_with (at_builtin; refine Za rfl _ _ 141 rfl 3 D (.int .i64 0) 1 8 Tryz.underlying141 E p q r rfl (by decide) _ k (cellsN (PI.fixedL.take k)) rfl c.out (some ⟨_,0,none⟩) 1 1 [.int .i64 9] rfl rfl b.out (by intro u y; rw [List.mem_singleton.1 y]; rfl) (by unfold maxLen; omega) (by omega) ?_)
      intro M w4 d _;obtain⟨f,i,rfl,_,_⟩:=Row.form d 0 rfl;have z:=d.cell 1 rfl 0;have N:=d.frozen 1 rfl 0;simp only [List.getElem?_cons_zero] at z;have l:=hid (d.swap.set 0 (.slice f (k+1) i));clear c b n x d;go_wp2_with fail
      go_roundw
      case rel =>
       refine⟨k+1,.slice f (k+1) i,by go_num,by omega,?_⟩;have h:=l.out.swap;rw [C.out,ZD];exact h
      case measure=>first | (simp [intOf]; omega) | simp [intOf]
     ·have V:¬ (k:Int)≥144:=by omega
      have C:Hid (PI.fixedL.take (k+1)=PI.fixedL.take k++[8]):=hid (ZK t (by rw [Z3 t]; simp only [if_neg o,if_neg s,if_neg A]));have m:=a.newBk [.int .i64 8] 3;have b:=hid (Rd.of_blk (m.blk 0 rfl));have c:=hid (m.pick 4 [1,2,3]);have n:=a.cell 1 rfl 0;have x:=a.frozen 1 rfl 0;simp only [List.getElem?_cons_zero] at n;clear a m;go_wp2_with (at_builtin; refine Za rfl _ _ 141 rfl 3 D (.int .i64 0) 1 8 Tryz.underlying141 E p q r rfl (by decide) _ k (cellsN (PI.fixedL.take k)) rfl c.out (some ⟨_,0,none⟩) 1 1 [.int .i64 8] rfl rfl b.out (by intro u y; rw [List.mem_singleton.1 y]; rfl) (by unfold maxLen; omega) (by omega) ?_)
      intro M w4 d _;obtain⟨f,i,rfl,_,_⟩:=Row.form d 0 rfl;have z:=d.cell 1 rfl 0;have N:=d.frozen 1 rfl 0;simp only [List.getElem?_cons_zero] at z;have l:=hid (d.swap.set 0 (.slice f (k+1) i));clear c b n x d;go_wp2_with fail
      go_roundw
      case rel =>
       refine⟨k+1,.slice f (k+1) i,by go_num,by omega,?_⟩;have h:=l.out.swap;rw [C.out,ZD];exact h
      case measure=>first | (simp [intOf]; omega) | simp [intOf]
  ·have K:¬ (k:Int)<288:=by omega
   obtain rfl:k=288:=by omega
   rw [List.take_of_length_le (by rw [ZI]; exact Nat.le_refl _)] at a;have l:=hid (a.rowNil 3 1);clear a;go_wp2_with fail
   clear t B K;go_loopw [23] (fun jv wr=>∃(j:Nat) (u:Value),jv=.int .i64 j/\j<=32/\Sp w0 (Row 3 1 u j (cellsN (List.replicate j 5))::Row 3 1 (.slice I 288 J) 288 (cellsN PI.fixedL)::Bk g 142 [.slice I 288 J,u]::Bk g0 142 [.slice none 0 0,.slice none 0 0]::L) wr) (fun jv _=>32 - (intOf jv).toNat)
   case atStart=>exact⟨0,_,rfl,Nat.zero_le _,l.out⟩
   case round =>
    obtain⟨j,u,rfl,Z,a⟩:=hrel;clear l;obtain⟨P,Q,rfl,_,_⟩:=Row.form a 0 rfl;by_cases B:j<32
    ·have K:(j:Int)<32:=by omega
     have m:=a.newBk [.int .i64 5] 3;have b:=hid (Rd.of_blk (m.blk 0 rfl));have c:=hid (m.pick 5 [1,2,3,4]);have n:=a.cell 2 rfl 1;have x:=a.frozen 2 rfl 1;simp only [List.getElem?_cons_zero,List.getElem?_cons_succ] at n;clear a m;go_wp2_with (at_builtin; refine Za rfl _ _ 141 rfl 3 D (.int .i64 0) 1 8 Tryz.underlying141 E p q r rfl (by decide) _ j (cellsN (List.replicate j 5)) rfl c.out (some ⟨_,0,none⟩) 1 1 [.int .i64 5] rfl rfl b.out (by intro u y; rw [List.mem_singleton.1 y]; rfl) (by unfold maxLen; omega) (by omega) ?_)
     intro M w4 d _;obtain⟨F,G,rfl,_,_⟩:=Row.form d 0 rfl;have z:=d.cell 2 rfl 1;have N:=d.frozen 2 rfl 1;simp only [List.getElem?_cons_zero,List.getElem?_cons_succ] at z;have l:=hid ((d.pick 3 [2,0,1]).set 1 (.slice F (j+1) G));clear c b n x d;go_wp2_with fail
     go_roundw
     case rel =>
      refine⟨j+1,.slice F (j+1) G,by go_num,by omega,?_⟩;have h:=l.out.pick 3 [1,2,0];rw [List.replicate_succ',ZD];exact h
     case measure=>first | (simp [intOf]; omega) | simp [intOf]
    ·have K:¬ (j:Int)<32:=by omega
     obtain rfl:j=32:=by omega
     have n:=a.cell 2 rfl 0;have W:=a.cell 2 rfl 1;have X:=a.cell 3 rfl 0;have Y:=a.cell 3 rfl 1;have x:=a.frozen 3 rfl 0;have z1:=a.frozen 3 rfl 1;simp only [List.getElem?_cons_zero,List.getElem?_cons_succ] at n W X Y;have l:=hid (((a.pick 4 [3,0,1,2]).set 0 (.slice I 288 J)).set 1 (.slice P 32 Q));clear a;go_wp2_with fail
     have R:=l.out.cell 0 rfl 0;have S:=l.out.cell 0 rfl 1;simp only [List.set_cons_zero,List.set_cons_succ,List.getElem?_cons_zero,List.getElem?_cons_succ] at R S;exact bodyPost_ret (v:=.agg #[.slice I 288 J,.slice P 32 Q]) (by simp [results,go_sem,R,S]) rfl ⟨_,_,rfl,l.out.pick 4 [2,1]⟩
namespace PI
theorem all_pos {B:List Bool} {most:Nat} {r:Nat × List UInt8 × List Blk} (h:all B most=.ok r):r.1<=B.length/\r.2.1.length<=most :=
 let ⟨_,h2,_,h4⟩:=Fine.all.pos B most (Nat.zero_le _) (Nat.zero_le _) r h
 ⟨h2,h4⟩
end PI
namespace PI
theorem getD_cons_drop {α:Type} {l:List α} {k:Nat} (z:α) (h:k<l.length):l.drop k=l.getD k z::l.drop (k+1):=by
 rw [List.drop_eq_getElem_cons h,List.getD_eq_getElem?_getD,List.getElem?_eq_getElem h]; rfl
end PI
namespace PI
theorem runL_eq (x:Nat):∀(l:List Nat) (m:Nat),m<=l.length->(∀j,j<m->l.getD j 0=x)->(m<l.length->l.getD m 0≠x)->runL x l=m:=by
 intro l;induction l with
 | nil=>intro m h _ _; simp at h; rw [h]; rfl
 | cons y l ih =>
  intro m c a b;cases m with
  | zero =>
   have:=b (by simp);unfold runL;rw [if_neg (by simpa using this)]
  | succ m =>
   have d:=a 0 (by omega);unfold runL;rw [if_pos (by simpa using d),ih m (by simpa using c) (fun j hj=>by simpa using a (j+1) (by omega)) (fun hj=>by simpa using b (by simpa using hj))]
theorem runL_at {l:List Nat} {i k:Nat} (hi:i<l.length) (hik:i<k) (hk:k<=l.length) (h:∀j,i<=j->j<k->l.getD j 0=l.getD i 0) (hs:k<l.length->l.getD k 0≠l.getD i 0):runL (l.getD i 0) (l.drop (i+1))+1=k - i:=by
 have e:runL (l.getD i 0) (l.drop i)=k - i:=by
  refine runL_eq _ _ _ (by rw [List.length_drop]; omega) (fun j hj=>?_) (fun hj=>?_)
  ·rw [List.getD_eq_getElem?_getD,List.getElem?_drop,<- List.getD_eq_getElem?_getD];exact h (i+j) (by omega) (by omega)
  ·rw [List.getD_eq_getElem?_getD,List.getElem?_drop,<- List.getD_eq_getElem?_getD,show i+(k - i)=k by omega];exact hs (by rw [List.length_drop] at hj; omega)
 rw [<- e,getD_cons_drop 0 hi,runL,if_pos rfl]
end PI
theorem Y2:∀(l:List PD.Wd) (i:Nat),i<l.length->∀j v,(wdC (l.getD i (0,0,0,0)))[j]?=some v->(Zd l)[i * 4+j]?=some v
 | [],i,h=>by simp at h
 | t::l,0,_=>fun j v hj=>by
  have a:j<(wdC t).length:=(List.getElem?_eq_some_iff.1 hj).1;show(wdC t++Zd l)[0 * 4+j]?=some v;rw [List.getElem?_append_left (by omega),Nat.zero_mul,Nat.zero_add]; exact hj
 | t::l,i+1,h=>fun j v hj=>by
  show(wdC t++Zd l)[(i+1) * 4+j]?=some v;rw [List.getElem?_append_right (by show 4<=_; omega),show(i+1) * 4+j - (wdC t).length=i * 4+j by show _ - 4=_; omega];exact Y2 l i (by simpa using h) j v hj
theorem rdW {w:World} {A:Option Addr} {l:List PD.Wd} (h:Rd w A (Zd l)) {i:Nat} (hi:i<l.length):∃ad,A=some ad/\w.cell? (ad.add (i * 4))=some (.int .i64 ((l.getD i (0,0,0,0)).1:Int))/\w.cell? ⟨(ad.add (i * 4)).block,(ad.add (i * 4)).off+1,none⟩=some (.int .i64 ((l.getD i (0,0,0,0)).2.1:Int))/\w.cell? ⟨(ad.add (i * 4)).block,(ad.add (i * 4)).off+2,none⟩=some (.int .i64 ((l.getD i (0,0,0,0)).2.2.1:Int))/\w.cell? ⟨(ad.add (i * 4)).block,(ad.add (i * 4)).off+3,none⟩=some (.int .i64 ((l.getD i (0,0,0,0)).2.2.2:Int)):=by
 obtain⟨ad,e,b⟩:=h (by intro e; have:=WL l; rw [e] at this; simp at this; omega);have a:=fun j v hj=>b _ _ (Y2 l i hi j v hj);refine⟨ad,e,a 0 _ rfl,?_,?_,?_⟩
 ·rw [Zv ad (i * 4) 1 (by omega)]; exact a 1 _ rfl
 ·rw [Zv ad (i * 4) 2 (by omega)]; exact a 2 _ rfl
 ·rw [Zv ad (i * 4) 3 (by omega)]; exact a 3 _ rfl
theorem VK (m:Nat) (l:List Nat):cntR m l=cellsN (PI.cnts m l):=by unfold cntR cellsN PI.cnts; rw [List.map_map]; rfl
theorem WM {l:List PD.Wd} {i b:Nat} (h:i<l.length):PD.signsOf b (l.take (i+1))=PD.signsOf b (l.take i)++(if (l.getD i (0,0,0,0)).1=b then [(l.getD i (0,0,0,0)).2.1] else []):=by
 rw [List.take_succ_eq_append_getElem h,PD.signsOf_app];congr 1;have e:l.getD i (0,0,0,0)=l[i]:=by rw [List.getD_eq_getElem?_getD,List.getElem?_eq_getElem h]; rfl
 rw [e];unfold PD.signsOf;by_cases a:l[i].1=b
 ·rw [if_pos a,List.filter_cons,if_pos (by simpa using a)]; rfl
 ·rw [if_neg a,List.filter_cons,if_neg (by simpa using a)]; rfl
theorem Yk (A:Option Addr) (n c:Nat) (l:List PD.Wd) (bk m:Nat) (H:Sp w0 L w) (hrd:Ent L fun w=>Rd w A (Zd l)) (hn:n=l.length) (hnm:n<=1000000) (hm:m<=1000) (hs:∀t ∈ l,t.1=bk->t.2.1<m) :
  Calls Tryz.prog 81 #[.slice A n c,.int .i64 bk,.int .i64 m] w fun e w'=>∃v,e=.returned v/\Sp w0 (Row 3 1 v m (cellsN (PI.cnts m (PD.signsOf bk l)))::L) w':=by
 obtain⟨W,X,D,E,F⟩:=info_parts infoInt;rw [<- VK];have G:=hid hrd;have M:=hid hn;have Y:=hid hs;clear hrd hn hs;go_enter Tryz.func81,Tryz.ntmps81
 go_wp2_with (at_make; refine Zk rfl _ _ _ rfl 3 W (.int .i64 0) Tryz.underlying141 X D E rfl m rfl rfl (by rw [F]; omega) (by unfold maxLen; omega) H ?_)
 intro Z w1 d;have N:List.replicate m (Value.int .i64 0)=cntR m (PD.signsOf bk (l.take 0)):=by
  unfold cntR;rw [List.take_zero];apply List.ext_getElem
  ·simp
  ·intro i h1 h2;simp [PD.signsOf]
 rw [N] at d;have z:=hid d;clear H d N;go_wp2_with fail
 go_loopw [14] (fun iv wr=>∃i:Nat,iv=.int .i64 i/\i<=n/\Sp w0 (Row 3 1 (.slice (some Z) m m) m (cntR m (PD.signsOf bk (l.take i)))::L) wr) (fun iv _=>n - (intOf iv).toNat)
 case atStart=>exact⟨0,rfl,Nat.zero_le _,z.out⟩
 case round =>
  obtain⟨i,rfl,a0,d⟩:=hrel;clear z;by_cases I:i<n
  ·have k1:(i:Int)<(n:Int):=by omega
   have h:i<l.length:=by rw [<- M.out]; exact I
   obtain⟨ad,rfl,O,P,Q,S⟩:=rdW (G.out _ _ d.tail) h;have f:=WM (b:=bk) h;have k:l.getD i (0,0,0,0) ∈ l:=by rw [List.getD_eq_getElem?_getD,List.getElem?_eq_getElem h]; exact List.getElem_mem h
   have g:=Y.out _ k;obtain⟨⟨b,s,q,r⟩,T⟩:∃t,l.getD i (0,0,0,0)=t:=⟨_,rfl⟩;rw [T] at O P Q S f g;simp only at O P Q S f g;have u:=d.newBk [.int .i64 b,.int .i64 s,.int .i64 q,.int .i64 r] 179;have t0:=u.cell 0 rfl 0;have t1:=u.cell 0 rfl 1;simp only [List.getElem?_cons_zero,List.getElem?_cons_succ] at t0 t1;obtain⟨R,J⟩:=exq (PD.signsOf bk (l.take i));rw [J] at f d u;have a1:R.length<=i:=by
    rw [<- J]; unfold PD.signsOf;rw [List.length_map];exact Nat.le_trans (List.length_filter_le _ _) (by rw [List.length_take]; omega)
   have j:=hid f;clear T k f J;by_cases U:b=bk
   ·subst U;have o:=g rfl;have k2:(s:Int)<(m:Int):=by omega
    obtain⟨a2,c2,ev,_,B,a3,p⟩:=u.swap.rowSet o;injection ev with e1 e2 e3
    injection e1 with e1
    subst e1;rw [Z0 _ _ _ o] at B;obtain⟨K,x⟩:=exq (R.count s);rw [x] at B;have V:K<=1000000:=by
     have:=List.count_le_length (a:=s) (l:=R);omega
    have y:=p (.int .i64 ((K:Int)+1));rw [Xh m s R ((K:Int)+1) (by rw [x])] at y;have C:=hid y;rw [if_pos rfl] at j;clear p y d u g x e2 e3;go_wp2_with fail
    go_roundw
    case rel =>
     refine⟨i+1,by go_num,by omega,?_⟩;rw [j.out];exact C.out.pick 2 [0]
    case measure=>first | (simp [intOf]; omega) | simp [intOf]
   ·have k2:((b:Int) == (bk:Int))=false:=by rw [beq_eq_false_iff_ne]; omega
    have k3:¬ (b:Int)=(bk:Int):=by omega
    rw [if_neg U,List.append_nil] at j;have z:=hid u.tail;clear d u g;go_wp2_with fail
    go_roundw
    case rel =>
     refine⟨i+1,by go_num,by omega,?_⟩;rw [j.out];exact z.out
    case measure=>first | (simp [intOf]; omega) | simp [intOf]
  ·have k1:¬ (i:Int)<(n:Int):=by omega
   rw [List.take_of_length_le (by rw [<- M.out]; omega)] at d;have z:=hid d;clear d;go_wp2_with fail
   go_ret;exact⟨_,rfl,z.out⟩
theorem Wj (A:Option Addr) (n c:Nat) (l:List Nat) (least:Nat) (H:Sp w0 L w) (hrd:Ent L fun w=>Rd w A (cellsN l)) (hn:n=l.length) (hnm:n<=1000000) (hls:least<=1000000) :
  Calls Tryz.prog 82 #[.slice A n c,.int .i64 least] w fun e w'=>e=.returned (.int .i64 (PD.used l least n:Int))/\Sp w0 L w':=by
 obtain⟨T,m⟩:=exq (PD.used l least n);rw [m];have q:=hid m;have o:=hid hrd;have u:=hid hn;clear hrd hn m;go_enter Tryz.func82,Tryz.ntmps82
 go_wp2_with fail
 go_loopw [5] (fun kv wr=>∃k:Nat,kv=.int .i64 k/\k<=n/\PD.used l least k=T/\Sp w0 L wr) (fun kv _=>(intOf kv).toNat)
 case atStart=>exact⟨n,rfl,Nat.le_refl _,q.out,H⟩
 case round =>
  obtain⟨k,rfl,y,b,i⟩:=hrel;clear q H;by_cases d:least<k
  ·obtain⟨j,rfl⟩:∃j,k=j+1:=⟨k - 1,by omega⟩;have v:((j+1:Nat):Int) > (least:Int):=by omega
   have z:(j:Int)+1 > (least:Int):=by omega
   have f:j<l.length:=by rw [<- u.out]; omega
   have B:(j:Int)<(n:Int):=by omega
   obtain⟨r,rfl,s⟩:=(o.out _ _ i).at_ (k:=j) (by simpa [cellsN] using f);obtain⟨x,p⟩:=exq (l.getD j 0);have g:wr.cell? (r.add j)=some (.int .i64 x):=by
    rw [s,<- p,List.getD_eq_getElem?_getD,List.getElem?_eq_getElem f]; simp [cellsN]
   rw [PD.used,p] at b;have a:=hid b;clear s p b;by_cases t:x=0
   ·subst t;replace g:wr.cell? (r.add j)=some (.int .i64 0):=g;rw [if_pos ⟨d,rfl⟩] at a;go_wp2_with fail
    go_roundw
    case rel=>exact⟨j,by go_num,by omega,a.out,i⟩
    case measure=>first | (simp [intOf]; omega) | simp [intOf]
   ·have C:((x:Int) == 0)=false:=by rw [beq_eq_false_iff_ne]; omega
    have D:¬ (x:Int)=0:=by omega
    rw [if_neg (fun h=>t h.2)] at a;go_wp2_with fail
    go_ret;exact⟨by rw [<- a.out]; rfl,i⟩
  ·have v:¬ (k:Int) > (least:Int):=by omega
   have a:Hid (k=T):=by
    rw [<- b];cases k with
    | zero=>exact hid rfl
    | succ j=>rw [PD.used,if_neg (fun h=>d h.1)]; exact hid rfl
   clear b;go_wp2_with fail
   go_ret;exact⟨by rw [<- a.out]; rfl,i⟩
end Go.Proofs.YtnjpnmpemhldcaaGreatDoor

