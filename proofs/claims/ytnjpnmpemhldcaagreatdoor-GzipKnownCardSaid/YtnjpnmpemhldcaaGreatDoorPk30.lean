/- A pack. -/
import Derived.Test.YtnjpnmpemhldcaaGreatDoorPk29
set_option linter.all false
set_option maxRecDepth 100000
set_option maxHeartbeats 8000000
namespace Go.Proofs.YtnjpnmpemhldcaaGreatDoor
variable {w0 w:World} {L:List Pr}
open Go.RowKit
theorem rdN {w:World} {A:Option Addr} {l:List Nat} (h:Rd w A (cellsN l)) {i:Nat} (hi:i<l.length):∃ad,A=some ad/\w.cell? (ad.add i)=some (.int .i64 (l.getD i 0:Nat)):=by
 obtain⟨ad,e,a⟩:=h.at_ (k:=i) (by simpa [cellsN] using hi);refine⟨ad,e,?_⟩;rw [a,List.getD_eq_getElem?_getD,List.getElem?_eq_getElem hi];simp [cellsN]
theorem rdN' {ad:Addr} {l:List Nat} {w:World} (h:Rd w (some ad) (cellsN l)) {i:Nat} (hi:i<l.length):w.cell? (ad.add i)=some (.int .i64 (l.getD i 0:Nat)):=by
 obtain⟨b,e,a⟩:=rdN h hi;injection e with e
 rw [e]; exact a
theorem drun_ok (A:Option Addr) (n c:Nat) (l:List Nat) (i:Nat) {w0 w:World} {L:List Pr} (H:Sp w0 L w) (hrd:Ent L fun w=>Rd w A (cellsN l)) (hn:n=l.length) (hnm:n<=1000000) (hi:i<n) :
  Calls Tryz.prog 116 #[.slice A n c,.int .i64 (i:Int)] w fun e w'=>e=.returned (.int .i64 ((PI.runL (l.getD i 0) (l.drop (i+1))+1:Nat):Int))/\Sp w0 L w':=by
 obtain⟨T,hT⟩:∃T,PI.runL (l.getD i 0) (l.drop (i+1))+1=T:=⟨_,rfl⟩
 rw [hT]
 have hil:i<l.length:=by rw [<- hn]; exact hi
 obtain⟨ad,rfl,hc0⟩:=rdN (hrd _ _ H) hil
 obtain⟨x,hx⟩:∃x,l.getD i 0=x:=⟨_,rfl⟩
 have HT:=Lib.hid hT
 have HRD:=Lib.hid hrd
 have HN:=Lib.hid hn
 have HX:=Lib.hid hx
 clear hrd hn hT hx hc0
 go_enter Tryz.func116,Tryz.ntmps116
 go_wp2_with fail
 go_loopw [5] (fun kv wr=>∃k:Nat,kv=.int .i64 (k:Int)/\i+k<=n/\(∀j,i<=j->j<i+k->l.getD j 0=x)/\Sp w0 L wr) (fun kv _=>n - (intOf kv).toNat)
 case atStart=>exact⟨0,rfl,by omega,fun j h1 h2=>by omega,H⟩
 case round =>
  obtain⟨k,rfl,hk,hall,H1⟩:=hrel
  have HALL:=Lib.hid hall
  obtain⟨q,hq⟩:∃q,i+k=q:=⟨_,rfl⟩
  have y1:(i:Int)+(k:Int)=(q:Int):=by omega
  have c0:=rdN' (HRD.out _ _ H1) hil
  rw [HX.out] at c0
  clear hall
  by_cases hqn:q<n
  ·have n1:(q:Int)<(n:Int):=by omega
   have n2:decide ((q:Int)<(n:Int))=true:=decide_eq_true n1
   have n3:(i:Int)<(n:Int):=by omega
   have hql:q<l.length:=by rw [<- HN.out]; exact hqn
   have c1:=rdN' (HRD.out _ _ H1) hql
   obtain⟨y,hy⟩:∃y,l.getD q 0=y:=⟨_,rfl⟩
   rw [hy] at c1
   have HY:=Lib.hid hy
   clear hy
   by_cases hyx:y=x
   ·subst hyx
    have HH1:=Lib.hid H1
    clear H1 H
    go_wp2_with fail
    go_quiet (fail)
    have HQ:=Lib.hid (HH1.out.drewN nq)
    clear HH1
    go_wp2_with fail
    go_roundw
    case rel=>exact⟨k+1,by go_num,by omega,fun j h1 h2=>by
     by_cases e:j=q
     ·rw [e]; exact HY.out
     ·exact HALL.out j h1 (by omega),HQ.out⟩
    case measure=>first | (simp [intOf]; omega) | simp [intOf]
   ·have n4:((y:Int) == (x:Int))=false:=by rw [beq_eq_false_iff_ne]; omega
    have n5:¬ (y:Int)=(x:Int):=by omega
    have HK:Hid (k=T):=by
     rw [<- HT.out]
     have k0:0<k:=by
      rcases Nat.eq_zero_or_pos k with h | h
      ·subst h
       have:q=i:=by omega
       subst this
       exact absurd (HY.out.symm.trans HX.out) hyx
      ·exact h
     have h:=PI.runL_at (l:=l) (i:=i) (k:=q) hil (by omega) (by omega) (fun j h1 h2=>by rw [HX.out]; exact HALL.out j h1 (by omega)) (fun _=>by rw [HY.out,HX.out]; exact hyx)
     rw [h]
     exact Lib.hid (by omega)
    have HH1:=Lib.hid H1
    clear H1 H HT HALL
    go_wp2_with fail
    go_quiet (fail)
    have HQ:=Lib.hid (HH1.out.drewN nq)
    clear HH1
    go_wp2_with fail
    go_ret
    exact⟨by rw [<- HK.out]; rfl,HQ.out⟩
  ·have n1:¬ (q:Int)<(n:Int):=by omega
   have n2:decide ((q:Int)<(n:Int))=false:=decide_eq_false n1
   have HK:Hid (k=T):=by
    rw [<- HT.out]
    have h:=PI.runL_at (l:=l) (i:=i) (k:=q) hil (by omega) (by have:=HN.out; omega) (fun j h1 h2=>by rw [HX.out]; exact HALL.out j h1 (by omega)) (fun h=>by have:=HN.out; omega)
    rw [h]
    exact Lib.hid (by omega)
   have HH1:=Lib.hid H1
   clear H1 H HT HALL
   go_wp2_with fail
   go_quiet (fail)
   have HQ:=Lib.hid (HH1.out.drewN nq)
   clear HH1
   go_wp2_with fail
   go_ret
   exact⟨by rw [<- HK.out]; rfl,HQ.out⟩
namespace PD
theorem runL_get (x:Nat):∀(r:List Nat) (j:Nat),j<PI.runL x r->r.getD j 0=x:=by
 intro r;induction r with
 | nil=>intro j h; simp [PI.runL] at h
 | cons y r ih =>
  intro j h;unfold PI.runL at h;split at h
  ·rename_i e
   cases j with
   | zero=>exact e
   | succ j=>exact ih j (by omega)
  ·omega
theorem rl_at {l:List Nat} {i f p:Nat} (hi:i<l.length):rl (f+1) p (l.drop i) =
  if p=l.getD i 0/\l.getD i 0≠0/\3<=PI.runL (l.getD i 0) (l.drop (i+1))+1 then (16,min (PI.runL (l.getD i 0) (l.drop (i+1))+1) 6 - 3)::rl f (l.getD i 0) (l.drop (i+min (PI.runL (l.getD i 0) (l.drop (i+1))+1) 6))
  else if l.getD i 0=0/\11<=PI.runL (l.getD i 0) (l.drop (i+1))+1 then (18,min (PI.runL (l.getD i 0) (l.drop (i+1))+1) 138 - 11)::rl f (l.getD i 0) (l.drop (i+min (PI.runL (l.getD i 0) (l.drop (i+1))+1) 138))
  else if l.getD i 0=0/\3<=PI.runL (l.getD i 0) (l.drop (i+1))+1 then (17,PI.runL (l.getD i 0) (l.drop (i+1))+1 - 3)::rl f (l.getD i 0) (l.drop (i+(PI.runL (l.getD i 0) (l.drop (i+1))+1)))
  else (l.getD i 0,0)::rl f (l.getD i 0) (l.drop (i+1)):=by
 have e:l.drop i=l.getD i 0::l.drop (i+1):=by
  rw [List.drop_eq_getElem_cons hi,List.getD_eq_getElem?_getD,List.getElem?_eq_getElem hi]; rfl
 generalize l.getD i 0=x at e ⊢;generalize l.drop (i+1)=r at e ⊢;have d:∀k,l.drop (i+k)=(x::r).drop k:=fun k=>by rw [<- e,List.drop_drop]
 rw [d (min (PI.runL x r+1) 6),d (min (PI.runL x r+1) 138),d (PI.runL x r+1),e];rfl
end PD
theorem Ux (A:Option Addr) (n c:Nat) (l:List Nat) (H:Sp w0 L w) (hrd:Ent L fun w=>Rd w A (cellsN l)) (hn:n=l.length) (hnm:n<=100000) (h15:∀x ∈ l,x<=15) :
  Calls Tryz.prog 83 #[.slice A n c] w fun e w'=>∃v,e=.returned v/\Sp w0 (Row 179 4 v ((PD.row l).map PD.rwd).length (Zd ((PD.row l).map PD.rwd))::L) w':=by
 obtain⟨Z,hj,D,E,F⟩:=info_parts infoT;obtain⟨FW,W⟩:=exq ((PD.row l).map PD.rwd);rw [W];have a0:([]:List PD.Wd)++(PD.rl n 0 (l.drop 0)).map PD.rwd=FW:=by rw [<- W,hn]; rfl
 have HF:=hid a0;have z:=hid hrd;have y:=hid hn;have b3:=hid h15;clear hrd hn h15 W a0;go_enter Tryz.func83,Tryz.ntmps83
 go_wp2_with fail
 go_loopw [3,4] (fun rv iv wr=>∃(i f:Nat) (R:List PD.Wd) (p:Nat),iv=.int .i64 i/\i<=n/\n<=i+f/\R.length<=i/\(if i=0 then 0 else l.getD (i - 1) 0)=p/\R++(PD.rl f p (l.drop i)).map PD.rwd=FW/\Sp w0 (Row 179 4 rv R.length (Zd R)::L) wr) (fun _ iv _=>n - (intOf iv).toNat)
 case atStart=>exact⟨0,n,[],0,rfl,Nat.zero_le _,by omega,Nat.le_refl _,rfl,HF.out,H.rowNil _ _⟩
 case round =>
  obtain⟨i,f,R,p,rfl,b6,hf,b7,hp,O,d⟩:=hrel;clear H HF;have G:=hid O;have HP:=hid hp;clear O hp;by_cases a1:i<n
  ·have k1:(i:Int)<(n:Int):=by omega
   have u:i<l.length:=by rw [<- y.out]; exact a1
   obtain⟨f,rfl⟩:∃f',f=f'+1:=⟨f - 1,by omega⟩;have J:=PD.rl_at (f:=f) (p:=p) u;obtain⟨ad,rfl,B⟩:=rdN (z.out _ _ d.tail) u;have I:=drun_ok (some ad) n c l i d (fun w0 w h=>z.out w0 w h.tail) y.out (by omega) a1;obtain⟨x,Y⟩:=exq (l.getD i 0);have a2:x<=15:=by
    rw [<- Y,List.getD_eq_getElem?_getD,List.getElem?_eq_getElem u];exact b3.out _ (List.getElem_mem u)
   obtain⟨q,hq⟩:=exq (PI.runL (l.getD i 0) (l.drop (i+1))+1);have b8:1<=q/\i+q<=n:=by
    have:=PI.runL_le (l.getD i 0) (l.drop (i+1));rw [List.length_drop] at this;have:=y.out;omega
   have P:∀k,1<=k->k<=q->(if i+k=0 then 0 else l.getD (i+k - 1) 0)=x:=fun k h1 h2=>by
    rw [if_neg (by omega)];by_cases e:k=1
    ·subst e; rw [Nat.add_sub_cancel]; exact Y
    ·have h:=PD.runL_get (l.getD i 0) (l.drop (i+1)) (k - 2) (by omega);rw [List.getD_eq_getElem?_getD,List.getElem?_drop,show i+1+(k - 2)=i+k - 1 by omega,Y] at h;rw [List.getD_eq_getElem?_getD];exact h
   rw [hq] at J I;rw [Y] at J B;obtain⟨K,a3⟩:=exq (decide (p=x/\x≠0));have s:=hid P;have a4:=hid J;have Q:=hid I;have M:=hid a3;have HX:=hid Y;obtain⟨VR,a5,rfl,_,_⟩:=Row.form d 0 rfl;clear J I P hq Y a3;go_wp2_with fail
   refine Q.out.mono ?_;rintro _ w2 ⟨rfl,d⟩;clear Q B;go_upto_region 5 with (fail)
   go_cut [6] from 7 to 93 (fun s6 wx=>s6=.bool K/\Sp w0 (Row 179 4 (.slice VR R.length a5) R.length (Zd R)::L) wx)
   case first =>
    have B:=rdN' (z.out _ _ d.tail) u;rw [HX.out] at B;have t:=hid d;by_cases a6:0<i
    ·have g1:(i:Int) > 0:=by omega
     have g2:decide (0<i)=true:=decide_eq_true a6;obtain⟨j,a7⟩:=exq (i - 1);have y1:(i:Int) - 1=(j:Int):=by omega
     have k2:(j:Int)<(n:Int):=by omega
     have S:=rdN' (i:=j) (z.out _ _ d.tail) (by omega);have a8:l.getD j 0=p:=by
      have h:=HP.out;rw [if_neg (by omega),a7] at h;exact h
     rw [a8] at S;have o:=M.out;clear d a8 a7;by_cases C:p=x
     ·subst C;by_cases T:p=0
      ·have e:K=false:=by rw [<- o,decide_eq_false]; exact fun h=>h.2 T
       subst e T;replace B:w2.cell? (ad.add i)=some (.int .i64 0):=B;replace S:w2.cell? (ad.add j)=some (.int .i64 0):=S;clear o;go_wp2_with fail
       go_quiet (fail)
       have X:=hid (t.out.drewN nq);clear t;go_wp2_with fail
       go_meet
       exact⟨rfl,X.out⟩
      ·have e:K=true:=by rw [<- o,decide_eq_true]; exact⟨rfl,T⟩
       subst e;have g5:¬ (p:Int)=0:=by omega
       have g6:((p:Int) != 0)=true:=by simpa using T
       clear o;go_wp2_with fail
       go_quiet (fail)
       have X:=hid (t.out.drewN nq);clear t;go_wp2_with fail
       go_meet
       exact⟨rfl,X.out⟩
     ·have e:K=false:=by rw [<- o,decide_eq_false]; exact fun h=>C h.1
      subst e;have g5:¬ (p:Int)=(x:Int):=by omega
      have g6:((p:Int) == (x:Int))=false:=by rw [beq_eq_false_iff_ne]; exact g5
      clear o;go_wp2_with fail
      go_quiet (fail)
      have X:=hid (t.out.drewN nq);clear t;go_wp2_with fail
      go_meet
      exact⟨rfl,X.out⟩
    ·have g1:¬ (i:Int) > 0:=by omega
     have g2:decide (0<i)=false:=decide_eq_false a6;have e:K=false:=by
      rw [<- M.out,decide_eq_false];have h:=HP.out;rw [if_pos (by omega)] at h;intro h2; exact h2.2 (by omega)
     subst e;clear d;go_wp2_with fail
     go_quiet (fail)
     have X:=hid (t.out.drewN nq);clear t;go_wp2_with fail
     go_meet
     exact⟨rfl,X.out⟩
   case rest =>
    obtain⟨rfl,d⟩:=hcut;have g:=a4.out;have HA:=M.out;clear a4 M;by_cases S:K=true/\3<=q
    ·obtain⟨rfl,h3⟩:=S;have C:=of_decide_eq_true HA;rw [if_pos ⟨C.1,C.2,h3⟩] at g;obtain⟨m,hm⟩:=exq (min q 6);obtain⟨v,U⟩:=exq (m - 3);have y1:min (q:Int) 6=(m:Int):=by omega
     have y2:(m:Int) - 3=(v:Int):=by omega
     have y3:(q:Int)≥3:=by omega
     rw [hm,U] at g;have a9:Hid (R++(((0,16,2,v):PD.Wd)::(PD.rl f x (l.drop (i+m))).map PD.rwd)=FW):=by rw [<- G.out,g]; exact hid rfl
     have y:=a9;have b4:1<=m/\m<=q:=by omega
     clear G g HA hm U C a9;have r:=d.newBk (wdC (0,16,2,v)) 179;have a:=hid (Rd.of_blk (r.blk 0 rfl));have b:=hid (r.pick 2 [1]);clear d r;go_wp2_with (at_builtin; refine Za rfl _ _ 139 rfl 179 Z (.agg #[.int .i64 0,.int .i64 0,.int .i64 0,.int .i64 0]) 4 32 Tryz.underlying139 hj D E F rfl (by decide) _ R.length (Zd R) rfl b.out (some ⟨_,0,none⟩) 1 1 (wdC (0,16,2,v)) rfl rfl a.out (ZR _) (by unfold maxLen; omega) (by omega) ?_)
     intro v4 w4 N _;clear b a;go_wp2_with fail
     go_roundw
     case rel =>
      refine⟨i+m,f,R++[(0,16,2,v)],x,by go_num,by omega,by omega,by rw [List.length_append]; simp only [List.length_cons,List.length_nil]; omega,s.out m (by omega) (by omega),by rw [List.append_assoc]; exact y.out,?_⟩;rw [List.length_append,Zw];rw [show Zd [((0,16,2,v):PD.Wd)]=wdC (0,16,2,v) from List.append_nil _];exact N
     case measure=>first | (simp [intOf]; omega) | simp [intOf]
    ·have b0:PD.rl (f+1) p (l.drop i)=if x=0/\11<=q then (18,min q 138 - 11)::PD.rl f x (l.drop (i+min q 138)) else if x=0/\3<=q then (17,q - 3)::PD.rl f x (l.drop (i+q)) else (x,0)::PD.rl f x (l.drop (i+1)):=by
      rw [g,if_neg];intro h;exact S ⟨by rw [<- HA,decide_eq_true]; exact⟨h.1,h.2.1⟩,h.2.2⟩
     have b1:K=false∨¬ (q:Int)≥3:=by
      cases K
      ·exact .inl rfl
      ·exact .inr fun h=>S ⟨rfl,by omega⟩
     have B:=rdN' (z.out _ _ d.tail) u;rw [HX.out] at B;have a:=hid b0;clear g b0 HA S;clear B;go_upto_region 8 with (fail)
     go_cut [43] from 7 to 93 (fun s43 wx=>s43=.bool false/\Sp w0 (Row 179 4 (.slice VR R.length a5) R.length (Zd R)::L) wx)
     case first =>
      rcases b1 with rfl | y3
      ·go_wp2_with fail
       go_meet
       exact⟨rfl,d⟩
      ·cases K
       ·go_wp2_with fail
        go_meet
        exact⟨rfl,d⟩
       ·go_wp2_with fail
        go_meet
        exact⟨rfl,d⟩
     case rest =>
      obtain⟨rfl,d⟩:=hcut;clear b1;have g:=a.out;have B:=rdN' (z.out _ _ d.tail) u;rw [HX.out] at B;clear a;by_cases T:x=0
      ·subst T;replace B:World.cell? _ (ad.add i)=some (.int .i64 0):=B;by_cases b2:11<=q
       ·rw [if_pos ⟨rfl,b2⟩] at g;have y3:(q:Int)≥11:=by omega
        obtain⟨m,hm⟩:=exq (min q 138);obtain⟨v,U⟩:=exq (m - 11);have y1:min (q:Int) 138=(m:Int):=by omega
        have y2:(m:Int) - 11=(v:Int):=by omega
        rw [hm,U] at g;have y:Hid (R++(((0,18,7,v):PD.Wd)::(PD.rl f 0 (l.drop (i+m))).map PD.rwd)=FW):=by rw [<- G.out,g]; exact hid rfl
        have b4:1<=m/\m<=q:=by omega
        clear G g hm U;have r:=d.newBk (wdC (0,18,7,v)) 179;have a:=hid (Rd.of_blk (r.blk 0 rfl));have b:=hid (r.pick 2 [1]);clear d r;go_wp2_with (at_builtin; refine Za rfl _ _ 139 rfl 179 Z (.agg #[.int .i64 0,.int .i64 0,.int .i64 0,.int .i64 0]) 4 32 Tryz.underlying139 hj D E F rfl (by decide) _ R.length (Zd R) rfl b.out (some ⟨_,0,none⟩) 1 1 (wdC (0,18,7,v)) rfl rfl a.out (ZR _) (by unfold maxLen; omega) (by omega) ?_)
        intro v4 w4 N _;clear b a;go_wp2_with fail
        go_roundw
        case rel =>
         refine⟨i+m,f,R++[(0,18,7,v)],0,by go_num,by omega,by omega,by rw [List.length_append]; simp only [List.length_cons,List.length_nil]; omega,s.out m (by omega) (by omega),by rw [List.append_assoc]; exact y.out,?_⟩;rw [List.length_append,Zw];rw [show Zd [((0,18,7,v):PD.Wd)]=wdC (0,18,7,v) from List.append_nil _];exact N
        case measure=>first | (simp [intOf]; omega) | simp [intOf]
       ·rw [if_neg (fun h=>b2 h.2)] at g;have y3:¬ (q:Int)≥11:=by omega
        by_cases h3:3<=q
        ·rw [if_pos ⟨rfl,h3⟩] at g;have y4:(q:Int)≥3:=by omega
         obtain⟨v,U⟩:=exq (q - 3);have y2:(q:Int) - 3=(v:Int):=by omega
         rw [U] at g;have y:Hid (R++(((0,17,3,v):PD.Wd)::(PD.rl f 0 (l.drop (i+q))).map PD.rwd)=FW):=by rw [<- G.out,g]; exact hid rfl
         clear G g U;have r:=d.newBk (wdC (0,17,3,v)) 179;have a:=hid (Rd.of_blk (r.blk 0 rfl));have b:=hid (r.pick 2 [1]);clear d r;go_wp2_with (at_builtin; refine Za rfl _ _ 139 rfl 179 Z (.agg #[.int .i64 0,.int .i64 0,.int .i64 0,.int .i64 0]) 4 32 Tryz.underlying139 hj D E F rfl (by decide) _ R.length (Zd R) rfl b.out (some ⟨_,0,none⟩) 1 1 (wdC (0,17,3,v)) rfl rfl a.out (ZR _) (by unfold maxLen; omega) (by omega) ?_)
         intro v4 w4 N _;clear b a;go_wp2_with fail
         go_roundw
         case rel =>
          refine⟨i+q,f,R++[(0,17,3,v)],0,by go_num,by omega,by omega,by rw [List.length_append]; simp only [List.length_cons,List.length_nil]; omega,s.out q (by omega) (by omega),by rw [List.append_assoc]; exact y.out,?_⟩;rw [List.length_append,Zw];rw [show Zd [((0,17,3,v):PD.Wd)]=wdC (0,17,3,v) from List.append_nil _];exact N
         case measure=>first | (simp [intOf]; omega) | simp [intOf]
        ·rw [if_neg (fun h=>h3 h.2)] at g;have y4:¬ (q:Int)≥3:=by omega
         have y:Hid (R++(((0,0,0,0):PD.Wd)::(PD.rl f 0 (l.drop (i+1))).map PD.rwd)=FW):=by rw [<- G.out,g]; exact hid rfl
         clear G g;have r:=d.newBk (wdC (0,0,0,0)) 179;have a:=hid (Rd.of_blk (r.blk 0 rfl));have b:=hid (r.pick 2 [1]);clear d r;go_wp2_with (at_builtin; refine Za rfl _ _ 139 rfl 179 Z (.agg #[.int .i64 0,.int .i64 0,.int .i64 0,.int .i64 0]) 4 32 Tryz.underlying139 hj D E F rfl (by decide) _ R.length (Zd R) rfl b.out (some ⟨_,0,none⟩) 1 1 (wdC (0,0,0,0)) rfl rfl a.out (ZR _) (by unfold maxLen; omega) (by omega) ?_)
         intro v4 w4 N _;clear b a;go_wp2_with fail
         go_roundw
         case rel =>
          refine⟨i+1,f,R++[(0,0,0,0)],0,by go_num,by omega,by omega,by rw [List.length_append]; simp only [List.length_cons,List.length_nil]; omega,s.out 1 (by omega) (by omega),by rw [List.append_assoc]; exact y.out,?_⟩;rw [List.length_append,Zw];rw [show Zd [((0,0,0,0):PD.Wd)]=wdC (0,0,0,0) from List.append_nil _];exact N
         case measure=>first | (simp [intOf]; omega) | simp [intOf]
      ·rw [if_neg (fun h=>T h.1),if_neg (fun h=>T h.1)] at g;have y3:¬ (x:Int)=0:=by omega
       have y4:((x:Int) == 0)=false:=by rw [beq_eq_false_iff_ne]; exact y3
       have y:Hid (R++(((0,x,0,0):PD.Wd)::(PD.rl f x (l.drop (i+1))).map PD.rwd)=FW):=by
        rw [<- G.out,g,List.map_cons];have e:PD.rwd (x,0)=(0,x,0,0):=by unfold PD.rwd; rw [PI.tellB_small x a2]
        rw [e]; exact hid rfl
       clear G g;have r:=d.newBk (wdC (0,x,0,0)) 179;have a:=hid (Rd.of_blk (r.blk 0 rfl));have b:=hid (r.pick 2 [1]);clear d r;go_wp2_with (at_builtin; refine Za rfl _ _ 139 rfl 179 Z (.agg #[.int .i64 0,.int .i64 0,.int .i64 0,.int .i64 0]) 4 32 Tryz.underlying139 hj D E F rfl (by decide) _ R.length (Zd R) rfl b.out (some ⟨_,0,none⟩) 1 1 (wdC (0,x,0,0)) rfl rfl a.out (ZR _) (by unfold maxLen; omega) (by omega) ?_)
       intro v4 w4 N _;clear b a;go_wp2_with fail
       go_roundw
       case rel =>
        refine⟨i+1,f,R++[(0,x,0,0)],x,by go_num,by omega,by omega,by rw [List.length_append]; simp only [List.length_cons,List.length_nil]; omega,s.out 1 (by omega) (by omega),by rw [List.append_assoc]; exact y.out,?_⟩;rw [List.length_append,Zw];rw [show Zd [((0,x,0,0):PD.Wd)]=wdC (0,x,0,0) from List.append_nil _];exact N
       case measure=>first | (simp [intOf]; omega) | simp [intOf]
  ·have k1:¬ (i:Int)<(n:Int):=by omega
   have V:FW=R:=by
    rw [<- G.out,List.drop_eq_nil_of_le (by rw [<- y.out]; omega)];have:PD.rl f p []=[]:=by cases f <;> rfl
    rw [this]; simp
   have b5:=hid V;have HX:=hid d;clear d V;go_wp2_with fail
   go_ret;exact⟨_,rfl,by rw [b5.out]; exact HX.out⟩
end Go.Proofs.YtnjpnmpemhldcaaGreatDoor

