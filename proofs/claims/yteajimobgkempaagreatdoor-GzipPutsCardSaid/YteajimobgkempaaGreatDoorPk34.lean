/- A pack. -/
import Derived.Deep.CutBlock
import Derived.Test.YteajimobgkempaaGreatDoorPk30
set_option linter.all false
set_option maxRecDepth 100000
set_option maxHeartbeats 8000000
namespace Go.Proofs.YteajimobgkempaaGreatDoor
variable {w0 w:World} {L:List Pr}
open Go.RowKit
def tlC (t:PD.Wd):List Value:=[.int .i64 t.2.1,.int .i64 t.2.2.1,.int .i64 t.2.2.2]
def cellsT (l:List PD.Wd):List Value:=l.flatMap tlC
theorem cellsT_app (a b:List PD.Wd):cellsT (a++b)=cellsT a++cellsT b:=by unfold cellsT; rw [List.flatMap_append]
theorem tlC_one (t:PD.Wd):∀u ∈ tlC t,u.oneCell'=true:=by
 intro u a;simp only [tlC,List.mem_cons,List.not_mem_nil,or_false] at a;rcases a with rfl | rfl | rfl <;> rfl
theorem infoTl:(Tryz.prog.info? 156).map (fun i=>(i.zero,i.size,i.bytes))=some (some (.agg #[.int .i64 0,.int .i64 0,.int .i64 0]),3,24):=by kernel_rfl
theorem rrows_ok (A:Option Addr) (n c:Nat) (l:List Nat) {w0 w:World} {L:List Pr} (H:Sp w0 L w) (hrd:Ent L fun w=>Rd w A (cellsN l)) (hn:n=l.length) (hnm:n<=100000) (h15:∀x ∈ l,x<=15) :
  Calls Tryz.prog 93 #[.slice A n c] w fun e w'=>∃v,e=.returned v/\Sp w0 (Row 156 3 v ((PD.row l).map PD.rwd).length (cellsT ((PD.row l).map PD.rwd))::L) w':=by
 obtain⟨i1,hj,hj0,hj1,hj2⟩:=info_parts infoTl
 obtain⟨FW,hFW⟩:∃FW,(PD.row l).map PD.rwd=FW:=⟨_,rfl⟩
 rw [hFW]
 have hF0:([]:List PD.Wd)++(PD.rl n 0 (l.drop 0)).map PD.rwd=FW:=by rw [<- hFW,hn]; rfl
 have HF:=Lib.hid hF0
 have HRD:=Lib.hid hrd
 have HN:=Lib.hid hn
 have H15:=Lib.hid h15
 clear hrd hn h15 hFW hF0
 go_enter Tryz.func93,Tryz.ntmps93
 go_wp2_with fail
 go_loopw [3,4] (fun rv iv wr=>∃(i f:Nat) (R:List PD.Wd) (p:Nat),iv=.int .i64 (i:Int)/\i<=n/\n<=i+f/\R.length<=i/\(if i=0 then 0 else l.getD (i - 1) 0)=p/\R++(PD.rl f p (l.drop i)).map PD.rwd=FW/\Sp w0 (Row 156 3 rv R.length (cellsT R)::L) wr) (fun _ iv _=>n - (intOf iv).toNat)
 case atStart=>exact⟨0,n,[],0,rfl,Nat.zero_le _,by omega,Nat.le_refl _,rfl,HF.out,H.rowNil _ _⟩
 case round =>
  obtain⟨i,f,R,p,rfl,hin,hf,hRl,hp,hinv,H1⟩:=hrel
  clear H HF
  have HI:=Lib.hid hinv
  have HP:=Lib.hid hp
  clear hinv hp
  by_cases hlt:i<n
  ·have k1:(i:Int)<(n:Int):=by omega
   have hil:i<l.length:=by rw [<- HN.out]; exact hlt
   obtain⟨f,rfl⟩:∃f',f=f'+1:=⟨f - 1,by omega⟩
   have hrl:=PD.rl_at (f:=f) (p:=p) hil
   obtain⟨ad,rfl,c0⟩:=rdN (HRD.out _ _ H1.tail) hil
   obtain⟨x,hx⟩:∃x,l.getD i 0=x:=⟨_,rfl⟩
   have hx15:x<=15:=by
    rw [<- hx,List.getD_eq_getElem?_getD,List.getElem?_eq_getElem hil]
    exact H15.out _ (List.getElem_mem hil)
   obtain⟨q,hq⟩:∃q,PI.runL (l.getD i 0) (l.drop (i+1))+1=q:=⟨_,rfl⟩
   have hqn:1<=q/\i+q<=n:=by
    have:=PI.runL_le (l.getD i 0) (l.drop (i+1))
    rw [List.length_drop] at this
    have:=HN.out
    omega
   have hget:∀k,1<=k->k<=q->(if i+k=0 then 0 else l.getD (i+k - 1) 0)=x:=fun k h1 h2=>by
    rw [if_neg (by omega)]
    by_cases e:k=1
    ·subst e; rw [Nat.add_sub_cancel]; exact hx
    ·have h:=PD.runL_get (l.getD i 0) (l.drop (i+1)) (k - 2) (by omega)
     rw [List.getD_eq_getElem?_getD,List.getElem?_drop,show i+1+(k - 2)=i+k - 1 by omega,hx] at h
     rw [List.getD_eq_getElem?_getD]
     exact h
   rw [hq] at hrl
   rw [hx] at hrl c0
   obtain⟨ag,hag⟩:∃ag,decide (p=x/\x≠0/\3<=q)=ag:=⟨_,rfl⟩
   have HGET:=Lib.hid hget
   have HRL:=Lib.hid hrl
   have HQ0:=Lib.hid hq
   have HAG:=Lib.hid hag
   have HX:=Lib.hid hx
   obtain⟨VR,vrc,rfl,_,_⟩:=Row.form H1 0 rfl
   clear hrl hget hq hx hag
   go_upto_block 2 with (fail)
   go_cut [5] from 6 to 106 (fun s5 wx=>s5=.int .i64 (q:Int)/\Sp w0 (Row 156 3 (.slice VR R.length vrc) R.length (cellsT R)::L) wx)
   case first =>
    have HX1:=Lib.hid H1
    clear H1 c0
    go_wp2_with fail
    go_loopw [5] (fun kv wr=>∃k:Nat,kv=.int .i64 (k:Int)/\1<=k/\i+k<=n/\(∀j,i<=j->j<i+k->l.getD j 0=x)/\Sp w0 (Row 156 3 (.slice VR R.length vrc) R.length (cellsT R)::L) wr) (fun kv _=>n - (intOf kv).toNat)
    case atStart=>exact⟨1,rfl,Nat.le_refl _,by omega,fun j h1 h2=>by rw [show j=i by omega]; exact HX.out,HX1.out⟩
    case round =>
     obtain⟨k,rfl,hk1,hk,hall,H1⟩:=hrel
     clear HX1
     have HALL:=Lib.hid hall
     obtain⟨j9,hj9⟩:∃j,i+k=j:=⟨_,rfl⟩
     have y1:(i:Int)+(k:Int)=(j9:Int):=by omega
     have c0:=rdN' (HRD.out _ _ H1.tail) hil
     rw [HX.out] at c0
     clear hall
     by_cases hqn9:j9<n
     ·have n1:(j9:Int)<(n:Int):=by omega
      have n2:decide ((j9:Int)<(n:Int))=true:=decide_eq_true n1
      have hql:j9<l.length:=by rw [<- HN.out]; exact hqn9
      have c1:=rdN' (HRD.out _ _ H1.tail) hql
      obtain⟨y,hy⟩:∃y,l.getD j9 0=y:=⟨_,rfl⟩
      rw [hy] at c1
      have HY:=Lib.hid hy
      clear hy
      by_cases hyx:y=x
      ·subst hyx
       have HH1:=Lib.hid H1
       clear H1
       go_wp2_with fail
       go_quiet (fail)
       have HQ:=Lib.hid (HH1.out.drewN nq)
       clear HH1
       go_wp2_with fail
       go_roundw
       case rel=>exact⟨k+1,by go_num,by omega,by omega,fun j h1 h2=>by
        by_cases e:j=j9
        ·rw [e]; exact HY.out
        ·exact HALL.out j h1 (by omega),HQ.out⟩
       case measure=>first | (simp [intOf]; omega) | simp [intOf]
      ·have n4:((y:Int) == (x:Int))=false:=by rw [beq_eq_false_iff_ne]; omega
       have n5:¬ (y:Int)=(x:Int):=by omega
       have hkq:k=q:=by
        rw [<- HQ0.out]
        have h:=PI.runL_at (l:=l) (i:=i) (k:=j9) hil (by omega) (by omega) (fun j h1 h2=>by rw [HX.out]; exact HALL.out j h1 (by omega)) (fun _=>by rw [HY.out,HX.out]; exact hyx)
        rw [h]
        exact Lib.hid (by omega)
       have HH1:=Lib.hid H1
       subst hkq
       clear H1 HALL
       go_wp2_with fail
       go_quiet (fail)
       have HQ:=Lib.hid (HH1.out.drewN nq)
       clear HH1
       go_wp2_with fail
       go_meet
       exact⟨rfl,HQ.out⟩
     ·have n1:¬ (j9:Int)<(n:Int):=by omega
      have n2:decide ((j9:Int)<(n:Int))=false:=decide_eq_false n1
      have hkq:k=q:=by
       rw [<- HQ0.out]
       have h:=PI.runL_at (l:=l) (i:=i) (k:=j9) hil (by omega) (by have:=HN.out; omega) (fun j h1 h2=>by rw [HX.out]; exact HALL.out j h1 (by omega)) (fun h=>by have:=HN.out; omega)
       rw [h]
       exact Lib.hid (by omega)
      have HH1:=Lib.hid H1
      subst hkq
      clear H1 HALL
      go_wp2_with fail
      go_quiet (fail)
      have HQ:=Lib.hid (HH1.out.drewN nq)
      clear HH1
      go_wp2_with fail
      go_meet
      exact⟨rfl,HQ.out⟩
   case rest =>
    obtain⟨rfl,H1⟩:=hcut
    go_upto_region 7 with (fail)
    go_cut [55] from 6 to 106 (fun s55 wx=>s55=.bool ag/\Sp w0 (Row 156 3 (.slice VR R.length vrc) R.length (cellsT R)::L) wx)
    case first =>
     have c0:=rdN' (HRD.out _ _ H1.tail) hil
     rw [HX.out] at c0
     have HH1:=Lib.hid H1
     have HAG2:=HAG.out
     by_cases hi0:0<i
     ·have g1:(i:Int) > 0:=by omega
      have g2:decide (0<i)=true:=decide_eq_true hi0
      obtain⟨j,hj9⟩:∃j,i - 1=j:=⟨_,rfl⟩
      have y1:(i:Int) - 1=(j:Int):=by omega
      have k2:(j:Int)<(n:Int):=by omega
      have c1:=rdN' (i:=j) (HRD.out _ _ H1.tail) (by omega)
      have hpj:l.getD j 0=p:=by
       have h:=HP.out
       rw [if_neg (by omega),hj9] at h
       exact h
      rw [hpj] at c1
      clear H1 hpj hj9
      by_cases h0:x=0
      ·have e:ag=false:=by rw [<- HAG2,decide_eq_false]; exact fun h=>h.2.1 h0
       subst e h0
       replace c0:World.cell? _ (ad.add i)=some (.int .i64 0):=c0
       clear HAG2
       go_wp2_with fail
       go_quiet (fail)
       have HQ:=Lib.hid (HH1.out.drewN nq)
       clear HH1
       go_wp2_with fail
       go_meet
       exact⟨rfl,HQ.out⟩
      ·have g5:¬ (x:Int)=0:=by omega
       have g6:((x:Int) != 0)=true:=by simpa using h0
       by_cases hpx:p=x
       ·subst hpx
        by_cases hq3:3<=q
        ·have e:ag=true:=by rw [<- HAG2,decide_eq_true]; exact⟨rfl,h0,hq3⟩
         subst e
         have g7:(q:Int)≥3:=by omega
         have g8:decide (3<=q)=true:=decide_eq_true hq3
         have g9:decide ((q:Int)≥3)=true:=decide_eq_true g7
         clear HAG2
         go_wp2_with fail
         go_quiet (fail)
         have HQ:=Lib.hid (HH1.out.drewN nq)
         clear HH1
         go_wp2_with fail
         go_meet
         exact⟨rfl,HQ.out⟩
        ·have e:ag=false:=by rw [<- HAG2,decide_eq_false]; exact fun h=>hq3 h.2.2
         subst e
         have g7:¬ (q:Int)≥3:=by omega
         have g8:decide (3<=q)=false:=decide_eq_false hq3
         have g9:decide ((q:Int)≥3)=false:=decide_eq_false g7
         clear HAG2
         go_wp2_with fail
         go_quiet (fail)
         have HQ:=Lib.hid (HH1.out.drewN nq)
         clear HH1
         go_wp2_with fail
         go_meet
         exact⟨rfl,HQ.out⟩
       ·have e:ag=false:=by rw [<- HAG2,decide_eq_false]; exact fun h=>hpx h.1
        subst e
        have g7:¬ (x:Int)=(p:Int):=by omega
        have g8:((x:Int) == (p:Int))=false:=by rw [beq_eq_false_iff_ne]; exact g7
        clear HAG2
        go_wp2_with fail
        go_quiet (fail)
        have HQ:=Lib.hid (HH1.out.drewN nq)
        clear HH1
        go_wp2_with fail
        go_meet
        exact⟨rfl,HQ.out⟩
     ·have g1:¬ (i:Int) > 0:=by omega
      have g2:decide (0<i)=false:=decide_eq_false hi0
      have e:ag=false:=by
       rw [<- HAG2,decide_eq_false]
       have h:=HP.out
       rw [if_pos (by omega)] at h
       intro h2; exact h2.2.1 (by omega)
      subst e
      clear H1
      clear HAG2
      go_wp2_with fail
      go_quiet (fail)
      have HQ:=Lib.hid (HH1.out.drewN nq)
      clear HH1
      go_wp2_with fail
      go_meet
      exact⟨rfl,HQ.out⟩
    case rest =>
     obtain⟨rfl,H1⟩:=hcut
     have HR:=HRL.out
     have HA:=HAG.out
     clear HRL HAG HQ0
     by_cases c1:p=x/\x≠0/\3<=q
     ·obtain rfl:ag=true:=by rw [<- HA]; exact decide_eq_true c1
      rw [if_pos c1] at HR
      have h3:=c1.2.2
      obtain⟨m,hm⟩:∃m,min q 6=m:=⟨_,rfl⟩
      obtain⟨v,hv⟩:∃v,m - 3=v:=⟨_,rfl⟩
      have y2:(m:Int) - 3=(v:Int):=by omega
      rw [hm,hv] at HR
      have HN2:Hid (R++(((0,16,2,v):PD.Wd)::(PD.rl f x (l.drop (i+m))).map PD.rwd)=FW):=by rw [<- HI.out,HR]; exact Lib.hid rfl
      have HN:=HN2
      have hmq:1<=m/\m<=q:=by omega
      have hm6:m<=6:=by omega
      have hm0:(q<=6->m=q)/\(6<q->m=6):=by omega
      clear HI HR HA hm hv HN2 c1
      go_upto_if 57 with (fail)
      go_cut [5] from 6 to 106 (fun s5 wx=>s5=.int .i64 (m:Int)/\Sp w0 (Row 156 3 (.slice VR R.length vrc) R.length (cellsT R)::L) wx)
      case first =>
       have HH1:=Lib.hid H1
       clear H1
       by_cases hq6:6<q
       ·have y9:(q:Int) > 6:=by omega
        obtain rfl:m=6:=by omega
        go_wp2_with fail
        go_meet
        exact⟨rfl,HH1.out⟩
       ·have y9:¬ (q:Int) > 6:=by omega
        obtain rfl:m=q:=by omega
        go_wp2_with fail
        go_meet
        exact⟨rfl,HH1.out⟩
      case rest =>
       obtain⟨rfl,H1⟩:=hcut
       have H3:=H1.newBk (tlC (0,16,2,v)) 156
       have HR3:=Lib.hid (Rd.of_blk (H3.blk 0 rfl))
       have HH3:=Lib.hid (H3.pick 2 [1])
       clear H1 H3
       go_wp2_with (at_builtin; refine wpList_append_sp rfl _ _ 153 rfl 156 i1 (.agg #[.int .i64 0,.int .i64 0,.int .i64 0]) 3 24 Tryz.underlying153 hj hj0 hj1 hj2 rfl (by decide) _ R.length (cellsT R) rfl HH3.out (some ⟨_,0,none⟩) 1 1 (tlC (0,16,2,v)) rfl rfl HR3.out (tlC_one _) (by unfold maxLen; omega) (by omega) ?_)
       intro v4 w4 H4 _
       clear HH3 HR3
       go_wp2_with fail
       go_roundw
       case rel =>
        refine⟨i+m,f,R++[(0,16,2,v)],x,by go_num,by omega,by omega,by rw [List.length_append]; simp only [List.length_cons,List.length_nil]; omega,HGET.out m (by omega) (by omega),by rw [List.append_assoc]; exact HN.out,?_⟩
        rw [List.length_append,cellsT_app]
        rw [show cellsT [((0,16,2,v):PD.Wd)]=tlC (0,16,2,v) from List.append_nil _]
        exact H4
       case measure=>first | (simp [intOf]; omega) | simp [intOf]
     ·obtain rfl:ag=false:=by rw [<- HA]; exact decide_eq_false c1
      rw [if_neg c1] at HR
      clear HA c1
      have c0:=rdN' (HRD.out _ _ H1.tail) hil
      rw [HX.out] at c0
      by_cases h0:x=0
      ·subst h0
       replace c0:World.cell? _ (ad.add i)=some (.int .i64 0):=c0
       by_cases h11:11<=q
       ·rw [if_pos ⟨rfl,h11⟩] at HR
        have y3:(q:Int)≥11:=by omega
        obtain⟨m,hm⟩:∃m,min q 138=m:=⟨_,rfl⟩
        obtain⟨v,hv⟩:∃v,m - 11=v:=⟨_,rfl⟩
        have y2:(m:Int) - 11=(v:Int):=by omega
        rw [hm,hv] at HR
        have HN:Hid (R++(((0,18,7,v):PD.Wd)::(PD.rl f 0 (l.drop (i+m))).map PD.rwd)=FW):=by rw [<- HI.out,HR]; exact Lib.hid rfl
        have hmq:1<=m/\m<=q:=by omega
        have hm6:m<=138:=by omega
        have hm0:(q<=138->m=q)/\(138<q->m=138):=by omega
        clear HI HR hm hv
        go_upto_if 74 with (fail)
        go_cut [5] from 6 to 106 (fun s5 wx=>s5=.int .i64 (m:Int)/\Sp w0 (Row 156 3 (.slice VR R.length vrc) R.length (cellsT R)::L) wx)
        case first =>
         have HH1:=Lib.hid H1
         clear H1
         by_cases hq6:138<q
         ·have y9:(q:Int) > 138:=by omega
          obtain rfl:m=138:=by omega
          go_wp2_with fail
          go_meet
          exact⟨rfl,HH1.out⟩
         ·have y9:¬ (q:Int) > 138:=by omega
          obtain rfl:m=q:=by omega
          go_wp2_with fail
          go_meet
          exact⟨rfl,HH1.out⟩
        case rest =>
         obtain⟨rfl,H1⟩:=hcut
         have H3:=H1.newBk (tlC (0,18,7,v)) 156
         have HR3:=Lib.hid (Rd.of_blk (H3.blk 0 rfl))
         have HH3:=Lib.hid (H3.pick 2 [1])
         clear H1 H3
         go_wp2_with (at_builtin; refine wpList_append_sp rfl _ _ 153 rfl 156 i1 (.agg #[.int .i64 0,.int .i64 0,.int .i64 0]) 3 24 Tryz.underlying153 hj hj0 hj1 hj2 rfl (by decide) _ R.length (cellsT R) rfl HH3.out (some ⟨_,0,none⟩) 1 1 (tlC (0,18,7,v)) rfl rfl HR3.out (tlC_one _) (by unfold maxLen; omega) (by omega) ?_)
         intro v4 w4 H4 _
         clear HH3 HR3
         go_wp2_with fail
         go_roundw
         case rel =>
          refine⟨i+m,f,R++[(0,18,7,v)],0,by go_num,by omega,by omega,by rw [List.length_append]; simp only [List.length_cons,List.length_nil]; omega,HGET.out m (by omega) (by omega),by rw [List.append_assoc]; exact HN.out,?_⟩
          rw [List.length_append,cellsT_app]
          rw [show cellsT [((0,18,7,v):PD.Wd)]=tlC (0,18,7,v) from List.append_nil _]
          exact H4
         case measure=>first | (simp [intOf]; omega) | simp [intOf]
       ·rw [if_neg (fun h=>h11 h.2)] at HR
        have y3:¬ (q:Int)≥11:=by omega
        by_cases h3:3<=q
        ·rw [if_pos ⟨rfl,h3⟩] at HR
         have y4:(q:Int)≥3:=by omega
         obtain⟨v,hv⟩:∃v,q - 3=v:=⟨_,rfl⟩
         have y2:(q:Int) - 3=(v:Int):=by omega
         rw [hv] at HR
         have HN:Hid (R++(((0,17,3,v):PD.Wd)::(PD.rl f 0 (l.drop (i+q))).map PD.rwd)=FW):=by rw [<- HI.out,HR]; exact Lib.hid rfl
         clear HI HR hv
         have H3:=H1.newBk (tlC (0,17,3,v)) 156
         have HR3:=Lib.hid (Rd.of_blk (H3.blk 0 rfl))
         have HH3:=Lib.hid (H3.pick 2 [1])
         clear H1 H3
         go_wp2_with (at_builtin; refine wpList_append_sp rfl _ _ 153 rfl 156 i1 (.agg #[.int .i64 0,.int .i64 0,.int .i64 0]) 3 24 Tryz.underlying153 hj hj0 hj1 hj2 rfl (by decide) _ R.length (cellsT R) rfl HH3.out (some ⟨_,0,none⟩) 1 1 (tlC (0,17,3,v)) rfl rfl HR3.out (tlC_one _) (by unfold maxLen; omega) (by omega) ?_)
         intro v4 w4 H4 _
         clear HH3 HR3
         go_wp2_with fail
         go_roundw
         case rel =>
          refine⟨i+q,f,R++[(0,17,3,v)],0,by go_num,by omega,by omega,by rw [List.length_append]; simp only [List.length_cons,List.length_nil]; omega,HGET.out q (by omega) (by omega),by rw [List.append_assoc]; exact HN.out,?_⟩
          rw [List.length_append,cellsT_app]
          rw [show cellsT [((0,17,3,v):PD.Wd)]=tlC (0,17,3,v) from List.append_nil _]
          exact H4
         case measure=>first | (simp [intOf]; omega) | simp [intOf]
        ·rw [if_neg (fun h=>h3 h.2)] at HR
         have y4:¬ (q:Int)≥3:=by omega
         have HN:Hid (R++(((0,0,0,0):PD.Wd)::(PD.rl f 0 (l.drop (i+1))).map PD.rwd)=FW):=by rw [<- HI.out,HR]; exact Lib.hid rfl
         clear HI HR
         have H3:=H1.newBk (tlC (0,0,0,0)) 156
         have HR3:=Lib.hid (Rd.of_blk (H3.blk 0 rfl))
         have HH3:=Lib.hid (H3.pick 2 [1])
         clear H1 H3
         go_wp2_with (at_builtin; refine wpList_append_sp rfl _ _ 153 rfl 156 i1 (.agg #[.int .i64 0,.int .i64 0,.int .i64 0]) 3 24 Tryz.underlying153 hj hj0 hj1 hj2 rfl (by decide) _ R.length (cellsT R) rfl HH3.out (some ⟨_,0,none⟩) 1 1 (tlC (0,0,0,0)) rfl rfl HR3.out (tlC_one _) (by unfold maxLen; omega) (by omega) ?_)
         intro v4 w4 H4 _
         clear HH3 HR3
         go_wp2_with fail
         go_roundw
         case rel =>
          refine⟨i+1,f,R++[(0,0,0,0)],0,by go_num,by omega,by omega,by rw [List.length_append]; simp only [List.length_cons,List.length_nil]; omega,HGET.out 1 (by omega) (by omega),by rw [List.append_assoc]; exact HN.out,?_⟩
          rw [List.length_append,cellsT_app]
          rw [show cellsT [((0,0,0,0):PD.Wd)]=tlC (0,0,0,0) from List.append_nil _]
          exact H4
         case measure=>first | (simp [intOf]; omega) | simp [intOf]
      ·rw [if_neg (fun h=>h0 h.1),if_neg (fun h=>h0 h.1)] at HR
       have y3:¬ (x:Int)=0:=by omega
       have y4:((x:Int) == 0)=false:=by rw [beq_eq_false_iff_ne]; exact y3
       have HN:Hid (R++(((0,x,0,0):PD.Wd)::(PD.rl f x (l.drop (i+1))).map PD.rwd)=FW):=by
        rw [<- HI.out,HR,List.map_cons]
        have e:PD.rwd (x,0)=(0,x,0,0):=by unfold PD.rwd; rw [PI.tellB_small x hx15]
        rw [e]; exact Lib.hid rfl
       clear HI HR
       have H3:=H1.newBk (tlC (0,x,0,0)) 156
       have HR3:=Lib.hid (Rd.of_blk (H3.blk 0 rfl))
       have HH3:=Lib.hid (H3.pick 2 [1])
       clear H1 H3
       go_wp2_with (at_builtin; refine wpList_append_sp rfl _ _ 153 rfl 156 i1 (.agg #[.int .i64 0,.int .i64 0,.int .i64 0]) 3 24 Tryz.underlying153 hj hj0 hj1 hj2 rfl (by decide) _ R.length (cellsT R) rfl HH3.out (some ⟨_,0,none⟩) 1 1 (tlC (0,x,0,0)) rfl rfl HR3.out (tlC_one _) (by unfold maxLen; omega) (by omega) ?_)
       intro v4 w4 H4 _
       clear HH3 HR3
       go_wp2_with fail
       go_roundw
       case rel =>
        refine⟨i+1,f,R++[(0,x,0,0)],x,by go_num,by omega,by omega,by rw [List.length_append]; simp only [List.length_cons,List.length_nil]; omega,HGET.out 1 (by omega) (by omega),by rw [List.append_assoc]; exact HN.out,?_⟩
        rw [List.length_append,cellsT_app]
        rw [show cellsT [((0,x,0,0):PD.Wd)]=tlC (0,x,0,0) from List.append_nil _]
        exact H4
       case measure=>first | (simp [intOf]; omega) | simp [intOf]
  ·have k1:¬ (i:Int)<(n:Int):=by omega
   obtain rfl:n=i:=by omega
   have e:l.drop n=[]:=List.drop_eq_nil_of_le (by rw [<- HN.out]; exact Nat.le_refl _)
   have hR:R=FW:=by
    rw [<- HI.out,e]
    cases f <;> simp [PD.rl]
   subst hR
   have HX1:=Lib.hid H1
   clear H1 HI e
   go_wp2_with fail
   go_ret
   exact⟨_,rfl,HX1.out⟩
def lenOfS:Value->Nat
 | .slice _ n _=>n
 | _=>0
theorem Xt (A:Option Addr) (n c:Nat) (l:List Nat) (least:Nat) (H:Sp w0 L w) (hrd:Ent L fun w=>Rd w A (cellsN l)) (hn:n=l.length) (hnm:n<=100000) (hc:n<=c) (hl:least<=100000) :
  Calls Tryz.prog 92 #[.slice A n c,.int .i64 least] w fun e w'=>e=.returned (.slice A (PD.used l least n) c)/\Sp w0 L w':=by
 obtain⟨T,m⟩:=exq (PD.used l least n);rw [m];have t:=hid m;have o:=hid hrd;have u:=hid hn;have b:=hid H;clear hrd hn m H;go_enter Tryz.func92,Tryz.ntmps92
 go_wp2_with fail
 go_loopw [0] (fun lv wr=>∃k:Nat,lv=.slice A k c/\k<=n/\PD.used l least k=T/\Sp w0 L wr) (fun lv _=>lenOfS lv)
 case atStart=>exact⟨n,rfl,Nat.le_refl _,t.out,b.out⟩
 case round =>
  clear b;obtain⟨k,rfl,F,f,g⟩:=hrel;have b:=hid g;by_cases a:least<k
  ·have v:(k:Int) > (least:Int):=by omega
   have y:decide (least<k)=true:=decide_eq_true a;obtain⟨j,rfl⟩:∃j,k=j+1:=⟨k - 1,by omega⟩;have G:((j+1:Nat):Int) - 1=(j:Int):=by omega
   have z:(j:Int)<((j+1:Nat):Int):=by omega
   have B:(j:Int)<=(c:Int):=by omega
   obtain⟨C,rfl,p⟩:=rdN (i:=j) (o.out _ _ g) (by have:=u.out; omega);obtain⟨x,q⟩:=exq (l.getD j 0);rw [q] at p;have d:(if least<j+1/\x=0 then PD.used l least j else j+1)=T:=by rw [<- q]; exact f
   have r:=hid d;clear f d q g;by_cases s:x=0
   ·subst s;replace p:World.cell? _ (C.add j)=some (.int .i64 0):=p;go_wp2_with fail
    go_roundw
    case rel=>exact⟨j,rfl,by omega,by rw [<- r.out,if_pos ⟨a,rfl⟩],b.out⟩
    case measure=>first | (simp [lenOfS]; omega) | simp [lenOfS]
   ·have D:¬ (x:Int)=0:=by omega
    have E:((x:Int) == 0)=false:=by rw [beq_eq_false_iff_ne]; exact D
    have e:j+1=T:=by rw [<- r.out,if_neg (fun h=>s h.2)]
    subst e;clear r;go_wp2_with fail
    go_ret;exact⟨rfl,b.out⟩
  ·have v:¬ (k:Int) > (least:Int):=by omega
   have y:decide (least<k)=false:=decide_eq_false a;have e:k=T:=by
    rw [<- f];cases k with
    | zero=>rfl
    | succ k=>unfold PD.used; rw [if_neg (fun h=>a h.1)]
   subst e;clear f g;go_wp2_with fail
   go_ret;exact⟨rfl,b.out⟩
structure RK where
 c:Int
 A:Option Addr
 n:Nat
 cp:Nat
def RK.sl (x:RK):Value:=.slice x.A x.n x.cp
def RK.cells (x:RK):List Value:=[.int .i64 x.c,.slice x.A x.n x.cp]
def RK.val (x:RK):Value:=.agg #[.int .i64 x.c,.slice x.A x.n x.cp]
def rk0:RK:=⟨0,none,0,0⟩
theorem RK.one (x:RK):∀u ∈ x.cells,u.oneCell'=true:=by
 intro u a;simp only [RK.cells,List.mem_cons,List.not_mem_nil,or_false] at a;rcases a with rfl | rfl <;> rfl
def cellsR (l:List RK):List Value:=l.flatMap RK.cells
theorem ZI (l:List RK):(cellsR l).length=l.length * 2:=by
 induction l with
 | nil=>rfl
 | cons x l ih =>
  show(x.cells++cellsR l).length=_;rw [List.length_append,ih,List.length_cons];show 2+_=_;omega
theorem Xu (a b:List RK):cellsR (a++b)=cellsR a++cellsR b:=List.flatMap_append
theorem ZO (l:List RK):∀u ∈ cellsR l,u.oneCell'=true:=by
 intro u a;obtain⟨x,_,b⟩:=List.mem_flatMap.1 a;exact x.one u b
theorem Xd (l:List RK) (i j:Nat) (hi:i<l.length) (u:Value) (hj:(l.getD i rk0).cells[j]?=some u):(cellsR l)[i * 2+j]?=some u:=by
 induction l generalizing i with
 | nil=>simp at hi
 | cons x l ih =>
  have a:j<2:=by
   have:=(List.getElem?_eq_some_iff.1 hj).1;exact this
  show(x.cells++cellsR l)[i * 2+j]?=_;cases i with
  | zero =>
   rw [List.getElem?_append_left (by show _<2; omega),Nat.zero_mul,Nat.zero_add];exact hj
  | succ i =>
   rw [List.getElem?_append_right (by show 2<=_; omega),show(i+1) * 2+j - x.cells.length=i * 2+j by show _ - 2=_; omega];exact ih i (by simpa using hi) (by simpa using hj)
theorem YR (l:List RK) (k:Nat):(cellsR l).take (k * 2)=cellsR (l.take k):=by
 induction l generalizing k with
 | nil=>simp [cellsR]
 | cons x l ih =>
  cases k with
  | zero=>simp [cellsR]
  | succ k =>
   show(x.cells++cellsR l).take ((k+1) * 2)=x.cells++cellsR (l.take k);rw [List.take_append,List.take_of_length_le (by show 2<=_; omega),show(k+1) * 2 - x.cells.length=k * 2 by show _ - 2=_; omega,ih]
theorem YS (l:List RK) (k:Nat):(cellsR l).drop (k * 2)=cellsR (l.drop k):=by
 induction l generalizing k with
 | nil=>simp [cellsR]
 | cons x l ih =>
  cases k with
  | zero=>simp [cellsR]
  | succ k =>
   show(x.cells++cellsR l).drop ((k+1) * 2)=cellsR (l.drop k);rw [List.drop_append,List.drop_eq_nil_of_le (by show 2<=_; omega),show(k+1) * 2 - x.cells.length=k * 2 by show _ - 2=_; omega,List.nil_append,ih]
theorem rdR {w:World} {A:Option Addr} {l:List RK} (h:Rd w A (cellsR l)) {i:Nat} (hi:i<l.length):∃ad,A=some ad/\w.cell? (ad.add (i * 2))=some (.int .i64 (l.getD i rk0).c)/\w.cell? ⟨(ad.add (i * 2)).block,(ad.add (i * 2)).off+1,none⟩=some (l.getD i rk0).sl:=by
 obtain⟨ad,e,a⟩:=h (by intro b; have:=ZI l; rw [b] at this; simp at this; omega);refine⟨ad,e,?_,?_⟩
 ·have:=a (i * 2+0) _ (Xd l i 0 hi _ rfl);exact this
 ·rw [Zv ad (i * 2) 1 (by decide)];exact a _ _ (Xd l i 1 hi _ rfl)
abbrev keyR:RK->Int:=RK.c
theorem XM {α:Type} {key:α->Int} {l:List α} {p d:α} {k:Nat} (hk:k<=l.length) (h1:∀i,i<k->key (l.getD i d)<=key p) (h2:k<l.length->key p<key (l.getD k d)):SS.put key l p=l.take k++p::l.drop k:=by
 induction l generalizing k with
 | nil =>
  obtain rfl:k=0:=by simpa using hk
  rfl
 | cons x l ih =>
  cases k with
  | zero =>
   have:=h2 (by simp);show(if key x<=key p then _ else p::x::l)=_;rw [if_neg (by simp at this; omega)]; rfl
  | succ k =>
   have a:=h1 0 (by omega);show(if key x<=key p then x::SS.put key l p else _)=_;rw [if_pos (by simpa using a),ih (by simpa using hk) (fun i hi=>by have:=h1 (i+1) (by omega); simpa using this) (fun hi=>by have:=h2 (by simpa using hi); simpa using this)];rfl
theorem infoRK:(Tryz.prog.info? 192).map (fun i=>(i.zero,i.size,i.bytes))=some (some (.agg #[.int .i64 0,.slice none 0 0]),2,32):=by kernel_rfl
def subZv (A:Option Addr) (c q z:Nat):Option Addr:=if c=q then A else A.map (·.add (q * z))
theorem Wv {w:World} {A:Option Addr} {c q z:Nat} {xs:List Value} (h:Rd w A xs) (hc:xs.length<=c * z):Rd w (subZv A c q z) (xs.drop (q * z)):=by
 unfold subZv;by_cases e:c=q
 ·rw [if_pos e,List.drop_eq_nil_of_le (by rw [<- e]; exact hc)]; exact Rd.nil
 ·rw [if_neg e];intro b;obtain⟨d,rfl,a⟩:=h (by rintro rfl; simp at b);refine⟨d.add (q * z),rfl,fun j u hu=>?_⟩;rw [List.getElem?_drop] at hu;rw [Go.Addr.add_add];exact a _ u hu
theorem Rd.take {w:World} {A:Option Addr} {xs:List Value} (h:Rd w A xs) (k:Nat):Rd w A (xs.take k):=fun hn=>by
 obtain⟨a,e,b⟩:=h (by rintro rfl; simp at hn);refine⟨a,e,fun j u hu=>b j u ?_⟩;rw [List.getElem?_take] at hu;split at hu
 ·exact hu
 ·cases hu
theorem VW (A:Option Addr) (n c:Nat) (xs:List RK) (p:RK) (H:Sp w0 L w) (hn:n=xs.length) (hb:Ent L fun w=>Rd w A (cellsR xs)) (hnc:n<=c) (hl:n<=1000000) :
  Calls Tryz.prog 123 #[.slice A n c,p.val] w fun e w'=>∃v,e=.returned v/\Sp w0 (Row 192 2 v (n+1) (cellsR (SS.put keyR xs p))::L) w':=by
 obtain⟨V,u,r,s,t⟩:=info_parts infoRK;obtain⟨f,l,m,o⟩:=p;unfold RK.val;simp only;obtain⟨T,hT⟩:=exq (cellsR (SS.put keyR xs ⟨f,l,m,o⟩));rw [hT];have HT:=hid hT;have x:=H.newBk [.int .i64 f,.slice l m o] 192;have S:=hid hn;have W:=hid (hb.cons (Bk w.heap.size 192 [.int .i64 f,.slice l m o]));clear hT hn hb H;go_enter Tryz.func123,Tryz.ntmps123
 go_wp2_with fail
 generalize w.heap.size=g at x W ⊢;generalize w.alloc _=w1 at x ⊢;go_loopw [5] (fun kv wr=>∃(k:Nat),kv=.int .i64 k/\k<=n/\Hid (∀i,i<k->(xs.getD i rk0).c<=f)/\Sp w0 (Bk g 192 [.int .i64 f,.slice l m o]::L) wr) (fun kv _=>n - (intOf kv).toNat)
 case atStart=>exact⟨0,rfl,Nat.zero_le _,hid (fun i u=>by omega),x⟩
 case round =>
  clear x;obtain⟨k,rfl,hk,HK,x⟩:=hrel;have X:=x.cell 0 rfl 0;have Y:=x.cell 0 rfl 1;simp only [List.getElem?_cons_zero,List.getElem?_cons_succ] at X Y;have C:∀(st:k<n->f<(xs.getD k rk0).c),T=cellsR (xs.take k)++[.int .i64 f,.slice l m o]++cellsR (xs.drop k):=fun st=>by
   rw [<- HT.out,XM (d:=rk0) (k:=k) (by rw [<- S.out]; exact hk) (fun i u=>HK.out i u) (fun h=>st (by rw [S.out]; exact h)),Xu];show cellsR (xs.take k)++(RK.cells ⟨f,l,m,o⟩++cellsR (xs.drop k))=_;rw [<- List.append_assoc]; rfl
  have j:=hid C;clear C;by_cases a3:k<n
  ·have k1:(k:Int)<(n:Int):=by omega
   obtain⟨ad,a4,d0,_⟩:=rdR (W.out _ _ x) (i:=k) (by rw [<- S.out]; exact a3);obtain⟨y,hy⟩:=exq ((xs.getD k rk0).c);rw [hy] at d0;subst a4;have HY:=hid hy;clear hy;by_cases a5:y<=f
   ·go_wp2_with fail
    go_quiet (fail)
    go_wp2_with fail
    go_roundw
    case rel =>
     refine⟨k+1,by go_num,by omega,hid (fun i u=>?_),x.drewN _⟩;rcases Nat.lt_or_eq_of_le (Nat.le_of_lt_succ u) with h | rfl
     ·exact HK.out i h
     ·rw [HY.out]; exact a5
    case measure=>first | (simp [intOf]; omega) | simp [intOf]
   ·have D:=j.out (fun _=>by rw [HY.out]; omega);have E:=hid D;have kc:(k:Int)<=(c:Int):=by omega
    have k0:(0:Int)<=(k:Int):=by omega
    have F:Ent (Bk g 192 [.int .i64 f,.slice l m o]::L) (fun w=>Rd w (some ad) (cellsR (xs.take k))):=fun _ _ H=>by
     have h:=(W.out _ _ H).take (k * 2);rw [YR] at h;exact h
    have G:Ent (Bk g 192 [.int .i64 f,.slice l m o]::L) (fun w=>Rd w (subZv (some ad) c k 2) (cellsR (xs.drop k))):=fun _ _ H=>by
     have h:=Wv (c:=c) (q:=k) (z:=2) (W.out _ _ H) (by rw [ZI,<- S.out]; exact Nat.mul_le_mul_right _ hnc);rw [YS] at h;exact h
    have I:=hid F;have J:=hid G;have K:(cellsR (xs.take k)).length=k * 2:=by rw [ZI,List.length_take,<- S.out,Nat.min_eq_left hk]
    have M:(cellsR (xs.drop k)).length=(n - k) * 2:=by rw [ZI,List.length_drop,<- S.out]
    have Z:=hid K;have N:=hid M;clear D F G K M j W;go_wp2_with fail
    go_quiet (fail)
    have H2:=(x.drewN nq).rowNil 192 2;clear x;go_wp2_with (at_builtin; refine wpList_append_sp rfl _ _ 189 rfl 192 V (.agg #[.int .i64 0,.slice none 0 0]) 2 32 Tryz.underlying189 u r s t rfl (by decide) (.slice none 0 0) 0 [] rfl H2 (some ad) k c (cellsR (xs.take k)) rfl Z.out (I.out _ _ H2.tail) (ZO _) (by unfold maxLen; omega) (by omega) ?_)
    intro v3 w3 B _;clear H2 I;have X:=B.cell 1 rfl 0;have Y:=B.cell 1 rfl 1;simp only [List.getElem?_cons_zero,List.getElem?_cons_succ,Nat.zero_add,List.nil_append] at X Y B;obtain⟨V3,c3,a0,_,_⟩:=Row.form B 0 rfl;subst a0;have O:=Rd.of_blk (Blk.new w3 192 [.int .i64 f,.slice l m o]);have P:=hid O;have h9:=B.newBk [.int .i64 f,.slice l m o] 192;have Q:=hid h9.swap;clear O h9 B;go_wp2_with (at_builtin; refine wpList_append_sp rfl _ _ 189 rfl 192 V (.agg #[.int .i64 0,.slice none 0 0]) 2 32 Tryz.underlying189 u r s t rfl (by decide) (.slice V3 k c3) k (cellsR (xs.take k)) rfl Q.out (some ⟨w3.heap.size,0,none⟩) 1 1 [.int .i64 f,.slice l m o] rfl rfl P.out (RK.one ⟨f,l,m,o⟩) (by unfold maxLen; omega) (by omega) ?_)
    intro v4 w4 U _;clear P Q X Y;obtain⟨V4,c4,a1,_,_⟩:=Row.form U 0 rfl;subst a1;have b:=hid (J.out _ _ U.tail2);unfold subZv at b;clear J;by_cases a:c=k
    ·rw [if_pos a] at b;have R:(c:Int) - (k:Int)=0:=by omega
     have a2:=hid a;clear a;go_wp2_with (at_builtin; refine wpList_append_sp rfl _ _ 189 rfl 192 V (.agg #[.int .i64 0,.slice none 0 0]) 2 32 Tryz.underlying189 u r s t rfl (by decide) (.slice V4 (k+1) c4) (k+1) _ rfl U (some ad) (n - k) (c - k) (cellsR (xs.drop k)) rfl N.out b.out (ZO _) (by unfold maxLen; omega) (by omega) ?_)
     intro v5 w5 H5 _;go_wp2_with fail
     go_ret;refine⟨_,rfl,?_⟩;rw [E.out,List.append_assoc,show n+1=k+1+(n - k) by omega];exact H5.pick 3 [0]
    ·rw [if_neg a] at b;have R:(k:Int)<(c:Int):=by omega
     have a2:=hid a;clear a;go_wp2_with (at_builtin; refine wpList_append_sp rfl _ _ 189 rfl 192 V (.agg #[.int .i64 0,.slice none 0 0]) 2 32 Tryz.underlying189 u r s t rfl (by decide) (.slice V4 (k+1) c4) (k+1) _ rfl U ((some ad:Option Addr).map (·.add (k * 2))) (n - k) (c - k) (cellsR (xs.drop k)) rfl N.out b.out (ZO _) (by unfold maxLen; omega) (by omega) ?_)
     intro v5 w5 H5 _;go_wp2_with fail
     go_ret;refine⟨_,rfl,?_⟩;rw [E.out,List.append_assoc,show n+1=k+1+(n - k) by omega];exact H5.pick 3 [0]
  ·have k1:¬ (k:Int)<(n:Int):=by omega
   have D:=j.out (fun h=>absurd h a3);have E:=hid D;have kc:(k:Int)<=(c:Int):=by omega
   have k0:(0:Int)<=(k:Int):=by omega
   have F:Ent (Bk g 192 [.int .i64 f,.slice l m o]::L) (fun w=>Rd w A (cellsR (xs.take k))):=fun _ _ H=>by
    have h:=(W.out _ _ H).take (k * 2);rw [YR] at h;exact h
   have G:Ent (Bk g 192 [.int .i64 f,.slice l m o]::L) (fun w=>Rd w (subZv A c k 2) (cellsR (xs.drop k))):=fun _ _ H=>by
    have h:=Wv (c:=c) (q:=k) (z:=2) (W.out _ _ H) (by rw [ZI,<- S.out]; exact Nat.mul_le_mul_right _ hnc);rw [YS] at h;exact h
   have I:=hid F;have J:=hid G;have K:(cellsR (xs.take k)).length=k * 2:=by rw [ZI,List.length_take,<- S.out,Nat.min_eq_left hk]
   have M:(cellsR (xs.drop k)).length=(n - k) * 2:=by rw [ZI,List.length_drop,<- S.out]
   have Z:=hid K;have N:=hid M;clear D F G K M j W;go_wp2_with fail
   go_quiet (fail)
   have H2:=(x.drewN nq).rowNil 192 2;clear x;go_wp2_with (at_builtin; refine wpList_append_sp rfl _ _ 189 rfl 192 V (.agg #[.int .i64 0,.slice none 0 0]) 2 32 Tryz.underlying189 u r s t rfl (by decide) (.slice none 0 0) 0 [] rfl H2 A k c (cellsR (xs.take k)) rfl Z.out (I.out _ _ H2.tail) (ZO _) (by unfold maxLen; omega) (by omega) ?_)
   intro v3 w3 B _;clear H2 I;have X:=B.cell 1 rfl 0;have Y:=B.cell 1 rfl 1;simp only [List.getElem?_cons_zero,List.getElem?_cons_succ,Nat.zero_add,List.nil_append] at X Y B;obtain⟨V3,c3,a0,_,_⟩:=Row.form B 0 rfl;subst a0;have O:=Rd.of_blk (Blk.new w3 192 [.int .i64 f,.slice l m o]);have P:=hid O;have h9:=B.newBk [.int .i64 f,.slice l m o] 192;have Q:=hid h9.swap;clear O h9 B;go_wp2_with (at_builtin; refine wpList_append_sp rfl _ _ 189 rfl 192 V (.agg #[.int .i64 0,.slice none 0 0]) 2 32 Tryz.underlying189 u r s t rfl (by decide) (.slice V3 k c3) k (cellsR (xs.take k)) rfl Q.out (some ⟨w3.heap.size,0,none⟩) 1 1 [.int .i64 f,.slice l m o] rfl rfl P.out (RK.one ⟨f,l,m,o⟩) (by unfold maxLen; omega) (by omega) ?_)
   intro v4 w4 U _;clear P Q X Y;obtain⟨V4,c4,a1,_,_⟩:=Row.form U 0 rfl;subst a1;have b:=hid (J.out _ _ U.tail2);unfold subZv at b;clear J;by_cases a:c=k
   ·rw [if_pos a] at b;have R:(c:Int) - (k:Int)=0:=by omega
    have a2:=hid a;clear a;go_wp2_with (at_builtin; refine wpList_append_sp rfl _ _ 189 rfl 192 V (.agg #[.int .i64 0,.slice none 0 0]) 2 32 Tryz.underlying189 u r s t rfl (by decide) (.slice V4 (k+1) c4) (k+1) _ rfl U A (n - k) (c - k) (cellsR (xs.drop k)) rfl N.out b.out (ZO _) (by unfold maxLen; omega) (by omega) ?_)
    intro v5 w5 H5 _;go_wp2_with fail
    go_ret;refine⟨_,rfl,?_⟩;rw [E.out,List.append_assoc,show n+1=k+1+(n - k) by omega];exact H5.pick 3 [0]
   ·rw [if_neg a] at b;have R:(k:Int)<(c:Int):=by omega
    have a2:=hid a;clear a;go_wp2_with (at_builtin; refine wpList_append_sp rfl _ _ 189 rfl 192 V (.agg #[.int .i64 0,.slice none 0 0]) 2 32 Tryz.underlying189 u r s t rfl (by decide) (.slice V4 (k+1) c4) (k+1) _ rfl U (A.map (·.add (k * 2))) (n - k) (c - k) (cellsR (xs.drop k)) rfl N.out b.out (ZO _) (by unfold maxLen; omega) (by omega) ?_)
    intro v5 w5 H5 _;go_wp2_with fail
    go_ret;refine⟨_,rfl,?_⟩;rw [E.out,List.append_assoc,show n+1=k+1+(n - k) by omega];exact H5.pick 3 [0]
end Go.Proofs.YteajimobgkempaaGreatDoor

