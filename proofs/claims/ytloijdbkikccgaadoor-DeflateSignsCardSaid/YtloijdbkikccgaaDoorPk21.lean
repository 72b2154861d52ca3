/- A pack of texts: DefD DefE. -/
import Derived.Deep.CutRange
import Derived.Test.YtloijdbkikccgaaDoorPk08
import Derived.Test.YtloijdbkikccgaaDoorPk20
namespace Go.Proofs.YtloijdbkikccgaaDoor
set_option linter.unusedVariables false
set_option linter.unusedSimpArgs false
open Go.RowKit
theorem cellsW_get:∀(l:List PD.Wd) (i:Nat),i<l.length->∀j v,(wdC (l.getD i (0,0,0,0)))[j]?=some v->(cellsW l)[i * 4+j]?=some v
 | [],i,h=>by simp at h
 | t::l,0,_=>fun j v hj=>by
  have hj4:j<(wdC t).length:=(List.getElem?_eq_some_iff.1 hj).1
  show(wdC t++cellsW l)[0 * 4+j]?=some v
  rw [List.getElem?_append_left (by omega),Nat.zero_mul,Nat.zero_add]; exact hj
 | t::l,i+1,h=>fun j v hj=>by
  show(wdC t++cellsW l)[(i+1) * 4+j]?=some v
  rw [List.getElem?_append_right (by show 4<=_; omega),show(i+1) * 4+j - (wdC t).length=i * 4+j by show _ - 4=_; omega]
  exact cellsW_get l i (by simpa using h) j v hj
theorem rdW {w:World} {A:Option Addr} {l:List PD.Wd} (h:Rd w A (cellsW l)) {i:Nat} (hi:i<l.length):∃ad,A=some ad/\w.cell? (ad.add (i * 4))=some (.int .i64 ((l.getD i (0,0,0,0)).1:Int))/\w.cell? ⟨(ad.add (i * 4)).block,(ad.add (i * 4)).off+1,none⟩=some (.int .i64 ((l.getD i (0,0,0,0)).2.1:Int))/\w.cell? ⟨(ad.add (i * 4)).block,(ad.add (i * 4)).off+2,none⟩=some (.int .i64 ((l.getD i (0,0,0,0)).2.2.1:Int))/\w.cell? ⟨(ad.add (i * 4)).block,(ad.add (i * 4)).off+3,none⟩=some (.int .i64 ((l.getD i (0,0,0,0)).2.2.2:Int)):=by
 obtain⟨ad,e,hc⟩:=h (by intro e; have:=cellsW_len l; rw [e] at this; simp at this; omega)
 have hg:=fun j v hj=>hc _ _ (cellsW_get l i hi j v hj)
 refine⟨ad,e,hg 0 _ rfl,?_,?_,?_⟩
 ·rw [field_addr ad (i * 4) 1 (by omega)]; exact hg 1 _ rfl
 ·rw [field_addr ad (i * 4) 2 (by omega)]; exact hg 2 _ rfl
 ·rw [field_addr ad (i * 4) 3 (by omega)]; exact hg 3 _ rfl
theorem cntR_cnts (m:Nat) (l:List Nat):cntR m l=cellsN (PI.cnts m l):=by unfold cntR cellsN PI.cnts; rw [List.map_map]; rfl
theorem signs_take {l:List PD.Wd} {i b:Nat} (h:i<l.length):PD.signsOf b (l.take (i+1))=PD.signsOf b (l.take i)++(if (l.getD i (0,0,0,0)).1=b then [(l.getD i (0,0,0,0)).2.1] else []):=by
 rw [List.take_succ_eq_append_getElem h,PD.signsOf_app]
 congr 1
 have e:l.getD i (0,0,0,0)=l[i]:=by rw [List.getD_eq_getElem?_getD,List.getElem?_eq_getElem h]; rfl
 rw [e]
 unfold PD.signsOf
 by_cases hb:l[i].1=b
 ·rw [if_pos hb,List.filter_cons,if_pos (by simpa using hb)]; rfl
 ·rw [if_neg hb,List.filter_cons,if_neg (by simpa using hb)]; rfl
set_option maxRecDepth 100000 in
set_option maxHeartbeats 2000000 in
theorem dcounts_ok (A:Option Addr) (n c:Nat) (l:List PD.Wd) (bk m:Nat) {w0 w:World} {L:List Pr} (H:Sp w0 L w) (hrd:Ent L fun w=>Rd w A (cellsW l)) (hn:n=l.length) (hnm:n<=1000000) (hm:m<=1000) (hs:∀t ∈ l,t.1=bk->t.2.1<m) :
  Calls Tryd.prog 77 #[.slice A n c,.int .i64 (bk:Int),.int .i64 (m:Int)] w fun e w'=>∃v,e=.returned v/\Sp w0 (Row 3 1 v m (cellsN (PI.cnts m (PD.signsOf bk l)))::L) w':=by
 obtain⟨i0,hi,hz0,hz1,hz2⟩:=info_parts infoInt
 rw [<- cntR_cnts]
 have HRD:=Lib.hid hrd
 have HN:=Lib.hid hn
 have HS:=Lib.hid hs
 clear hrd hn hs
 go_enter Tryd.func77,Tryd.ntmps77
 go_wp2_with (at_make; refine wpList_make_sp rfl _ _ _ rfl 3 i0 (.int .i64 0) Tryd.underlying58 hi hz0 hz1 rfl m rfl rfl (by rw [hz2]; omega) (by unfold maxLen; omega) H ?_)
 intro av w1 H1
 have e0:List.replicate m (Value.int .i64 0)=cntR m (PD.signsOf bk (l.take 0)):=by
  unfold cntR
  rw [List.take_zero]
  apply List.ext_getElem
  ·simp
  ·intro i h1 h2
   simp [PD.signsOf]
 rw [e0] at H1
 have HX:=Lib.hid H1
 clear H H1 e0
 go_wp2_with fail
 go_loopw [14] (fun iv wr=>∃i:Nat,iv=.int .i64 (i:Int)/\i<=n/\Sp w0 (Row 3 1 (.slice (some av) m m) m (cntR m (PD.signsOf bk (l.take i)))::L) wr) (fun iv _=>n - (intOf iv).toNat)
 case atStart=>exact⟨0,rfl,Nat.zero_le _,HX.out⟩
 case round =>
  obtain⟨i,rfl,hin,H1⟩:=hrel
  clear HX
  by_cases hlt:i<n
  ·have k1:(i:Int)<(n:Int):=by omega
   have hil:i<l.length:=by rw [<- HN.out]; exact hlt
   obtain⟨ad,rfl,p0,p1,p2,p3⟩:=rdW (HRD.out _ _ H1.tail) hil
   have hsg:=signs_take (b:=bk) hil
   have hmem:l.getD i (0,0,0,0) ∈ l:=by rw [List.getD_eq_getElem?_getD,List.getElem?_eq_getElem hil]; exact List.getElem_mem hil
   have hsm:=HS.out _ hmem
   obtain⟨⟨b,s,q,r⟩,ht⟩:∃t,l.getD i (0,0,0,0)=t:=⟨_,rfl⟩
   rw [ht] at p0 p1 p2 p3 hsg hsm
   simp only at p0 p1 p2 p3 hsg hsm
   have H2:=H1.newBk [.int .i64 (b:Int),.int .i64 (s:Int),.int .i64 (q:Int),.int .i64 (r:Int)] 194
   have t0:=H2.cell 0 rfl 0
   have t1:=H2.cell 0 rfl 1
   simp only [List.getElem?_cons_zero,List.getElem?_cons_succ] at t0 t1
   obtain⟨R,hR⟩:∃R,PD.signsOf bk (l.take i)=R:=⟨_,rfl⟩
   rw [hR] at hsg H1 H2
   have hRl:R.length<=i:=by
    rw [<- hR]; unfold PD.signsOf
    rw [List.length_map]
    exact Nat.le_trans (List.length_filter_le _ _) (by rw [List.length_take]; omega)
   have HSG:=Lib.hid hsg
   clear ht hmem hsg hR
   by_cases hb:b=bk
   ·subst hb
    have hsm2:=hsm rfl
    have k2:(s:Int)<(m:Int):=by omega
    obtain⟨ad2,c2,ev,_,hcc,hfz,hset⟩:=H2.swap.rowSet hsm2
    injection ev with e1 e2 e3
    injection e1 with e1
    subst e1
    rw [cntR_get _ _ _ hsm2] at hcc
    obtain⟨q0,hq0⟩:∃q,R.count s=q:=⟨_,rfl⟩
    rw [hq0] at hcc
    have hq0l:q0<=1000000:=by
     have:=List.count_le_length (a:=s) (l:=R)
     omega
    have hs9:=hset (.int .i64 ((q0:Int)+1))
    rw [cntR_set m s R ((q0:Int)+1) (by rw [hq0])] at hs9
    have HSET:=Lib.hid hs9
    rw [if_pos rfl] at HSG
    clear hset hs9 H1 H2 hsm hq0 e2 e3
    go_wp2_with fail
    go_roundw
    case rel =>
     refine⟨i+1,by go_num,by omega,?_⟩
     rw [HSG.out]
     exact HSET.out.pick 2 [0]
    case measure=>first | (simp [intOf]; omega) | simp [intOf]
   ·have k2:((b:Int) == (bk:Int))=false:=by rw [beq_eq_false_iff_ne]; omega
    have k3:¬ (b:Int)=(bk:Int):=by omega
    rw [if_neg hb,List.append_nil] at HSG
    have HX:=Lib.hid H2.tail
    clear H1 H2 hsm
    go_wp2_with fail
    go_roundw
    case rel =>
     refine⟨i+1,by go_num,by omega,?_⟩
     rw [HSG.out]
     exact HX.out
    case measure=>first | (simp [intOf]; omega) | simp [intOf]
  ·have k1:¬ (i:Int)<(n:Int):=by omega
   rw [List.take_of_length_le (by rw [<- HN.out]; omega)] at H1
   have HX:=Lib.hid H1
   clear H1
   go_wp2_with fail
   go_ret
   exact⟨_,rfl,HX.out⟩
set_option maxRecDepth 100000 in
set_option maxHeartbeats 1000000 in
theorem dused_ok (A:Option Addr) (n c:Nat) (l:List Nat) (least:Nat) {w0 w:World} {L:List Pr} (H:Sp w0 L w) (hrd:Ent L fun w=>Rd w A (cellsN l)) (hn:n=l.length) (hnm:n<=1000000) (hls:least<=1000000) :
  Calls Tryd.prog 78 #[.slice A n c,.int .i64 (least:Int)] w fun e w'=>e=.returned (.int .i64 (PD.used l least n:Int))/\Sp w0 L w':=by
 obtain⟨T,hT⟩:∃T,PD.used l least n=T:=⟨_,rfl⟩
 rw [hT]
 have HT:=Lib.hid hT
 have HRD:=Lib.hid hrd
 have HN:=Lib.hid hn
 clear hrd hn hT
 go_enter Tryd.func78,Tryd.ntmps78
 go_wp2_with fail
 go_loopw [5] (fun kv wr=>∃k:Nat,kv=.int .i64 (k:Int)/\k<=n/\PD.used l least k=T/\Sp w0 L wr) (fun kv _=>(intOf kv).toNat)
 case atStart=>exact⟨n,rfl,Nat.le_refl _,HT.out,H⟩
 case round =>
  obtain⟨k,rfl,hk,hu,H1⟩:=hrel
  clear HT H
  by_cases hlk:least<k
  ·obtain⟨j,rfl⟩:∃j,k=j+1:=⟨k - 1,by omega⟩
   have k1:((j+1:Nat):Int) > (least:Int):=by omega
   have k2:(j:Int)+1 > (least:Int):=by omega
   have hjl:j<l.length:=by rw [<- HN.out]; omega
   have k3:(j:Int)<(n:Int):=by omega
   obtain⟨ad,rfl,hc⟩:=(HRD.out _ _ H1).at_ (k:=j) (by simpa [cellsN] using hjl)
   obtain⟨x,hx⟩:∃x,l.getD j 0=x:=⟨_,rfl⟩
   have hc2:wr.cell? (ad.add j)=some (.int .i64 (x:Int)):=by
    rw [hc,<- hx,List.getD_eq_getElem?_getD,List.getElem?_eq_getElem hjl]; simp [cellsN]
   rw [PD.used,hx] at hu
   have HU:=Lib.hid hu
   clear hc hx hu
   by_cases h0:x=0
   ·subst h0
    replace hc2:wr.cell? (ad.add j)=some (.int .i64 0):=hc2
    rw [if_pos ⟨hlk,rfl⟩] at HU
    go_wp2_with fail
    go_roundw
    case rel=>exact⟨j,by go_num,by omega,HU.out,H1⟩
    case measure=>first | (simp [intOf]; omega) | simp [intOf]
   ·have k4:((x:Int) == 0)=false:=by rw [beq_eq_false_iff_ne]; omega
    have k5:¬ (x:Int)=0:=by omega
    rw [if_neg (fun h=>h0 h.2)] at HU
    go_wp2_with fail
    go_ret
    exact⟨by rw [<- HU.out]; rfl,H1⟩
  ·have k1:¬ (k:Int) > (least:Int):=by omega
   have HU:Hid (k=T):=by
    rw [<- hu]
    cases k with
    | zero=>exact Lib.hid rfl
    | succ j=>rw [PD.used,if_neg (fun h=>hlk h.1)]; exact Lib.hid rfl
   clear hu
   go_wp2_with fail
   go_ret
   exact⟨by rw [<- HU.out]; rfl,H1⟩
theorem rdN {w:World} {A:Option Addr} {l:List Nat} (h:Rd w A (cellsN l)) {i:Nat} (hi:i<l.length):∃ad,A=some ad/\w.cell? (ad.add i)=some (.int .i64 (l.getD i 0:Nat)):=by
 obtain⟨ad,e,hc⟩:=h.at_ (k:=i) (by simpa [cellsN] using hi)
 refine⟨ad,e,?_⟩
 rw [hc,List.getD_eq_getElem?_getD,List.getElem?_eq_getElem hi]
 simp [cellsN]
theorem rdN' {ad:Addr} {l:List Nat} {w:World} (h:Rd w (some ad) (cellsN l)) {i:Nat} (hi:i<l.length):w.cell? (ad.add i)=some (.int .i64 (l.getD i 0:Nat)):=by
 obtain⟨a2,e,hc⟩:=rdN h hi
 injection e with e
 rw [e]; exact hc
set_option maxRecDepth 100000 in
set_option maxHeartbeats 2000000 in
theorem drun_ok (A:Option Addr) (n c:Nat) (l:List Nat) (i:Nat) {w0 w:World} {L:List Pr} (H:Sp w0 L w) (hrd:Ent L fun w=>Rd w A (cellsN l)) (hn:n=l.length) (hnm:n<=1000000) (hi:i<n) :
  Calls Tryd.prog 107 #[.slice A n c,.int .i64 (i:Int)] w fun e w'=>e=.returned (.int .i64 ((PI.runL (l.getD i 0) (l.drop (i+1))+1:Nat):Int))/\Sp w0 L w':=by
 obtain⟨T,hT⟩:∃T,PI.runL (l.getD i 0) (l.drop (i+1))+1=T:=⟨_,rfl⟩
 rw [hT]
 have hil:i<l.length:=by rw [<- hn]; exact hi
 obtain⟨ad,rfl,hc0⟩:=rdN (hrd _ _ H) hil
 obtain⟨x,hx⟩:∃x,l.getD i 0=x:=⟨_,rfl⟩
 have HT:=Lib.hid hT
 have HRD:=Lib.hid hrd
 have HN:=Lib.hid hn
 have HX:=Lib.hid hx
 clear hrd hn hT hx hc0
 go_enter Tryd.func107,Tryd.ntmps107
 go_wp2_with fail
 go_loopw [5] (fun kv wr=>∃k:Nat,kv=.int .i64 (k:Int)/\i+k<=n/\(∀j,i<=j->j<i+k->l.getD j 0=x)/\Sp w0 L wr) (fun kv _=>n - (intOf kv).toNat)
 case atStart=>exact⟨0,rfl,by omega,fun j h1 h2=>by omega,H⟩
 case round =>
  obtain⟨k,rfl,hk,hall,H1⟩:=hrel
  have HALL:=Lib.hid hall
  obtain⟨q,hq⟩:∃q,i+k=q:=⟨_,rfl⟩
  have y1:(i:Int)+(k:Int)=(q:Int):=by omega
  have c0:=rdN' (HRD.out _ _ H1) hil
  rw [HX.out] at c0
  clear hall
  by_cases hqn:q<n
  ·have n1:(q:Int)<(n:Int):=by omega
   have n2:decide ((q:Int)<(n:Int))=true:=decide_eq_true n1
   have n3:(i:Int)<(n:Int):=by omega
   have hql:q<l.length:=by rw [<- HN.out]; exact hqn
   have c1:=rdN' (HRD.out _ _ H1) hql
   obtain⟨y,hy⟩:∃y,l.getD q 0=y:=⟨_,rfl⟩
   rw [hy] at c1
   have HY:=Lib.hid hy
   clear hy
   by_cases hyx:y=x
   ·subst hyx
    have HH1:=Lib.hid H1
    clear H1 H
    go_wp2_with fail
    go_quiet (fail)
    have HQ:=Lib.hid (HH1.out.drewN nq)
    clear HH1
    go_wp2_with fail
    go_roundw
    case rel=>exact⟨k+1,by go_num,by omega,fun j h1 h2=>by
     by_cases e:j=q
     ·rw [e]; exact HY.out
     ·exact HALL.out j h1 (by omega),HQ.out⟩
    case measure=>first | (simp [intOf]; omega) | simp [intOf]
   ·have n4:((y:Int) == (x:Int))=false:=by rw [beq_eq_false_iff_ne]; omega
    have n5:¬ (y:Int)=(x:Int):=by omega
    have HK:Hid (k=T):=by
     rw [<- HT.out]
     have k0:0<k:=by
      rcases Nat.eq_zero_or_pos k with h | h
      ·subst h
       have:q=i:=by omega
       subst this
       exact absurd (HY.out.symm.trans HX.out) hyx
      ·exact h
     have h:=PI.runL_at (l:=l) (i:=i) (k:=q) hil (by omega) (by omega) (fun j h1 h2=>by rw [HX.out]; exact HALL.out j h1 (by omega)) (fun _=>by rw [HY.out,HX.out]; exact hyx)
     rw [h]
     exact Lib.hid (by omega)
    have HH1:=Lib.hid H1
    clear H1 H HT HALL
    go_wp2_with fail
    go_quiet (fail)
    have HQ:=Lib.hid (HH1.out.drewN nq)
    clear HH1
    go_wp2_with fail
    go_ret
    exact⟨by rw [<- HK.out]; rfl,HQ.out⟩
  ·have n1:¬ (q:Int)<(n:Int):=by omega
   have n2:decide ((q:Int)<(n:Int))=false:=decide_eq_false n1
   have HK:Hid (k=T):=by
    rw [<- HT.out]
    have h:=PI.runL_at (l:=l) (i:=i) (k:=q) hil (by omega) (by have:=HN.out; omega) (fun j h1 h2=>by rw [HX.out]; exact HALL.out j h1 (by omega)) (fun h=>by have:=HN.out; omega)
    rw [h]
    exact Lib.hid (by omega)
   have HH1:=Lib.hid H1
   clear H1 H HT HALL
   go_wp2_with fail
   go_quiet (fail)
   have HQ:=Lib.hid (HH1.out.drewN nq)
   clear HH1
   go_wp2_with fail
   go_ret
   exact⟨by rw [<- HK.out]; rfl,HQ.out⟩
namespace PD
theorem runL_get (x:Nat):∀(r:List Nat) (j:Nat),j<PI.runL x r->r.getD j 0=x:=by
 intro r
 induction r with
 | nil=>intro j h; simp [PI.runL] at h
 | cons y r ih =>
  intro j h
  unfold PI.runL at h
  split at h
  ·rename_i e
   cases j with
   | zero=>exact e
   | succ j=>exact ih j (by omega)
  ·omega
theorem rl_at {l:List Nat} {i f p:Nat} (hi:i<l.length):rl (f+1) p (l.drop i) =
  if p=l.getD i 0/\l.getD i 0≠0/\3<=PI.runL (l.getD i 0) (l.drop (i+1))+1 then (16,min (PI.runL (l.getD i 0) (l.drop (i+1))+1) 6 - 3)::rl f (l.getD i 0) (l.drop (i+min (PI.runL (l.getD i 0) (l.drop (i+1))+1) 6))
  else if l.getD i 0=0/\11<=PI.runL (l.getD i 0) (l.drop (i+1))+1 then (18,min (PI.runL (l.getD i 0) (l.drop (i+1))+1) 138 - 11)::rl f (l.getD i 0) (l.drop (i+min (PI.runL (l.getD i 0) (l.drop (i+1))+1) 138))
  else if l.getD i 0=0/\3<=PI.runL (l.getD i 0) (l.drop (i+1))+1 then (17,PI.runL (l.getD i 0) (l.drop (i+1))+1 - 3)::rl f (l.getD i 0) (l.drop (i+(PI.runL (l.getD i 0) (l.drop (i+1))+1)))
  else (l.getD i 0,0)::rl f (l.getD i 0) (l.drop (i+1)):=by
 have e:l.drop i=l.getD i 0::l.drop (i+1):=by
  rw [List.drop_eq_getElem_cons hi,List.getD_eq_getElem?_getD,List.getElem?_eq_getElem hi]; rfl
 generalize l.getD i 0=x at e ⊢
 generalize l.drop (i+1)=r at e ⊢
 have d:∀k,l.drop (i+k)=(x::r).drop k:=fun k=>by rw [<- e,List.drop_drop]
 rw [d (min (PI.runL x r+1) 6),d (min (PI.runL x r+1) 138),d (PI.runL x r+1),e]
 rfl
end PD
set_option maxRecDepth 100000 in
set_option maxHeartbeats 8000000 in
theorem drows_ok (A:Option Addr) (n c:Nat) (l:List Nat) {w0 w:World} {L:List Pr} (H:Sp w0 L w) (hrd:Ent L fun w=>Rd w A (cellsN l)) (hn:n=l.length) (hnm:n<=100000) (h15:∀x ∈ l,x<=15) :
  Calls Tryd.prog 79 #[.slice A n c] w fun e w'=>∃v,e=.returned v/\Sp w0 (Row 194 4 v ((PD.row l).map PD.rwd).length (cellsW ((PD.row l).map PD.rwd))::L) w':=by
 obtain⟨i1,hj,hj0,hj1,hj2⟩:=info_parts infoT
 obtain⟨FW,hFW⟩:∃FW,(PD.row l).map PD.rwd=FW:=⟨_,rfl⟩
 rw [hFW]
 have hF0:([]:List PD.Wd)++(PD.rl n 0 (l.drop 0)).map PD.rwd=FW:=by rw [<- hFW,hn]; rfl
 have HF:=Lib.hid hF0
 have HRD:=Lib.hid hrd
 have HN:=Lib.hid hn
 have H15:=Lib.hid h15
 clear hrd hn h15 hFW hF0
 go_enter Tryd.func79,Tryd.ntmps79
 go_wp2_with fail
 go_loopw [3,4] (fun rv iv wr=>∃(i f:Nat) (R:List PD.Wd) (p:Nat),iv=.int .i64 (i:Int)/\i<=n/\n<=i+f/\R.length<=i/\(if i=0 then 0 else l.getD (i - 1) 0)=p/\R++(PD.rl f p (l.drop i)).map PD.rwd=FW/\Sp w0 (Row 194 4 rv R.length (cellsW R)::L) wr) (fun _ iv _=>n - (intOf iv).toNat)
 case atStart=>exact⟨0,n,[],0,rfl,Nat.zero_le _,by omega,Nat.le_refl _,rfl,HF.out,H.rowNil _ _⟩
 case round =>
  obtain⟨i,f,R,p,rfl,hin,hf,hRl,hp,hinv,H1⟩:=hrel
  clear H HF
  have HI:=Lib.hid hinv
  have HP:=Lib.hid hp
  clear hinv hp
  by_cases hlt:i<n
  ·have k1:(i:Int)<(n:Int):=by omega
   have hil:i<l.length:=by rw [<- HN.out]; exact hlt
   obtain⟨f,rfl⟩:∃f',f=f'+1:=⟨f - 1,by omega⟩
   have hrl:=PD.rl_at (f:=f) (p:=p) hil
   obtain⟨ad,rfl,c0⟩:=rdN (HRD.out _ _ H1.tail) hil
   have hrun:=drun_ok (some ad) n c l i H1 (fun w0 w h=>HRD.out w0 w h.tail) HN.out (by omega) hlt
   obtain⟨x,hx⟩:∃x,l.getD i 0=x:=⟨_,rfl⟩
   have hx15:x<=15:=by
    rw [<- hx,List.getD_eq_getElem?_getD,List.getElem?_eq_getElem hil]
    exact H15.out _ (List.getElem_mem hil)
   obtain⟨q,hq⟩:∃q,PI.runL (l.getD i 0) (l.drop (i+1))+1=q:=⟨_,rfl⟩
   have hqn:1<=q/\i+q<=n:=by
    have:=PI.runL_le (l.getD i 0) (l.drop (i+1))
    rw [List.length_drop] at this
    have:=HN.out
    omega
   have hget:∀k,1<=k->k<=q->(if i+k=0 then 0 else l.getD (i+k - 1) 0)=x:=fun k h1 h2=>by
    rw [if_neg (by omega)]
    by_cases e:k=1
    ·subst e; rw [Nat.add_sub_cancel]; exact hx
    ·have h:=PD.runL_get (l.getD i 0) (l.drop (i+1)) (k - 2) (by omega)
     rw [List.getD_eq_getElem?_getD,List.getElem?_drop,show i+1+(k - 2)=i+k - 1 by omega,hx] at h
     rw [List.getD_eq_getElem?_getD]
     exact h
   rw [hq] at hrl hrun
   rw [hx] at hrl c0
   obtain⟨ag,hag⟩:∃ag,decide (p=x/\x≠0)=ag:=⟨_,rfl⟩
   have HGET:=Lib.hid hget
   have HRL:=Lib.hid hrl
   have HRUN:=Lib.hid hrun
   have HAG:=Lib.hid hag
   have HX:=Lib.hid hx
   obtain⟨VR,vrc,rfl,_,_⟩:=Row.form H1 0 rfl
   clear hrl hrun hget hq hx hag
   go_wp2_with fail
   refine HRUN.out.mono ?_
   rintro _ w2 ⟨rfl,H1⟩
   clear HRUN c0
   go_upto_region 5 with (fail)
   go_cut [6] from 7 to 93 (fun s6 wx=>s6=.bool ag/\Sp w0 (Row 194 4 (.slice VR R.length vrc) R.length (cellsW R)::L) wx)
   case first =>
    have c0:=rdN' (HRD.out _ _ H1.tail) hil
    rw [HX.out] at c0
    have HH1:=Lib.hid H1
    by_cases hi0:0<i
    ·have g1:(i:Int) > 0:=by omega
     have g2:decide (0<i)=true:=decide_eq_true hi0
     obtain⟨j,hj9⟩:∃j,i - 1=j:=⟨_,rfl⟩
     have y1:(i:Int) - 1=(j:Int):=by omega
     have k2:(j:Int)<(n:Int):=by omega
     have c1:=rdN' (i:=j) (HRD.out _ _ H1.tail) (by omega)
     have hpj:l.getD j 0=p:=by
      have h:=HP.out
      rw [if_neg (by omega),hj9] at h
      exact h
     rw [hpj] at c1
     have HAG2:=HAG.out
     clear H1 hpj hj9
     by_cases hpx:p=x
     ·subst hpx
      by_cases h0:p=0
      ·have e:ag=false:=by rw [<- HAG2,decide_eq_false]; exact fun h=>h.2 h0
       subst e h0
       replace c0:w2.cell? (ad.add i)=some (.int .i64 0):=c0
       replace c1:w2.cell? (ad.add j)=some (.int .i64 0):=c1
       clear HAG2
       go_wp2_with fail
       go_quiet (fail)
       have HQ:=Lib.hid (HH1.out.drewN nq)
       clear HH1
       go_wp2_with fail
       go_meet
       exact⟨rfl,HQ.out⟩
      ·have e:ag=true:=by rw [<- HAG2,decide_eq_true]; exact⟨rfl,h0⟩
       subst e
       have g5:¬ (p:Int)=0:=by omega
       have g6:((p:Int) != 0)=true:=by simpa using h0
       clear HAG2
       go_wp2_with fail
       go_quiet (fail)
       have HQ:=Lib.hid (HH1.out.drewN nq)
       clear HH1
       go_wp2_with fail
       go_meet
       exact⟨rfl,HQ.out⟩
     ·have e:ag=false:=by rw [<- HAG2,decide_eq_false]; exact fun h=>hpx h.1
      subst e
      have g5:¬ (p:Int)=(x:Int):=by omega
      have g6:((p:Int) == (x:Int))=false:=by rw [beq_eq_false_iff_ne]; exact g5
      clear HAG2
      go_wp2_with fail
      go_quiet (fail)
      have HQ:=Lib.hid (HH1.out.drewN nq)
      clear HH1
      go_wp2_with fail
      go_meet
      exact⟨rfl,HQ.out⟩
    ·have g1:¬ (i:Int) > 0:=by omega
     have g2:decide (0<i)=false:=decide_eq_false hi0
     have e:ag=false:=by
      rw [<- HAG.out,decide_eq_false]
      have h:=HP.out
      rw [if_pos (by omega)] at h
      intro h2; exact h2.2 (by omega)
     subst e
     clear H1
     go_wp2_with fail
     go_quiet (fail)
     have HQ:=Lib.hid (HH1.out.drewN nq)
     clear HH1
     go_wp2_with fail
     go_meet
     exact⟨rfl,HQ.out⟩
   case rest =>
    obtain⟨rfl,H1⟩:=hcut
    have HR:=HRL.out
    have HA:=HAG.out
    clear HRL HAG
    by_cases c1:ag=true/\3<=q
    ·obtain⟨rfl,h3⟩:=c1
     have hpx:=of_decide_eq_true HA
     rw [if_pos ⟨hpx.1,hpx.2,h3⟩] at HR
     obtain⟨m,hm⟩:∃m,min q 6=m:=⟨_,rfl⟩
     obtain⟨v,hv⟩:∃v,m - 3=v:=⟨_,rfl⟩
     have y1:min (q:Int) 6=(m:Int):=by omega
     have y2:(m:Int) - 3=(v:Int):=by omega
     have y3:(q:Int)≥3:=by omega
     rw [hm,hv] at HR
     have HN2:Hid (R++(((0,16,2,v):PD.Wd)::(PD.rl f x (l.drop (i+m))).map PD.rwd)=FW):=by rw [<- HI.out,HR]; exact Lib.hid rfl
     have HN:=HN2
     have hmq:1<=m/\m<=q:=by omega
     clear HI HR HA hm hv hpx HN2
     have H3:=H1.newBk (wdC (0,16,2,v)) 194
     have HR3:=Lib.hid (Rd.of_blk (H3.blk 0 rfl))
     have HH3:=Lib.hid (H3.pick 2 [1])
     clear H1 H3
     go_wp2_with (at_builtin; refine wpList_append_sp rfl _ _ 161 rfl 194 i1 (.agg #[.int .i64 0,.int .i64 0,.int .i64 0,.int .i64 0]) 4 32 Tryd.underlying161 hj hj0 hj1 hj2 rfl (by decide) _ R.length (cellsW R) rfl HH3.out (some ⟨_,0,none⟩) 1 1 (wdC (0,16,2,v)) rfl rfl HR3.out (wdC_one _) (by unfold maxLen; omega) (by omega) ?_)
     intro v4 w4 H4 _
     clear HH3 HR3
     go_wp2_with fail
     go_roundw
     case rel =>
      refine⟨i+m,f,R++[(0,16,2,v)],x,by go_num,by omega,by omega,by rw [List.length_append]; simp only [List.length_cons,List.length_nil]; omega,HGET.out m (by omega) (by omega),by rw [List.append_assoc]; exact HN.out,?_⟩
      rw [List.length_append,cellsW_app]
      rw [show cellsW [((0,16,2,v):PD.Wd)]=wdC (0,16,2,v) from List.append_nil _]
      exact H4
     case measure=>first | (simp [intOf]; omega) | simp [intOf]
    ·have HR2:PD.rl (f+1) p (l.drop i)=if x=0/\11<=q then (18,min q 138 - 11)::PD.rl f x (l.drop (i+min q 138)) else if x=0/\3<=q then (17,q - 3)::PD.rl f x (l.drop (i+q)) else (x,0)::PD.rl f x (l.drop (i+1)):=by
      rw [HR,if_neg]
      intro h
      exact c1 ⟨by rw [<- HA,decide_eq_true]; exact⟨h.1,h.2.1⟩,h.2.2⟩
     have hsk:ag=false∨¬ (q:Int)≥3:=by
      cases ag
      ·exact .inl rfl
      ·exact .inr fun h=>c1 ⟨rfl,by omega⟩
     have c0:=rdN' (HRD.out _ _ H1.tail) hil
     rw [HX.out] at c0
     have HR3:=Lib.hid HR2
     clear HR HR2 HA c1
     clear c0
     go_upto_region 8 with (fail)
     go_cut [43] from 7 to 93 (fun s43 wx=>s43=.bool false/\Sp w0 (Row 194 4 (.slice VR R.length vrc) R.length (cellsW R)::L) wx)
     case first =>
      rcases hsk with rfl | y3
      ·go_wp2_with fail
       go_meet
       exact⟨rfl,H1⟩
      ·cases ag
       ·go_wp2_with fail
        go_meet
        exact⟨rfl,H1⟩
       ·go_wp2_with fail
        go_meet
        exact⟨rfl,H1⟩
     case rest =>
      obtain⟨rfl,H1⟩:=hcut
      clear hsk
      have HR:=HR3.out
      have c0:=rdN' (HRD.out _ _ H1.tail) hil
      rw [HX.out] at c0
      clear HR3
      by_cases h0:x=0
      ·subst h0
       replace c0:World.cell? _ (ad.add i)=some (.int .i64 0):=c0
       by_cases h11:11<=q
       ·rw [if_pos ⟨rfl,h11⟩] at HR
        have y3:(q:Int)≥11:=by omega
        obtain⟨m,hm⟩:∃m,min q 138=m:=⟨_,rfl⟩
        obtain⟨v,hv⟩:∃v,m - 11=v:=⟨_,rfl⟩
        have y1:min (q:Int) 138=(m:Int):=by omega
        have y2:(m:Int) - 11=(v:Int):=by omega
        rw [hm,hv] at HR
        have HN:Hid (R++(((0,18,7,v):PD.Wd)::(PD.rl f 0 (l.drop (i+m))).map PD.rwd)=FW):=by rw [<- HI.out,HR]; exact Lib.hid rfl
        have hmq:1<=m/\m<=q:=by omega
        clear HI HR hm hv
        have H3:=H1.newBk (wdC (0,18,7,v)) 194
        have HR3:=Lib.hid (Rd.of_blk (H3.blk 0 rfl))
        have HH3:=Lib.hid (H3.pick 2 [1])
        clear H1 H3
        go_wp2_with (at_builtin; refine wpList_append_sp rfl _ _ 161 rfl 194 i1 (.agg #[.int .i64 0,.int .i64 0,.int .i64 0,.int .i64 0]) 4 32 Tryd.underlying161 hj hj0 hj1 hj2 rfl (by decide) _ R.length (cellsW R) rfl HH3.out (some ⟨_,0,none⟩) 1 1 (wdC (0,18,7,v)) rfl rfl HR3.out (wdC_one _) (by unfold maxLen; omega) (by omega) ?_)
        intro v4 w4 H4 _
        clear HH3 HR3
        go_wp2_with fail
        go_roundw
        case rel =>
         refine⟨i+m,f,R++[(0,18,7,v)],0,by go_num,by omega,by omega,by rw [List.length_append]; simp only [List.length_cons,List.length_nil]; omega,HGET.out m (by omega) (by omega),by rw [List.append_assoc]; exact HN.out,?_⟩
         rw [List.length_append,cellsW_app]
         rw [show cellsW [((0,18,7,v):PD.Wd)]=wdC (0,18,7,v) from List.append_nil _]
         exact H4
        case measure=>first | (simp [intOf]; omega) | simp [intOf]
       ·rw [if_neg (fun h=>h11 h.2)] at HR
        have y3:¬ (q:Int)≥11:=by omega
        by_cases h3:3<=q
        ·rw [if_pos ⟨rfl,h3⟩] at HR
         have y4:(q:Int)≥3:=by omega
         obtain⟨v,hv⟩:∃v,q - 3=v:=⟨_,rfl⟩
         have y2:(q:Int) - 3=(v:Int):=by omega
         rw [hv] at HR
         have HN:Hid (R++(((0,17,3,v):PD.Wd)::(PD.rl f 0 (l.drop (i+q))).map PD.rwd)=FW):=by rw [<- HI.out,HR]; exact Lib.hid rfl
         clear HI HR hv
         have H3:=H1.newBk (wdC (0,17,3,v)) 194
         have HR3:=Lib.hid (Rd.of_blk (H3.blk 0 rfl))
         have HH3:=Lib.hid (H3.pick 2 [1])
         clear H1 H3
         go_wp2_with (at_builtin; refine wpList_append_sp rfl _ _ 161 rfl 194 i1 (.agg #[.int .i64 0,.int .i64 0,.int .i64 0,.int .i64 0]) 4 32 Tryd.underlying161 hj hj0 hj1 hj2 rfl (by decide) _ R.length (cellsW R) rfl HH3.out (some ⟨_,0,none⟩) 1 1 (wdC (0,17,3,v)) rfl rfl HR3.out (wdC_one _) (by unfold maxLen; omega) (by omega) ?_)
         intro v4 w4 H4 _
         clear HH3 HR3
         go_wp2_with fail
         go_roundw
         case rel =>
          refine⟨i+q,f,R++[(0,17,3,v)],0,by go_num,by omega,by omega,by rw [List.length_append]; simp only [List.length_cons,List.length_nil]; omega,HGET.out q (by omega) (by omega),by rw [List.append_assoc]; exact HN.out,?_⟩
          rw [List.length_append,cellsW_app]
          rw [show cellsW [((0,17,3,v):PD.Wd)]=wdC (0,17,3,v) from List.append_nil _]
          exact H4
         case measure=>first | (simp [intOf]; omega) | simp [intOf]
        ·rw [if_neg (fun h=>h3 h.2)] at HR
         have y4:¬ (q:Int)≥3:=by omega
         have HN:Hid (R++(((0,0,0,0):PD.Wd)::(PD.rl f 0 (l.drop (i+1))).map PD.rwd)=FW):=by rw [<- HI.out,HR]; exact Lib.hid rfl
         clear HI HR
         have H3:=H1.newBk (wdC (0,0,0,0)) 194
         have HR3:=Lib.hid (Rd.of_blk (H3.blk 0 rfl))
         have HH3:=Lib.hid (H3.pick 2 [1])
         clear H1 H3
         go_wp2_with (at_builtin; refine wpList_append_sp rfl _ _ 161 rfl 194 i1 (.agg #[.int .i64 0,.int .i64 0,.int .i64 0,.int .i64 0]) 4 32 Tryd.underlying161 hj hj0 hj1 hj2 rfl (by decide) _ R.length (cellsW R) rfl HH3.out (some ⟨_,0,none⟩) 1 1 (wdC (0,0,0,0)) rfl rfl HR3.out (wdC_one _) (by unfold maxLen; omega) (by omega) ?_)
         intro v4 w4 H4 _
         clear HH3 HR3
         go_wp2_with fail
         go_roundw
         case rel =>
          refine⟨i+1,f,R++[(0,0,0,0)],0,by go_num,by omega,by omega,by rw [List.length_append]; simp only [List.length_cons,List.length_nil]; omega,HGET.out 1 (by omega) (by omega),by rw [List.append_assoc]; exact HN.out,?_⟩
          rw [List.length_append,cellsW_app]
          rw [show cellsW [((0,0,0,0):PD.Wd)]=wdC (0,0,0,0) from List.append_nil _]
          exact H4
         case measure=>first | (simp [intOf]; omega) | simp [intOf]
      ·rw [if_neg (fun h=>h0 h.1),if_neg (fun h=>h0 h.1)] at HR
       have y3:¬ (x:Int)=0:=by omega
       have y4:((x:Int) == 0)=false:=by rw [beq_eq_false_iff_ne]; exact y3
       have HN:Hid (R++(((0,x,0,0):PD.Wd)::(PD.rl f x (l.drop (i+1))).map PD.rwd)=FW):=by
        rw [<- HI.out,HR,List.map_cons]
        have e:PD.rwd (x,0)=(0,x,0,0):=by unfold PD.rwd; rw [PI.tellB_small x hx15]
        rw [e]; exact Lib.hid rfl
       clear HI HR
       have H3:=H1.newBk (wdC (0,x,0,0)) 194
       have HR3:=Lib.hid (Rd.of_blk (H3.blk 0 rfl))
       have HH3:=Lib.hid (H3.pick 2 [1])
       clear H1 H3
       go_wp2_with (at_builtin; refine wpList_append_sp rfl _ _ 161 rfl 194 i1 (.agg #[.int .i64 0,.int .i64 0,.int .i64 0,.int .i64 0]) 4 32 Tryd.underlying161 hj hj0 hj1 hj2 rfl (by decide) _ R.length (cellsW R) rfl HH3.out (some ⟨_,0,none⟩) 1 1 (wdC (0,x,0,0)) rfl rfl HR3.out (wdC_one _) (by unfold maxLen; omega) (by omega) ?_)
       intro v4 w4 H4 _
       clear HH3 HR3
       go_wp2_with fail
       go_roundw
       case rel =>
        refine⟨i+1,f,R++[(0,x,0,0)],x,by go_num,by omega,by omega,by rw [List.length_append]; simp only [List.length_cons,List.length_nil]; omega,HGET.out 1 (by omega) (by omega),by rw [List.append_assoc]; exact HN.out,?_⟩
        rw [List.length_append,cellsW_app]
        rw [show cellsW [((0,x,0,0):PD.Wd)]=wdC (0,x,0,0) from List.append_nil _]
        exact H4
       case measure=>first | (simp [intOf]; omega) | simp [intOf]
  ·have k1:¬ (i:Int)<(n:Int):=by omega
   have hnil:FW=R:=by
    rw [<- HI.out,List.drop_eq_nil_of_le (by rw [<- HN.out]; omega)]
    have:PD.rl f p []=[]:=by cases f <;> rfl
    rw [this]; simp
   have HFW:=Lib.hid hnil
   have HX:=Lib.hid H1
   clear H1 hnil
   go_wp2_with fail
   go_ret
   exact⟨_,rfl,by rw [HFW.out]; exact HX.out⟩
end Go.Proofs.YtloijdbkikccgaaDoor

