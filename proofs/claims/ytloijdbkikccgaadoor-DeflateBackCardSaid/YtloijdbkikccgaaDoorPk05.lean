/- A pack of texts: HuffB HuffC SortA. -/
import Derived.Test.YtloijdbkikccgaaDoorPk04
namespace Go.Proofs.YtloijdbkikccgaaDoor
open Go.RowKit
def cntV (f:Nat→Nat):List Value:=(List.range 16).map fun i=>.int .i64 (f i:Int)
theorem cntV_get (f:Nat→Nat) (i:Nat) (h:i<16):(cntV f)[i]?=some (.int .i64 (f i:Int)):=by
 unfold cntV
 rw [List.getElem?_map,List.getElem?_range h]
 rfl
theorem cntV_set (f:Nat→Nat) (x v:Nat):(cntV f).set x (.int .i64 (v:Int))=cntV fun i=>if i=x then v else f i:=by
 apply List.ext_getElem?
 intro i
 rw [List.getElem?_set]
 by_cases h:i<16
 ·rw [cntV_get _ _ h,cntV_get _ _ h]
  by_cases e:x=i
  ·subst e
   rw [if_pos rfl,if_pos (by simp [cntV]; exact h),if_pos rfl]
  ·rw [if_neg e,if_neg (fun h=>e h.symm)]
 ·have h1:(cntV f)[i]?=none:=List.getElem?_eq_none (by simp [cntV]; omega)
  have h2:(cntV fun i=>if i=x then v else f i)[i]?=none:=List.getElem?_eq_none (by simp [cntV]; omega)
  rw [h1,h2]
  split
  ·rw [if_neg (by simp [cntV]; omega)]
  ·rfl
theorem cntV_one (f:Nat→Nat):∀ v ∈ cntV f,v.oneCell'=true:=by
 intro v hv
 obtain ⟨i,_,rfl⟩:=List.mem_map.1 hv
 rfl
def tallyV (m:List Nat):Value:=.agg (cntV (PH.tal m)).toArray
theorem addr0 (g j:Nat):(⟨g,0,none⟩:Addr).add j=⟨g,j,none⟩:=by
 unfold Addr.add; split
 ·rename_i h0; subst h0; rfl
 ·simp
def castI (m:List Nat):List Int:=m.map fun n:Nat=>(n:Int)
set_option maxRecDepth 100000 in
set_option maxHeartbeats 4000000 in
theorem tally_ok (A:Option Addr) (n c:Nat) (m:List Nat) {w0 w:World} {L:List Pr} (H:Sp w0 L w) (hn:n=m.length) (hb:Ent L fun w=>Rd w A (cells64 (castI m))) (hl:n≤1000000000) (h15:∀ x ∈ m,x≤15) :
  Calls Tryd.prog 102 #[.slice A n c] w fun e w'=>e=.returned (tallyV m)∧Sp w0 L w':=by
 have HN:=Lib.hid hn
 have HB:=Lib.hid hb
 clear hn hb
 obtain ⟨t,ht⟩:∃ t,tallyV m=t:=⟨_,rfl⟩
 rw [ht]
 have HT:=Lib.hid ht
 clear ht
 have es:(w.alloc (.cells #[.int .i64 0,.int .i64 0,.int .i64 0,.int .i64 0,.int .i64 0,.int .i64 0,.int .i64 0,.int .i64 0,.int .i64 0,.int .i64 0,.int .i64 0,.int .i64 0,.int .i64 0,.int .i64 0,.int .i64 0,.int .i64 0] 186)).heap.size=w.heap.size+1:=Array.size_push _
 have H1:=(H.newBk [.int .i64 0,.int .i64 0,.int .i64 0,.int .i64 0,.int .i64 0,.int .i64 0,.int .i64 0,.int .i64 0,.int .i64 0,.int .i64 0,.int .i64 0,.int .i64 0,.int .i64 0,.int .i64 0,.int .i64 0,.int .i64 0] 186).newBk [.int .i64 0,.int .i64 0,.int .i64 0,.int .i64 0,.int .i64 0,.int .i64 0,.int .i64 0,.int .i64 0,.int .i64 0,.int .i64 0,.int .i64 0,.int .i64 0,.int .i64 0,.int .i64 0,.int .i64 0,.int .i64 0] 186
 rw [es] at H1
 clear es
 go_enter Tryd.func102,Tryd.ntmps102
 go_wp2_with fail
 generalize w.heap.size+1=g3 at H1 ⊢
 generalize w.heap.size=g2 at H1 ⊢
 generalize (w.alloc _).alloc _=w1 at H1 ⊢
 obtain ⟨G,hG⟩:∃ G:Addr,(⟨g3,0,none⟩:Addr)=G:=⟨_,rfl⟩
 rw [hG]
 have HG:=Lib.hid hG
 clear hG
 go_loopw [8] (fun iv wr=>∃ i:Nat,iv=.int .i64 (i:Int)∧i≤n∧Sp w0 (Bk g3 186 (cntV fun k=>(m.take i).count k)::Bk g2 186 [.int .i64 0,.int .i64 0,.int .i64 0,.int .i64 0,.int .i64 0,.int .i64 0,.int .i64 0,.int .i64 0,.int .i64 0,.int .i64 0,.int .i64 0,.int .i64 0,.int .i64 0,.int .i64 0,.int .i64 0,.int .i64 0]::L) wr) (fun iv _=>n - (intOf iv).toNat)
 case atStart=>exact ⟨0,rfl,Nat.zero_le _,H1⟩
 case round =>
  obtain ⟨i,rfl,hi,H2⟩:=hrel
  by_cases hin:i<n
  ·have k1:(i:Int)<(n:Int):=by omega
   have hiX:i<m.length:=by rw [← HN.out]; exact hin
   obtain ⟨ad,rfl,hc⟩:=(HB.out _ _ (H2.pick 2 [])).at64 (k:=i) (by simpa [castI] using hiX)
   obtain ⟨x,hx⟩:∃ x,m[i]=x:=⟨_,rfl⟩
   have hx15:x≤15:=by rw [← hx]; exact h15 _ (List.getElem_mem hiX)
   replace hc:wr.cell? (ad.add i)=some (.int .i64 (x:Int)):=by
    rw [hc]
    simp [castI,hx]
   obtain ⟨q,hq⟩:∃ q,(m.take i).count x=q:=⟨_,rfl⟩
   have hqn:q≤i:=by
    rw [← hq]
    refine Nat.le_trans List.count_le_length ?_
    rw [List.length_take]; omega
   have c1:wr.cell? (G.add x)=some (.int .i64 (q:Int)):=by
    rw [← HG.out,addr0,H2.cell 0 rfl x,cntV_get _ _ (by omega),hq]
   have z1:wr.frozen? (G.add x)=false:=by
    rw [← HG.out,addr0]
    exact H2.frozen 0 rfl x
   have k2:(x:Int)<16:=by omega
   have hset:Sp w0 (Bk g3 186 (cntV fun k=>(m.take (i+1)).count k)::Bk g2 186 [.int .i64 0,.int .i64 0,.int .i64 0,.int .i64 0,.int .i64 0,.int .i64 0,.int .i64 0,.int .i64 0,.int .i64 0,.int .i64 0,.int .i64 0,.int .i64 0,.int .i64 0,.int .i64 0,.int .i64 0,.int .i64 0]::L) (wr.setCell (G.add x) (.int .i64 ((q:Int)+1))):=by
    have h:=H2.set x (.int .i64 ((q+1:Nat):Int))
    rw [cntV_set] at h
    rw [← HG.out,addr0]
    have e:(fun k=>(m.take (i+1)).count k)=fun k=>if k=x then q+1 else (m.take i).count k:=by
     funext k
     rw [List.take_succ_eq_append_getElem hiX,List.count_append,hx]
     by_cases ek:k=x
     ·subst ek
      rw [if_pos rfl,hq]
      simp
     ·rw [if_neg ek,List.count_singleton,beq_eq_false_iff_ne.2 (fun h=>ek h.symm)]
      simp
    rw [e]
    exact h
   have HS:=Lib.hid hset
   clear hset hq hx
   go_wp2_with fail
   go_roundw
   case rel=>exact ⟨i+1,by go_num,by omega,HS.out⟩
   case measure=>first | (simp [intOf]; omega) | simp [intOf]
  ·have k1:¬ (i:Int)<(n:Int):=by omega
   rw [List.take_of_length_le (by rw [← HN.out]; omega)] at H2
   have e0:(fun i=>if i=0 then 0 else m.count i)=PH.tal m:=by
    funext i; unfold PH.tal; rfl
   have H4:=H2.set 0 (.int .i64 ((0:Nat):Int))
   rw [cntV_set,e0] at H4
   have c0:wr.cell? ⟨g3,0,none⟩=some (.int .i64 (m.count 0:Int)):=by rw [H2.cell 0 rfl 0,cntV_get _ _ (by omega)]
   have z0:wr.frozen? ⟨g3,0,none⟩=false:=H2.frozen 0 rfl 0
   have HH4:=Lib.hid H4
   have hsw:=H4.swap
   have HSW:=Lib.hid hsw
   clear H4 hsw
   obtain rfl:=HG.out
   go_wp2_with (first | (refine wpList_load_whole rfl 186 _ rfl g3 186 (cntV (PH.tal m)) rfl (HH4.out.blk 0 rfl) Tryd.isAgg186 Tryd.sizeOf186 ?_) | (refine wpList_store_whole rfl 186 _ _ rfl g2 186 _ (cntV (PH.tal m)) rfl rfl HSW.out rfl Tryd.sizeOf186 (cntV_one _) ?_))
   intro w9 H9
   go_wp2_with fail
   have hld:=run_loadCells_list (P:=Tryd.prog) w9 ⟨g2,0,none⟩ (cntV (PH.tal m)) (fun j v hj=>by rw [addr0,H9.cell 0 rfl]; exact hj)
   rw [show (cntV (PH.tal m)).length=16 from rfl] at hld
   refine bodyPost_ret (v:=tallyV m) (by simp [results,Tryd.results102,Tryd.isAgg186,Tryd.sizeOf186,hld,Result.andThen,tallyV,asAddr,loadVar]) rfl ?_
   exact ⟨by rw [HT.out],H9.pick 2 []⟩
open Go.RowKit
def cmpI (x y:Int):Int:=if x<y then -1 else if y<x then 1 else 0
set_option maxRecDepth 100000 in
theorem nan_ok (x:Int) (w:World):Calls Tryd.prog 142 #[.int .i64 x] w fun e w'=>e=.returned (.bool false)∧w=w':=by
 go_enter Tryd.func142,Tryd.ntmps142
 go_wp2
 go_ret
 exact ⟨rfl,rfl⟩
set_option maxRecDepth 100000 in
theorem cmp_ok (x y:Int) (w:World):Calls Tryd.prog 99 #[.int .i64 x,.int .i64 y] w fun e w'=>e=.returned (.int .i64 (cmpI x y))∧w=w':=by
 obtain ⟨r,hr⟩:∃ r,cmpI x y=r:=⟨_,rfl⟩
 rw [hr]
 have HR:=Lib.hid hr
 clear hr
 go_enter Tryd.func99,Tryd.ntmps99
 go_wp2_with fail
 refine (nan_ok x _).mono ?_
 rintro _ _ ⟨rfl,rfl⟩
 go_wp2_with fail
 refine (nan_ok y _).mono ?_
 rintro _ _ ⟨rfl,rfl⟩
 by_cases h1:x<y
 ·go_wp2_with fail
  go_ret
  exact ⟨ret_i64 (by rw [← HR.out]; unfold cmpI; rw [if_pos h1]),rfl⟩
 ·by_cases h2:y<x
  ·go_wp2_with fail
   go_ret
   exact ⟨ret_i64 (by rw [← HR.out]; unfold cmpI; rw [if_neg (by omega),if_pos (by omega)]),rfl⟩
  ·go_wp2_with fail
   go_ret
   exact ⟨ret_i64 (by rw [← HR.out]; unfold cmpI; rw [if_neg (by omega),if_neg (by omega)]),rfl⟩
theorem index16 (f:Nat→Nat) (i:Nat) (h:i<16) (w:World):(Instr.index 186 (.agg (cntV f).toArray) (.int .i64 (i:Int))).run Tryd.prog w=.ok (.int .i64 (f i:Int)) w:=by
 simp [Instr.index,run_underlying Tryd.underlying186,asIntOf,part,Result.andThen,cntV_get f i h]
 intro h2; omega
set_option maxRecDepth 100000 in
set_option maxHeartbeats 2000000 in
theorem state_ok (A:Option Addr) (n c:Nat) (m:List Nat) {w0 w:World} {L:List Pr} (H:Sp w0 L w) (hn:n=m.length) (hb:Ent L fun w=>Rd w A (cells64 (castI m))) (hl:n≤1024) (h15:∀ x ∈ m,x≤15) :
  Calls Tryd.prog 100 #[.slice A n c] w fun e w'=>e=.returned (.tuple #[.int .i64 (PH.state m),.int .i64 0])∧Sp w0 L w':=by
 have hmay:=hmay_ok A n c (castI m) H (by simpa [castI] using hn) hb (by omega)
 have hmt:PH.may (castI m)=true:=by
  unfold PH.may
  rw [decide_eq_true (by rw [← show n=(castI m).length by simpa [castI] using hn]; exact hl),Bool.true_and,Bool.not_eq_true',List.any_eq_false]
  intro x hx
  obtain ⟨y,hy,rfl⟩:=List.mem_map.1 hx
  have:=h15 y hy
  unfold PH.bad
  simp only [decide_eq_true_eq]
  omega
 rw [hmt] at hmay
 have HN:=Lib.hid hn
 have HB:=Lib.hid hb
 have H15:=Lib.hid h15
 have hst:cmpI (PH.sum m:Int) 32768=PH.state m:=by
  unfold cmpI PH.state
  by_cases h1:PH.sum m<32768
  ·rw [if_pos h1,if_pos (by omega)]
  ·rw [if_neg h1,if_neg (by omega)]
   by_cases h2:32768<PH.sum m
   ·rw [if_pos h2,if_pos (by omega)]
   ·rw [if_neg h2,if_neg (by omega)]
 have HST:=Lib.hid hst
 clear hn hb h15 hmt hst
 obtain ⟨st,hst⟩:∃ st,PH.state m=st:=⟨_,rfl⟩
 rw [hst]
 rw [hst] at HST
 clear hst
 obtain ⟨t,ht⟩:∃ t,tallyV m=t:=⟨_,rfl⟩
 have hix:∀ (i:Nat) (w:World),i<16→(Instr.index 186 t (.int .i64 (i:Int))).run Tryd.prog w=.ok (.int .i64 (PH.tal m i:Int)) w:=fun i w h=>by rw [← ht]; exact index16 _ i h w
 have HIX:=Lib.hid hix
 have HT:=Lib.hid ht
 clear hix ht
 go_enter Tryd.func100,Tryd.ntmps100
 go_wp2_with fail
 refine hmay.mono ?_
 rintro _ w1 ⟨rfl,H1⟩
 clear hmay
 go_wp2_with fail
 refine (tally_ok A n c m H1 HN.out HB.out (by omega) H15.out).mono ?_
 rintro _ w2 ⟨rfl,H2⟩
 rw [HT.out]
 go_wp2_with fail
 go_loopw [4,12] (fun sv iv wr=>∃ i:Nat,iv=.int .i64 (i:Int)∧sv=.int .i64 (PH.share m i:Int)∧i≤16∧Sp w0 L wr) (fun _ iv _=>16 - (intOf iv).toNat)
 case atStart=>exact ⟨0,rfl,rfl,by omega,H2⟩
 case round =>
  obtain ⟨i,rfl,rfl,hi,H3⟩:=hrel
  by_cases hin:i<16
  ·have k1:(i:Int)<16:=by omega
   have hx:=HIX.out i wr hin
   obtain ⟨q,hq⟩:∃ q,PH.tal m i=q:=⟨_,rfl⟩
   have hqn:q≤n:=by rw [← hq,HN.out]; exact PH.tal_le m i
   obtain ⟨s,hs⟩:∃ s,PH.share m i=s:=⟨_,rfl⟩
   have hsn:s≤600000000:=by
    rw [← hs]
    have:=PH.share_le m i
    rw [← HN.out] at this
    have h2:i * (n * 32768)≤16 * (1024 * 32768):=Nat.mul_le_mul (by omega) (Nat.mul_le_mul_right _ hl)
    omega
   have hss:PH.share m (i+1)=s+q * 2 ^ (15 - i):=by rw [PH.share,hs,hq]
   rw [hq] at hx
   rw [hs]
   obtain ⟨p,hp⟩:∃ p,q * 2 ^ (15 - i)=p:=⟨_,rfl⟩
   have hpn:p≤40000000:=by
    rw [← hp]
    have:(2:Nat) ^ (15 - i)≤2 ^ 15:=Nat.pow_le_pow_right (by omega) (by omega)
    have h2:q * 2 ^ (15 - i)≤1024 * 2 ^ 15:=Nat.mul_le_mul (by omega) this
    omega
   rw [hp] at hss
   have HSS:=Lib.hid hss
   have HP:=Lib.hid hp
   clear hss hp hq hs
   obtain ⟨d,hd⟩:∃ d,15 - i=d:=⟨_,rfl⟩
   have e1:(15:Int) - (i:Int)=(d:Int):=by omega
   have hd15:d≤15:=by omega
   rw [hd] at HP
   have e2:(q:Int) * 2 ^ d=(p:Int):=by
    rw [← HP.out]
    simp
   clear hd
   go_wp2_with fail
   go_roundw
   case rel =>
    refine ⟨i+1,by go_num,?_,by omega,H3⟩
    rw [HSS.out]
    exact congrArg (Value.int .i64) (by omega)
   case measure=>first | (simp [intOf]; omega) | simp [intOf]
  ·have k1:¬ (i:Int)<16:=by omega
   obtain rfl:i=16:=by omega
   obtain ⟨s,hs⟩:∃ s,PH.share m 16=s:=⟨_,rfl⟩
   have hs2:PH.sum m=s:=hs
   rw [hs2] at HST
   rw [hs]
   clear hs hs2
   go_wp2_with fail
   refine (cmp_ok (s:Int) 32768 _).mono ?_
   rintro _ _ ⟨rfl,rfl⟩
   rw [HST.out]
   go_wp2_with fail
   go_ret2
   exact ⟨rfl,H3⟩
open Go.RowKit
def cmpF:Value:=.func (.func 98) #[] #[]
set_option maxRecDepth 100000 in
theorem cmpK_ok (x y:PK) {w0 w:World} {L:List Pr} (H:Sp w0 L w) :
  Calls Tryd.prog 98 #[x.val,y.val] w fun e w'=>e=.returned (.int .i64 (cmpI x.c y.c))∧Sp w0 L w':=by
 obtain ⟨a,b,p⟩:=x
 obtain ⟨c,d,q⟩:=y
 unfold PK.val PK.ptr
 simp only
 obtain ⟨P,hP⟩:∃ P:Option Addr,p.map (fun g=>(⟨g,0,none⟩:Addr))=P:=⟨_,rfl⟩
 obtain ⟨Q,hQ⟩:∃ P:Option Addr,q.map (fun g=>(⟨g,0,none⟩:Addr))=P:=⟨_,rfl⟩
 rw [hP,hQ]
 clear hP hQ p q
 obtain ⟨r,hr⟩:∃ r,cmpI a c=r:=⟨_,rfl⟩
 have hc:=fun w=>cmp_ok a c w
 rw [hr] at hc ⊢
 have HC:=Lib.hid hc
 clear hc hr
 have es:(w.alloc (.cells #[.int .i64 a,.int .i64 b,.pointer P] 141)).heap.size=w.heap.size+1:=Array.size_push _
 have H1:=(H.newBk [.int .i64 a,.int .i64 b,.pointer P] 141).newBk [.int .i64 c,.int .i64 d,.pointer Q] 141
 rw [es] at H1
 clear es
 go_enter Tryd.func98,Tryd.ntmps98
 go_wp2_with fail
 generalize w.heap.size+1=g2 at H1 ⊢
 generalize w.heap.size=g1 at H1 ⊢
 generalize (w.alloc _).alloc _=w1 at H1 ⊢
 have c1:=H1.cell 0 rfl 0
 have c2:=H1.cell 1 rfl 0
 simp only [List.getElem?_cons_zero] at c1 c2
 refine (HC.out _).mono ?_
 rintro _ _ ⟨rfl,rfl⟩
 go_wp2_with fail
 go_ret
 exact ⟨rfl,H1.pick 2 []⟩
end Go.Proofs.YtloijdbkikccgaaDoor

