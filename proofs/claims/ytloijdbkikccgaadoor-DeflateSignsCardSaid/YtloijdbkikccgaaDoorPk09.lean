/- A pack of texts: HuffD HuffE HuffF. -/
import Derived.StillTailTactics
import Derived.Test.YtloijdbkikccgaaDoorPk02
import Derived.Test.YtloijdbkikccgaaDoorPk03
namespace Go.Proofs.YtloijdbkikccgaaDoor
open Go.RowKit
def cntU (f:Nat->Nat):List Value:=(List.range 17).map fun i=>.int .u32 (f i:Int)
theorem cntU_get (f:Nat->Nat) (i:Nat) (h:i<17):(cntU f)[i]?=some (.int .u32 (f i:Int)):=by
 unfold cntU
 rw [List.getElem?_map,List.getElem?_range h]
 rfl
theorem cntU_set (f:Nat->Nat) (x v:Nat):(cntU f).set x (.int .u32 (v:Int))=cntU fun i=>if i=x then v else f i:=by
 apply List.ext_getElem?
 intro i
 rw [List.getElem?_set]
 by_cases h:i<17
 ·rw [cntU_get _ _ h,cntU_get _ _ h]
  by_cases e:x=i
  ·subst e
   rw [if_pos rfl,if_pos (by simp [cntU]; exact h),if_pos rfl]
  ·rw [if_neg e,if_neg (fun h=>e h.symm)]
 ·have h1:(cntU f)[i]?=none:=List.getElem?_eq_none (by simp [cntU]; omega)
  have h2:(cntU fun i=>if i=x then v else f i)[i]?=none:=List.getElem?_eq_none (by simp [cntU]; omega)
  rw [h1,h2]
  split
  ·rw [if_neg (by simp [cntU]; omega)]
  ·rfl
theorem cntU_one (f:Nat->Nat):∀v ∈ cntU f,v.oneCell'=true:=by
 intro v hv
 obtain⟨i,_,rfl⟩:=List.mem_map.1 hv
 rfl
set_option maxRecDepth 100000 in
set_option maxHeartbeats 4000000 in
theorem firsts_ok (m:List Nat) {w0 w:World} {L:List Pr} (H:Sp w0 L w) (hs:PH.sum m<=32768) (hl:m.length<=1024) :
  Calls Tryd.prog 101 #[tallyV m] w fun e w'=>e=.returned (.agg (cntU (PH.fst m)).toArray)/\Sp w0 L w':=by
 have hf:∀k,k<=16->PH.fst m k<=65536:=fun k hk=>PH.fst_le m k hk hs
 have HF:=Lib.hid hf
 clear hf
 obtain⟨t,ht⟩:∃t,Value.agg (cntU (PH.fst m)).toArray=t:=⟨_,rfl⟩
 rw [ht]
 have HT:=Lib.hid ht
 clear ht
 have es1:(w.alloc (.cells (cntV (PH.tal m)).toArray 186)).heap.size=w.heap.size+1:=Array.size_push _
 have es2:((w.alloc (.cells (cntV (PH.tal m)).toArray 186)).alloc (.cells #[.int .u32 0,.int .u32 0,.int .u32 0,.int .u32 0,.int .u32 0,.int .u32 0,.int .u32 0,.int .u32 0,.int .u32 0,.int .u32 0,.int .u32 0,.int .u32 0,.int .u32 0,.int .u32 0,.int .u32 0,.int .u32 0,.int .u32 0] 184)).heap.size=w.heap.size+1+1:=by
  rw [<- es1]; exact Array.size_push _
 have H1:=((H.newBk (cntV (PH.tal m)) 186).newBk [.int .u32 0,.int .u32 0,.int .u32 0,.int .u32 0,.int .u32 0,.int .u32 0,.int .u32 0,.int .u32 0,.int .u32 0,.int .u32 0,.int .u32 0,.int .u32 0,.int .u32 0,.int .u32 0,.int .u32 0,.int .u32 0,.int .u32 0] 184).newBk [.int .u32 0,.int .u32 0,.int .u32 0,.int .u32 0,.int .u32 0,.int .u32 0,.int .u32 0,.int .u32 0,.int .u32 0,.int .u32 0,.int .u32 0,.int .u32 0,.int .u32 0,.int .u32 0,.int .u32 0,.int .u32 0,.int .u32 0] 184
 rw [es2,es1] at H1
 clear es1 es2
 unfold tallyV
 go_enter Tryd.func101,Tryd.ntmps101
 go_wp2_with fail
 generalize w.heap.size+1+1=g3 at H1 ⊢
 generalize w.heap.size+1=g2 at H1 ⊢
 generalize w.heap.size=g1 at H1 ⊢
 generalize ((w.alloc _).alloc _).alloc _=w1 at H1 ⊢
 obtain⟨G3,hG3⟩:∃G:Addr,(⟨g3,0,none⟩:Addr)=G:=⟨_,rfl⟩
 obtain⟨G1,hG1⟩:∃G:Addr,(⟨g1,0,none⟩:Addr)=G:=⟨_,rfl⟩
 rw [hG3,hG1]
 have HG3:=Lib.hid hG3
 have HG1:=Lib.hid hG1
 clear hG3 hG1
 go_loopw [4] (fun iv wr=>∃i:Nat,iv=.int .i64 (i:Int)/\1<=i/\i<=16/\Sp w0 (Bk g3 184 (cntU (fun k=>if k<=i then PH.fst m k else 0))::Bk g2 184 [.int .u32 0,.int .u32 0,.int .u32 0,.int .u32 0,.int .u32 0,.int .u32 0,.int .u32 0,.int .u32 0,.int .u32 0,.int .u32 0,.int .u32 0,.int .u32 0,.int .u32 0,.int .u32 0,.int .u32 0,.int .u32 0,.int .u32 0]::Bk g1 186 (cntV (PH.tal m))::L) wr) (fun iv _=>16 - (intOf iv).toNat)
 case atStart =>
  refine⟨1,rfl,Nat.le_refl _,by omega,?_⟩
  have e:cntU (fun k=>if k<=1 then PH.fst m k else 0)=[.int .u32 0,.int .u32 0,.int .u32 0,.int .u32 0,.int .u32 0,.int .u32 0,.int .u32 0,.int .u32 0,.int .u32 0,.int .u32 0,.int .u32 0,.int .u32 0,.int .u32 0,.int .u32 0,.int .u32 0,.int .u32 0,.int .u32 0]:=rfl
  rw [e]; exact H1
 case round =>
  obtain⟨i,rfl,hi1,hi2,H2⟩:=hrel
  by_cases hin:i<=15
  ·have k1:(i:Int)<=15:=by omega
   obtain⟨i1,hi11⟩:∃j,i+1=j:=⟨_,rfl⟩
   have y1:(i:Int)+1=(i1:Int):=by omega
   obtain⟨a,ha⟩:∃a,PH.fst m i=a:=⟨_,rfl⟩
   obtain⟨b,hb⟩:∃b,PH.tal m i=b:=⟨_,rfl⟩
   obtain⟨s,hs2⟩:∃s,a+b=s:=⟨_,rfl⟩
   obtain⟨nv,hv⟩:∃v,s * 2=v:=⟨_,rfl⟩
   have ha2:a<=65536:=by rw [<- ha]; exact HF.out i (by omega)
   have hb2:b<=1024:=by rw [<- hb]; exact Nat.le_trans (PH.tal_le m i) hl
   have hvv:PH.fst m i1=nv:=by
    obtain⟨j,rfl⟩:∃j,i=j+1:=⟨i - 1,by omega⟩
    rw [<- hi11,<- hv,<- hs2,<- ha,<- hb]; rfl
   have y2:(a:Int)+(b:Int)=(s:Int):=by omega
   have y3:(s:Int) * 2=(nv:Int):=by omega
   have HA:=Lib.hid ha
   have HBB:=Lib.hid hb
   have HV:=Lib.hid hvv
   have hk2:i1<17:=by omega
   have y4:(i:Int)<17:=by omega
   have y5:(i:Int)<16:=by omega
   have y6:(i1:Int)<17:=by omega
   have hs3:s<=100000:=by omega
   clear ha hb hs2 hv hvv
   go_wp2_with fail
   refine wp_region_sc (L:=Bk g2 184 [.int .u32 0,.int .u32 0,.int .u32 0,.int .u32 0,.int .u32 0,.int .u32 0,.int .u32 0,.int .u32 0,.int .u32 0,.int .u32 0,.int .u32 0,.int .u32 0,.int .u32 0,.int .u32 0,.int .u32 0,.int .u32 0,.int .u32 0]::Bk g1 186 (cntV (PH.tal m))::L) [some (.int .i64 (i:Int)),some (.int .i64 (i1:Int)),some (.int .i64 (i:Int)),some (.pointer (some (G3.add i))),some (.int .u32 (a:Int)),some (.int .i64 (i:Int)),some (.pointer (some (G1.add i))),some (.int .i64 (b:Int)),some (.int .u32 (b:Int)),some (.int .u32 (s:Int)),some (.int .u32 (nv:Int)),some (.pointer (some (G3.add i1))),none] (fun _ _=>True) (fun ix vx=>match ix with | 12=>(fun _=>[Bk g3 184 (cntU (fun k=>if k<=i+1 then PH.fst m k else 0))]) vx | _=>[]) (fun ix=>match ix with | 12=>[Bk g3 184 (cntU (fun k=>if k<=i then PH.fst m k else 0))] | _=>[]) 13 22
    [some 9,some 10,some 11,some 12,some 13,some 14,some 15,some 16,some 17,some 18,some 19,some 20,none]
    [[],[0],[],[2],[3],[],[5],[6],[7],[4,8],[9],[1,0,1,2,3,4,5,6,7,8,9,10],[11,10,0,1,2,3,4,5,6,7,8,9,10]]
    [[],[0],[],[2],[2,3],[],[5],[5,6],[5,6,7],[2,3,4,5,6,7,8],[2,3,4,5,6,7,8,9],[0,1,2,3,4,5,6,7,8,9,10],[0,1,2,3,4,5,6,7,8,9,10,11]]
    [[],[],[],[],[],[],[],[],[],[],[],[],[]] [[],[],[],[],[12],[],[],[],[],[],[],[],[]] [(1,.pointer (some G1)),(3,.pointer (some G3)),(4,.int .i64 (i:Int))]
    (by kernel_rfl) rfl (by decide) (by rfl) (by decide +kernel) rfl rfl (by simp) (H2) ?hstep ?hend
   case hstep =>
    refine⟨?p0,⟨?p1,⟨?p2,⟨?p3,⟨?p4,⟨?p5,⟨?p6,⟨?p7,⟨?p8,⟨?p9,⟨?p10,⟨?p11,⟨?p12,trivial⟩⟩⟩⟩⟩⟩⟩⟩⟩⟩⟩⟩⟩
    case p0 | p1 | p2 | p3 | p5 | p6 | p8 | p9 | p10 | p11 =>
     intro x wx A rest hDf hF hS hE H K hK
     replace hK:=Lib.hid hK
     clear hS hE hDf
     repeat (obtain⟨_,hF⟩:=hF)
     change Oper.wp _ _ A wx K _
     go_step
     exact hK.out _ _ rfl H
    case p4 =>
     intro x wx A rest hDf hF hS hE H K hK0
     replace hDf:=Lib.hid hDf
     have e12:A.tmps[12]?.getD undef=.pointer (some (G3.add i)):=((hS 3 (by decide)).2 12 rfl).trans (hS 3 (by decide)).1
     replace H:Sp w0 ((Bk g3 184 (cntU (fun k=>if k<=i then PH.fst m k else 0)))::rest) wx:=H
     have hK:Hid (∀(v:Value) (w' : World),v=.int .u32 (a:Int)->Sp w0 ((Bk g3 184 (cntU (fun k=>if k<=i then PH.fst m k else 0)))::rest) w'->K (A.put (some 13) v) w'):=Lib.hid hK0
     clear hK0 hF hS hE
     have c:wx.cell? (G3.add i)=some (.int .u32 (a:Int)):=by
      rw [<- HG3.out,addr0,H.cell 0 rfl i,cntU_get _ _ (by omega),if_pos (Nat.le_refl _),HA.out]
     change Oper.wp _ _ A wx K _
     go_step
     exact hK.out _ _ rfl (H)
    case p7 =>
     intro x wx A rest hDf hF hS hE H K hK0
     replace hDf:=Lib.hid hDf
     have e15:A.tmps[15]?.getD undef=.pointer (some (G1.add i)):=((hS 6 (by decide)).2 15 rfl).trans (hS 6 (by decide)).1
     replace H:Sp w0 (rest) wx:=H
     have hK:Hid (∀(v:Value) (w' : World),v=.int .i64 (b:Int)->Sp w0 (rest) w'->K (A.put (some 16) v) w'):=Lib.hid hK0
     clear hK0 hF hS
     have c:wx.cell? (G1.add i)=some (.int .i64 (b:Int)):=hE (fun w=>w.cell? (G1.add i)=some (.int .i64 (b:Int))) (fun _ _ H=>by show World.cell? _ _=_; rw [<- HG1.out,addr0,H.cell 1 rfl i,cntV_get _ _ (by omega),HBB.out]) _ _ H
     change Oper.wp _ _ A wx K _
     go_step
     exact hK.out _ _ rfl (H)
    case p12 =>
     intro x wx A rest hDf hF hS hE H K hK0
     replace hDf:=Lib.hid hDf
     have e20:A.tmps[20]?.getD undef=.pointer (some (G3.add i1)):=((hS 11 (by decide)).2 20 rfl).trans (hS 11 (by decide)).1
     have e19:A.tmps[19]?.getD undef=.int .u32 (nv:Int):=((hS 10 (by decide)).2 19 rfl).trans (hS 10 (by decide)).1
     replace H:Sp w0 ((Bk g3 184 (cntU (fun k=>if k<=i then PH.fst m k else 0)))::rest) wx:=H
     have hK:Hid (∀(v:Value) (w' : World),True->Sp w0 ((Bk g3 184 (cntU (fun k=>if k<=i+1 then PH.fst m k else 0)))::rest) w'->K (A.put none v) w'):=Lib.hid hK0
     clear hK0 hF hS hE
     have c:wx.cell? (G3.add i1)=some (.int .u32 0):=by
      rw [<- HG3.out,addr0,H.cell 0 rfl i1,cntU_get _ _ (by omega),if_neg (by omega)]; rfl
     have z:wx.frozen? (G3.add i1)=false:=by
      rw [<- HG3.out,addr0]; exact H.frozen 0 rfl i1
     have hset:Sp w0 (Bk g3 184 (cntU (fun k=>if k<=i+1 then PH.fst m k else 0))::rest) (wx.setCell (G3.add i1) (.int .u32 (nv:Int))):=by
      have h:=H.set i1 (.int .u32 (nv:Int))
      rw [cntU_set] at h
      rw [<- HG3.out,addr0]
      have e:(fun k=>if k<=i+1 then PH.fst m k else 0)=fun k=>if k=i1 then nv else if k<=i then PH.fst m k else 0:=by
       funext k
       by_cases ek:k=i1
       ·rw [if_pos ek,if_pos (by omega),ek]; exact HV.out
       ·rw [if_neg ek]
        by_cases e2:k<=i
        ·rw [if_pos e2,if_pos (by omega)]
        ·rw [if_neg e2,if_neg (by omega)]
      rw [e]; exact h
     have HS:=Lib.hid hset
     clear hset
     change Oper.wp _ _ A wx K _
     go_step
     exact hK.out undef _ trivial HS.out
   case hend =>
    intro x wx A hA hS H
    replace H:Sp w0 ((Bk g3 184 (cntU (fun k=>if k<=i+1 then PH.fst m k else 0)))::Bk g2 184 [.int .u32 0,.int .u32 0,.int .u32 0,.int .u32 0,.int .u32 0,.int .u32 0,.int .u32 0,.int .u32 0,.int .u32 0,.int .u32 0,.int .u32 0,.int .u32 0,.int .u32 0,.int .u32 0,.int .u32 0,.int .u32 0,.int .u32 0]::Bk g1 186 (cntV (PH.tal m))::L) wx:=H
    clear hS
    simp only [putAll,Act.put,List.setIfInBounds_toArray,List.set_cons_succ,List.set_cons_zero,Nat.reduceAdd] at hA
    subst hA
    go_wp2
    go_roundw
    case rel=>exact⟨i+1,by first | go_num | (rw [<- hi11]; rfl) | rfl,by omega,by omega,H⟩
    case measure=>first | (simp [intOf]; omega) | simp [intOf]
  ·have k1:¬ (i:Int)<=15:=by omega
   obtain rfl:i=16:=by omega
   have e:cntU (fun k=>if k<=16 then PH.fst m k else 0)=cntU (PH.fst m):=by
    unfold cntU
    refine List.map_congr_left fun k hk=>?_
    show Value.int .u32 (((if k<=16 then PH.fst m k else 0:Nat)):Int)=_
    rw [if_pos (by have:=List.mem_range.1 hk; omega)]
   rw [e] at H2
   have HH:=Lib.hid H2
   have hsw:=H2.swap
   have HSW:=Lib.hid hsw
   clear hsw H2
   obtain rfl:=HG3.out
   obtain rfl:=HG1.out
   go_wp2_with (first | (refine wpList_load_whole rfl 184 _ rfl g3 184 (cntU (PH.fst m)) rfl (HH.out.blk 0 rfl) Tryd.isAgg184 Tryd.sizeOf184 ?_) | (refine wpList_store_whole rfl 184 _ _ rfl g2 184 _ (cntU (PH.fst m)) rfl rfl HSW.out rfl Tryd.sizeOf184 (cntU_one _) ?_))
   intro w9 H9
   go_wp2_with fail
   have hld:=run_loadCells_list (P:=Tryd.prog) w9 ⟨g2,0,none⟩ (cntU (PH.fst m)) (fun j v hj=>by rw [addr0,H9.cell 0 rfl]; exact hj)
   rw [show(cntU (PH.fst m)).length=17 from rfl] at hld
   refine bodyPost_ret (v:=.agg (cntU (PH.fst m)).toArray) (by simp [results,Tryd.results101,Tryd.isAgg184,Tryd.sizeOf184,hld,Result.andThen,asAddr,loadVar]) rfl ?_
   exact⟨by rw [HT.out],H9.pick 3 []⟩
theorem infoU:(Tryd.prog.info? 54).map (fun i=>(i.zero,i.size,i.bytes))=some (some (.int .u32 0),1,4):=by kernel_rfl
def rowU (f:Nat->Nat) (n:Nat):List Value:=(List.range n).map fun i=>.int .u32 (f i:Int)
theorem rowU_get (f:Nat->Nat) (n i:Nat) (h:i<n):(rowU f n)[i]?=some (.int .u32 (f i:Int)):=by
 unfold rowU
 rw [List.getElem?_map,List.getElem?_range h]
 rfl
theorem rowU_set (f:Nat->Nat) (n x v:Nat):(rowU f n).set x (.int .u32 (v:Int))=rowU (fun i=>if i=x then v else f i) n:=by
 apply List.ext_getElem?
 intro i
 rw [List.getElem?_set]
 by_cases h:i<n
 ·rw [rowU_get _ _ _ h,rowU_get _ _ _ h]
  by_cases e:x=i
  ·subst e
   rw [if_pos rfl,if_pos (by simp [rowU]; exact h),if_pos rfl]
  ·rw [if_neg e,if_neg (fun h=>e h.symm)]
 ·have h1:(rowU f n)[i]?=none:=List.getElem?_eq_none (by simp [rowU]; omega)
  have h2:(rowU (fun i=>if i=x then v else f i) n)[i]?=none:=List.getElem?_eq_none (by simp [rowU]; omega)
  rw [h1,h2]
  split
  ·rw [if_neg (by simp [rowU]; omega)]
  ·rfl
theorem rowU_zero (n:Nat):List.replicate n (Value.int .u32 0)=rowU (fun _=>0) n:=by
 apply List.ext_getElem?
 intro i
 by_cases h:i<n
 ·rw [rowU_get _ _ _ h,List.getElem?_replicate,if_pos h]; rfl
 ·rw [List.getElem?_eq_none (by simp; omega),List.getElem?_eq_none (by simp [rowU]; omega)]
set_option maxRecDepth 100000 in
set_option maxHeartbeats 4000000 in
theorem codes_ok (A:Option Addr) (n c:Nat) (m:List Nat) {w0 w:World} {L:List Pr} (H:Sp w0 L w) (hn:n=m.length) (hb:Ent L fun w=>Rd w A (cells64 (castI m))) (hl:n<=1024) (h15:∀x ∈ m,x<=15) (hs:PH.sum m<=32768) :
  Calls Tryd.prog 66 #[.slice A n c] w fun e w'=>∃v,e=.returned (.tuple #[v,.int .i64 0])/\Sp w0 (Row 54 1 v n (rowU (PH.codeAt m) n)::L) w':=by
 obtain⟨i0,hi0,hz0,hz1,hz2⟩:=info_parts infoU
 have hst:=state_ok A n c m H hn hb hl h15
 have hne:((PH.state m) == 1)=false:=by
  rw [beq_eq_false_iff_ne]
  unfold PH.state
  split
  ·omega
  ·rw [if_neg (by omega)]; omega
 obtain⟨st,hst2⟩:∃st,PH.state m=st:=⟨_,rfl⟩
 rw [hst2] at hst hne
 clear hst2
 have HN:=Lib.hid hn
 have HB:=Lib.hid hb
 have H15:=Lib.hid h15
 have HS:=Lib.hid hs
 have hf:∀k,k<=16->PH.fst m k<=65536:=fun k hk=>PH.fst_le m k hk hs
 have HF:=Lib.hid hf
 clear hn hb h15 hs hf
 go_enter Tryd.func66,Tryd.ntmps66
 go_wp2_with fail
 refine hst.mono ?_
 rintro _ w1 ⟨rfl,H1⟩
 clear hst
 go_wp2_with fail
 refine(tally_ok A n c m H1 HN.out HB.out (by omega) H15.out).mono ?_
 rintro _ w2 ⟨rfl,H2⟩
 go_wp2_with fail
 refine(firsts_ok m H2 HS.out (by rw [<- HN.out]; exact hl)).mono ?_
 rintro _ w3 ⟨rfl,H3⟩
 have H4:=H3.newBk [.int .u32 0,.int .u32 0,.int .u32 0,.int .u32 0,.int .u32 0,.int .u32 0,.int .u32 0,.int .u32 0,.int .u32 0,.int .u32 0,.int .u32 0,.int .u32 0,.int .u32 0,.int .u32 0,.int .u32 0,.int .u32 0,.int .u32 0] 184
 go_wp2_with (refine wpList_store_whole rfl 184 _ _ rfl w3.heap.size 184 _ (cntU (PH.fst m)) rfl rfl H4 rfl Tryd.sizeOf184 (cntU_one _) ?_)
 intro w4 H5
 generalize w3.heap.size=g6 at H5 ⊢
 clear H1 H2 H3 H4 H
 go_wp2_with (at_make; refine wpList_make_sp rfl _ _ _ rfl 54 i0 (.int .u32 0) Tryd.underlying103 hi0 hz0 hz1 rfl n rfl rfl (by rw [hz2]; omega) (by unfold maxLen; omega) H5 ?_)
 intro ad w5 H6
 rw [rowU_zero] at H6
 obtain⟨G6,hG6⟩:∃G:Addr,(⟨g6,0,none⟩:Addr)=G:=⟨_,rfl⟩
 rw [hG6]
 have HG6:=Lib.hid hG6
 clear hG6
 go_wp2_with fail
 go_loopw [30] (fun iv wr=>∃k:Nat,iv=.int .i64 (k:Int)/\k<=n/\Sp w0 (Row 54 1 (.slice (some ad) n n) n (rowU (fun j=>if j<k then PH.codeAt m j else 0) n)::Bk g6 184 (cntU (fun i=>PH.fst m i+if i=0 then 0 else (m.take k).count i))::L) wr) (fun iv _=>n - (intOf iv).toNat)
 case atStart =>
  refine⟨0,rfl,Nat.zero_le _,?_⟩
  have e1:(fun i=>PH.fst m i+if i=0 then 0 else (m.take 0).count i)=PH.fst m:=by
   funext i
   simp
  have e2:(fun j=>if j<0 then PH.codeAt m j else 0)=fun _=>0:=by
   funext j
   rw [if_neg (Nat.not_lt_zero _)]
  rw [e1,e2]
  exact H6
 case round =>
  obtain⟨k,rfl,hk,H7⟩:=hrel
  by_cases hkn:k<n
  ·have k1:(k:Int)<(n:Int):=by omega
   have hkm:k<m.length:=by rw [<- HN.out]; exact hkn
   obtain⟨al,rfl,hc⟩:=(HB.out _ _ (H7.pick 2 [])).at64 (k:=k) (by simpa [castI] using hkm)
   obtain⟨x,hx⟩:∃x,m[k]=x:=⟨_,rfl⟩
   have hx15:x<=15:=by rw [<- hx]; exact H15.out _ (List.getElem_mem hkm)
   replace hc:wr.cell? (al.add k)=some (.int .i64 (x:Int)):=by
    rw [hc]
    simp [castI,hx]
   have hgd:m.getD k 0=x:=by rw [List.getD_eq_getElem?_getD,List.getElem?_eq_getElem hkm,hx]; rfl
   have htk:∀i,(m.take (k+1)).count i=(m.take k).count i+if i=x then 1 else 0:=fun i=>by
    rw [List.take_succ_eq_append_getElem hkm,List.count_append,hx,List.count_singleton]
    by_cases e:i=x
    ·subst e; simp
    ·rw [if_neg e,if_neg (by simpa using fun h=>e h.symm)]
   have HGD:=Lib.hid hgd
   have HTK:=Lib.hid htk
   clear hgd htk hx
   by_cases hx0:0<x
   ·have k2:(0:Int)<(x:Int):=by omega
    obtain⟨q,hq⟩:∃q,PH.fst m x+(m.take k).count x=q:=⟨_,rfl⟩
    have hqb:q<=70000:=by
     rw [<- hq]
     have h1:=HF.out x (by omega)
     have h2:(m.take k).count x<=1024:=Nat.le_trans List.count_le_length (by rw [List.length_take]; omega)
     omega
    have k3:(x:Int)<17:=by omega
    have hcode:PH.codeAt m k=q:=by
     unfold PH.codeAt
     rw [HGD.out,if_neg (by omega),hq]
    have c6:wr.cell? (G6.add x)=some (.int .u32 (q:Int)):=by
     rw [<- HG6.out,addr0,H7.cell 1 rfl x,cntU_get _ _ (by omega),if_neg (by omega),hq]
    obtain⟨ad2,c2,ev,_,hcc,hfz,hset⟩:=H7.rowSet hkn
    injection ev with ev
    injection ev with ev
    subst ev
    rw [rowU_get _ _ _ hkn,if_neg (Nat.lt_irrefl _)] at hcc
    replace hcc:wr.cell? (ad.add k)=some (.int .u32 0):=hcc
    have H8:=hset (.int .u32 (q:Int))
    rw [rowU_set] at H8
    have d6:(wr.setCell (ad.add k) (.int .u32 (q:Int))).cell? (G6.add x)=some (.int .u32 (q:Int)):=by
     rw [<- HG6.out,addr0,H8.cell 1 rfl x,cntU_get _ _ (by omega),if_neg (by omega),hq]
    have e6:(wr.setCell (ad.add k) (.int .u32 (q:Int))).frozen? (G6.add x)=false:=by
     rw [<- HG6.out,addr0]
     exact H8.frozen 1 rfl x
    have H9:=(H8.swap.set x (.int .u32 ((q+1:Nat):Int))).swap
    rw [cntU_set] at H9
    have e1:(fun i=>if i=x then q+1 else PH.fst m i+if i=0 then 0 else (m.take k).count i)=fun i=>PH.fst m i+if i=0 then 0 else (m.take (k+1)).count i:=by
     funext i
     rw [HTK.out]
     by_cases e:i=x
     ·subst e
      rw [if_pos rfl,if_neg (by omega),if_pos rfl,<- hq]; omega
     ·rw [if_neg e,if_neg e,Nat.add_zero]
    have e2:(fun i=>if i=k then q else if i<k then PH.codeAt m i else 0)=fun i=>if i<k+1 then PH.codeAt m i else 0:=by
     funext i
     by_cases e:i=k
     ·subst e
      rw [if_pos rfl,if_pos (by omega),hcode]
     ·rw [if_neg e]
      by_cases h:i<k
      ·rw [if_pos h,if_pos (by omega)]
      ·rw [if_neg h,if_neg (by omega)]
    rw [e1,e2] at H9
    have eg:(⟨g6,x,none⟩:Addr)=G6.add x:=by rw [<- HG6.out,addr0]
    rw [eg] at H9
    have H10:=Lib.hid H9
    clear H9 H8 hset e1 e2 eg hcode hq
    go_wp2_with fail
    go_roundw
    case rel=>exact⟨k+1,by go_num,by omega,H10.out⟩
    case measure=>first | (simp [intOf]; omega) | simp [intOf]
   ·have k2:¬ (0:Int)<(x:Int):=by omega
    obtain rfl:x=0:=by omega
    have e1:(fun i=>PH.fst m i+if i=0 then 0 else (m.take k).count i)=fun i=>PH.fst m i+if i=0 then 0 else (m.take (k+1)).count i:=by
     funext i
     rw [HTK.out]
     by_cases e:i=0
     ·rw [if_pos e,if_pos e]
     ·rw [if_neg e,if_neg e,if_neg e,Nat.add_zero]
    have e2:(fun i=>if i<k then PH.codeAt m i else 0)=fun i=>if i<k+1 then PH.codeAt m i else 0:=by
     funext i
     by_cases e:i=k
     ·subst e
      rw [if_neg (Nat.lt_irrefl _),if_pos (by omega)]
      unfold PH.codeAt
      rw [HGD.out,if_pos rfl]
     ·by_cases h:i<k
      ·rw [if_pos h,if_pos (by omega)]
      ·rw [if_neg h,if_neg (by omega)]
    rw [e1,e2] at H7
    have H10:=Lib.hid H7
    clear H7 e1 e2
    go_wp2_with fail
    go_roundw
    case rel=>exact⟨k+1,by go_num,by omega,H10.out⟩
    case measure=>first | (simp [intOf]; omega) | simp [intOf]
  ·have k1:¬ (k:Int)<(n:Int):=by omega
   obtain rfl:k=n:=by omega
   have e2:rowU (fun j=>if j<k then PH.codeAt m j else 0) k=rowU (PH.codeAt m) k:=by
    unfold rowU
    refine List.map_congr_left fun j hj=>?_
    show Value.int .u32 ((if j<k then PH.codeAt m j else 0:Nat):Int)=_
    rw [if_pos (List.mem_range.1 hj)]
   rw [e2] at H7
   go_wp2_with fail
   go_ret2
   exact⟨_,rfl,H7.pick 2 [0]⟩
theorem infoJ:(Tryd.prog.info? 3).map (fun i=>(i.zero,i.size,i.bytes))=some (some (.int .i64 0),1,8):=by kernel_rfl
def BkB (g:Nat) (m:List Nat) (v:Value) (most:Int):Pr:=Bk g 255 (cntV (PH.tal m)++[v,.int .i64 most])
theorem BkB.get {w0 w:World} {L:List Pr} {g:Nat} {m:List Nat} {v:Value} {most:Int} (H:Sp w0 L w) (k:Nat) (hk:L[k]?=some (BkB g m v most)) :
  w.cell? ⟨g,16,none⟩=some v/\w.cell? ⟨g,17,none⟩=some (.int .i64 most)/\w.frozen? ⟨g,16,none⟩=false/\w.frozen? ⟨g,17,none⟩=false/\∀i,i<16->w.cell? ⟨g,i,none⟩=some (.int .i64 (PH.tal m i:Int)):=by
 refine⟨H.cell k hk 16,H.cell k hk 17,H.frozen k hk 16,H.frozen k hk 17,fun i hi=>?_⟩
 rw [H.cell k hk i,List.getElem?_append_left (by simp [cntV]; exact hi),cntV_get _ _ hi]
def mayBook (m:List Nat):Bool:=decide (PH.state m=0) || (decide ((PH.rows m).length=0) || (decide ((PH.rows m).length=1) && decide (PH.tal m 1=1)))
def mostOf (m:List Nat):Int:=if PH.state m=0 then 15 else 1
end Go.Proofs.YtloijdbkikccgaaDoor

