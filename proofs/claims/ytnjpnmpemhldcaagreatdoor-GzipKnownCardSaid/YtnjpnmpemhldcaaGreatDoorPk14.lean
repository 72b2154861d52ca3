/- A pack. -/
import Derived.Test.YtnjpnmpemhldcaaGreatDoorPk05
import Derived.Test.YtnjpnmpemhldcaaGreatDoorPk08
set_option linter.all false
set_option maxRecDepth 100000
set_option maxHeartbeats 8000000
namespace Go.Proofs.YtnjpnmpemhldcaaGreatDoor
variable {w0 w:World} {L:List Pr}
open Go.RowKit
theorem Vo (A:Option Addr) (n c:Nat) (l:List Int) (H:Sp w0 L w) (hn:n=l.length) (hb:Ent L fun w=>Rd w A (cells64 l)) (hl:n<=1000000000) (hm:PH.may l=false) :
  Calls Tryz.prog 180 #[.slice A n c] w fun e w'=>e=.returned (.tuple #[.int .i64 0,.int .i64 1])/\Sp w0 L w':=by
 have a:=Vf A n c l H hn hb hl;rw [hm] at a;clear hn hb hm;go_enter Tryz.func180,Tryz.ntmps180
 go_wp2_with fail
 refine a.mono ?_;rintro _ d ⟨rfl,b⟩;clear a;go_wp2_with fail
 go_ret2;exact⟨rfl,b⟩
def cntU (f:Nat->Nat):List Value:=(List.range 17).map fun i=>.int .u32 (f i:Int)
theorem Z1 (f:Nat->Nat) (i:Nat) (h:i<17):(cntU f)[i]?=some (.int .u32 (f i:Int)):=by
 unfold cntU;rw [List.getElem?_map,List.getElem?_range h];rfl
theorem Wb (f:Nat->Nat) (x v:Nat):(cntU f).set x (.int .u32 v)=cntU fun i=>if i=x then v else f i:=by
 apply List.ext_getElem?;intro i;rw [List.getElem?_set];by_cases h:i<17
 ·rw [Z1 _ _ h,Z1 _ _ h];by_cases e:x=i
  ·subst e;rw [if_pos rfl,if_pos (by simp [cntU]; exact h),if_pos rfl]
  ·rw [if_neg e,if_neg (fun h=>e h.symm)]
 ·have a:(cntU f)[i]?=none:=List.getElem?_eq_none (by simp [cntU]; omega);have b:(cntU fun i=>if i=x then v else f i)[i]?=none:=List.getElem?_eq_none (by simp [cntU]; omega);rw [a,b];split
  ·rw [if_neg (by simp [cntU]; omega)]
  ·rfl
theorem Wc (f:Nat->Nat):∀v ∈ cntU f,v.oneCell'=true:=by
 intro v a;obtain⟨i,_,rfl⟩:=List.mem_map.1 a;rfl
theorem Vp (m:List Nat) (H:Sp w0 L w) (hs:PH.sum m<=32768) (hl:m.length<=1024) :
  Calls Tryz.prog 181 #[tallyV m] w fun e w'=>e=.returned (.agg (cntU (PH.fst m)).toArray)/\Sp w0 L w':=by
 have Y:∀k,k<=16->PH.fst m k<=65536:=fun k hk=>PH.fst_le m k hk hs;have HF:=hid Y;clear Y;obtain⟨t,U⟩:=exq (Value.agg (cntU (PH.fst m)).toArray);rw [U];have HT:=hid U;clear U;have u:(w.alloc (.cells (cntV (PH.tal m)).toArray 273)).heap.size=w.heap.size+1:=Array.size_push _;have F:((w.alloc (.cells (cntV (PH.tal m)).toArray 273)).alloc (.cells #[.int .u32 0,.int .u32 0,.int .u32 0,.int .u32 0,.int .u32 0,.int .u32 0,.int .u32 0,.int .u32 0,.int .u32 0,.int .u32 0,.int .u32 0,.int .u32 0,.int .u32 0,.int .u32 0,.int .u32 0,.int .u32 0,.int .u32 0] 271)).heap.size=w.heap.size+1+1:=by
  rw [<- u]; exact Array.size_push _
 have E:=((H.newBk (cntV (PH.tal m)) 273).newBk [.int .u32 0,.int .u32 0,.int .u32 0,.int .u32 0,.int .u32 0,.int .u32 0,.int .u32 0,.int .u32 0,.int .u32 0,.int .u32 0,.int .u32 0,.int .u32 0,.int .u32 0,.int .u32 0,.int .u32 0,.int .u32 0,.int .u32 0] 271).newBk [.int .u32 0,.int .u32 0,.int .u32 0,.int .u32 0,.int .u32 0,.int .u32 0,.int .u32 0,.int .u32 0,.int .u32 0,.int .u32 0,.int .u32 0,.int .u32 0,.int .u32 0,.int .u32 0,.int .u32 0,.int .u32 0,.int .u32 0] 271;rw [F,u] at E;clear u F;unfold tallyV;go_enter Tryz.func181,Tryz.ntmps181
 go_wp2_with fail
 generalize w.heap.size+1+1=g3 at E ⊢;generalize w.heap.size+1=g2 at E ⊢;generalize w.heap.size=g1 at E ⊢;generalize ((w.alloc _).alloc _).alloc _=w1 at E ⊢;obtain⟨y,B⟩:∃G:Addr,(⟨g3,0,none⟩:Addr)=G:=⟨_,rfl⟩;obtain⟨R,C⟩:∃G:Addr,(⟨g1,0,none⟩:Addr)=G:=⟨_,rfl⟩;rw [B,C];have o:=hid B;have I:=hid C;clear B C;go_loopw [4] (fun iv wr=>∃i:Nat,iv=.int .i64 i/\1<=i/\i<=16/\Sp w0 (Bk g3 271 (cntU (fun k=>if k<=i then PH.fst m k else 0))::Bk g2 271 [.int .u32 0,.int .u32 0,.int .u32 0,.int .u32 0,.int .u32 0,.int .u32 0,.int .u32 0,.int .u32 0,.int .u32 0,.int .u32 0,.int .u32 0,.int .u32 0,.int .u32 0,.int .u32 0,.int .u32 0,.int .u32 0,.int .u32 0]::Bk g1 273 (cntV (PH.tal m))::L) wr) (fun iv _=>16 - (intOf iv).toNat)
 case atStart =>
  refine⟨1,rfl,Nat.le_refl _,by omega,?_⟩;have e:cntU (fun k=>if k<=1 then PH.fst m k else 0)=[.int .u32 0,.int .u32 0,.int .u32 0,.int .u32 0,.int .u32 0,.int .u32 0,.int .u32 0,.int .u32 0,.int .u32 0,.int .u32 0,.int .u32 0,.int .u32 0,.int .u32 0,.int .u32 0,.int .u32 0,.int .u32 0,.int .u32 0]:=rfl;rw [e]; exact E
 case round =>
  obtain⟨i,rfl,a0,a1,J⟩:=hrel;by_cases a2:i<=15
  ·have k1:(i:Int)<=15:=by omega
   obtain⟨l,p⟩:=exq (i+1);have y1:(i:Int)+1=(l:Int):=by omega
   obtain⟨a,S⟩:=exq (PH.fst m i);obtain⟨b,T⟩:=exq (PH.tal m i);obtain⟨s,M⟩:=exq (a+b);obtain⟨nv,Z⟩:=exq (s * 2);have a3:a<=65536:=by rw [<- S]; exact HF.out i (by omega)
   have a4:b<=1024:=by rw [<- T]; exact Nat.le_trans (PH.tal_le m i) hl
   have N:PH.fst m l=nv:=by
    obtain⟨j,rfl⟩:∃j,i=j+1:=⟨i - 1,by omega⟩;rw [<- p,<- Z,<- M,<- S,<- T]; rfl
   have y2:(a:Int)+(b:Int)=(s:Int):=by omega
   have y3:(s:Int) * 2=(nv:Int):=by omega
   have HA:=hid S;have V:=hid T;have HV:=hid N;have a5:l<17:=by omega
   have y4:(i:Int)<17:=by omega
   have y5:(i:Int)<16:=by omega
   have y6:(l:Int)<17:=by omega
   have a6:s<=100000:=by omega
   clear S T M Z N;go_wp2_with fail
   refine Zb (L:=Bk g2 271 [.int .u32 0,.int .u32 0,.int .u32 0,.int .u32 0,.int .u32 0,.int .u32 0,.int .u32 0,.int .u32 0,.int .u32 0,.int .u32 0,.int .u32 0,.int .u32 0,.int .u32 0,.int .u32 0,.int .u32 0,.int .u32 0,.int .u32 0]::Bk g1 273 (cntV (PH.tal m))::L) [some (.int .i64 i),some (.int .i64 l),some (.int .i64 i),some (.pointer (some (y.add i))),some (.int .u32 a),some (.int .i64 i),some (.pointer (some (R.add i))),some (.int .i64 b),some (.int .u32 b),some (.int .u32 s),some (.int .u32 nv),some (.pointer (some (y.add l))),none] (fun _ _=>True) (fun ix vx=>match ix with | 12=>(fun _=>[Bk g3 271 (cntU (fun k=>if k<=i+1 then PH.fst m k else 0))]) vx | _=>[]) (fun ix=>match ix with | 12=>[Bk g3 271 (cntU (fun k=>if k<=i then PH.fst m k else 0))] | _=>[]) 13 22
    [some 9,some 10,some 11,some 12,some 13,some 14,some 15,some 16,some 17,some 18,some 19,some 20,none]
    [[],[0],[],[2],[3],[],[5],[6],[7],[4,8],[9],[1,0,1,2,3,4,5,6,7,8,9,10],[11,10,0,1,2,3,4,5,6,7,8,9,10]]
    [[],[0],[],[2],[2,3],[],[5],[5,6],[5,6,7],[2,3,4,5,6,7,8],[2,3,4,5,6,7,8,9],[0,1,2,3,4,5,6,7,8,9,10],[0,1,2,3,4,5,6,7,8,9,10,11]]
    [[],[],[],[],[],[],[],[],[],[],[],[],[]] [[],[],[],[],[12],[],[],[],[],[],[],[],[]] [(1,.pointer (some R)),(3,.pointer (some y)),(4,.int .i64 i)]
    (by kernel_rfl) rfl (by decide) (by rfl) (by decide +kernel) rfl rfl (by simp) (J) ?hstep ?hend
   case hstep =>
    refine⟨?p0,⟨?p1,⟨?p2,⟨?p3,⟨?p4,⟨?p5,⟨?p6,⟨?p7,⟨?p8,⟨?p9,⟨?p10,⟨?p11,⟨?p12,trivial⟩⟩⟩⟩⟩⟩⟩⟩⟩⟩⟩⟩⟩
    case p0 | p1 | p2 | p3 | p5 | p6 | p8 | p9 | p10 | p11 =>
     intro x wx A d g q n D H K hK;replace hK:=hid hK;clear n D g;repeat (obtain⟨_,q⟩:=q)
     refine so ?_;go_step;exact hK.out _ _ rfl H
    case p4 =>
     intro x wx A d g q n D H K f;have a7:=tq n 3;replace H:Sp w0 (_::d) wx:=H;have hK:=hid f;clear f q n D g;have c:wx.cell? (y.add i)=some (.int .u32 a):=by
      rw [<- o.out,addr0,H.cell 0 rfl i,Z1 _ _ (by omega),if_pos (Nat.le_refl _),HA.out]
     refine so ?_;go_step;exact hK.out _ _ rfl H
    case p7 =>
     intro x wx A d g q n D H K f;have a8:=tq n 6;have hK:=hid f;clear f q n g;have c:wx.cell? (R.add i)=some (.int .i64 b):=D (fun w=>w.cell? (R.add i)=some (.int .i64 b)) (fun _ _ H=>by show World.cell? _ _=_; rw [<- I.out,addr0,H.cell 1 rfl i,ZQ _ _ (by omega),V.out]) _ _ H;refine so ?_;go_step;exact hK.out _ _ rfl H
    case p12 =>
     intro x wx A d g q n D H K f;have a9:=tq n 11;have b0:=tq n 10;replace H:Sp w0 (_::d) wx:=H;have hK:Hid (∀(v:Value) (w' : World),True->Sp w0 ((Bk g3 271 (cntU (fun k=>if k<=i+1 then PH.fst m k else 0)))::d) w'->K (A.put none v) w'):=hid f;clear f q n D g;have c:wx.cell? (y.add l)=some (.int .u32 0):=by
      rw [<- o.out,addr0,H.cell 0 rfl l,Z1 _ _ (by omega),if_neg (by omega)]; rfl
     have z:wx.frozen? (y.add l)=false:=by
      rw [<- o.out,addr0]; exact H.frozen 0 rfl l
     have r:Sp w0 (Bk g3 271 (cntU (fun k=>if k<=i+1 then PH.fst m k else 0))::d) (wx.setCell (y.add l) (.int .u32 nv)):=by
      have h:=H.set l (.int .u32 nv);rw [Wb] at h;rw [<- o.out,addr0];have e:(fun k=>if k<=i+1 then PH.fst m k else 0)=fun k=>if k=l then nv else if k<=i then PH.fst m k else 0:=by
       funext k;by_cases W:k=l
       ·rw [if_pos W,if_pos (by omega),W]; exact HV.out
       ·rw [if_neg W];by_cases e2:k<=i
        ·rw [if_pos e2,if_pos (by omega)]
        ·rw [if_neg e2,if_neg (by omega)]
      rw [e]; exact h
     have HS:=hid r;clear r;refine so ?_;go_step;exact hK.out undef _ trivial HS.out
   case hend =>
    intro x wx A hA n H;replace H:Sp w0 (_::_::_::L) wx:=H;clear n;simp only [putAll,Act.put,List.setIfInBounds_toArray,List.set_cons_succ,List.set_cons_zero,Nat.reduceAdd] at hA;subst hA;go_wp2;go_roundw
    case rel=>exact⟨i+1,by first | go_num | (rw [<- p]; rfl) | rfl,by omega,by omega,H⟩
    case measure=>first | (simp [intOf]; omega) | simp [intOf]
  ·have k1:¬ (i:Int)<=15:=by omega
   obtain rfl:i=16:=by omega
   have e:cntU (fun k=>if k<=16 then PH.fst m k else 0)=cntU (PH.fst m):=by
    unfold cntU;refine List.map_congr_left fun k hk=>?_;show Value.int .u32 (((if k<=16 then PH.fst m k else 0:Nat)):Int)=_;rw [if_pos (by have:=List.mem_range.1 hk; omega)]
   rw [e] at J;have HH:=hid J;have O:=J.swap;have X:=hid O;clear O J;obtain rfl:=o.out;obtain rfl:=I.out;go_wp2_with (first | (refine Zz rfl 271 _ rfl g3 271 (cntU (PH.fst m)) rfl (HH.out.blk 0 rfl) Tryz.isAgg271 Tryz.sizeOf271 ?_) | (refine Zq rfl 271 _ _ rfl g2 271 _ (cntU (PH.fst m)) rfl rfl X.out rfl Tryz.sizeOf271 (Wc _) ?_))
   intro w9 H9;go_wp2_with fail
   have Q:=run_loadCells_list (P:=Tryz.prog) w9 ⟨g2,0,none⟩ (cntU (PH.fst m)) (fun j v hj=>by rw [addr0,H9.cell 0 rfl]; exact hj);rw [show(cntU (PH.fst m)).length=17 from rfl] at Q;refine bodyPost_ret (v:=.agg (cntU (PH.fst m)).toArray) (by simp [results,Tryz.results181,Tryz.isAgg271,Tryz.sizeOf271,Q,Result.andThen,asAddr,loadVar]) rfl ?_;exact⟨by rw [HT.out],H9.pick 3 []⟩
theorem infoU:(Tryz.prog.info? 26).map (fun i=>(i.zero,i.size,i.bytes))=some (some (.int .u32 0),1,4):=by kernel_rfl
def rowU (f:Nat->Nat) (n:Nat):List Value:=(List.range n).map fun i=>.int .u32 (f i:Int)
theorem Z2 (f:Nat->Nat) (n i:Nat) (h:i<n):(rowU f n)[i]?=some (.int .u32 (f i:Int)):=by
 unfold rowU;rw [List.getElem?_map,List.getElem?_range h];rfl
theorem Uj (f:Nat->Nat) (n x v:Nat):(rowU f n).set x (.int .u32 v)=rowU (fun i=>if i=x then v else f i) n:=by
 apply List.ext_getElem?;intro i;rw [List.getElem?_set];by_cases h:i<n
 ·rw [Z2 _ _ _ h,Z2 _ _ _ h];by_cases e:x=i
  ·subst e;rw [if_pos rfl,if_pos (by simp [rowU]; exact h),if_pos rfl]
  ·rw [if_neg e,if_neg (fun h=>e h.symm)]
 ·have a:(rowU f n)[i]?=none:=List.getElem?_eq_none (by simp [rowU]; omega);have b:(rowU (fun i=>if i=x then v else f i) n)[i]?=none:=List.getElem?_eq_none (by simp [rowU]; omega);rw [a,b];split
  ·rw [if_neg (by simp [rowU]; omega)]
  ·rfl
theorem Vq (n:Nat):List.replicate n (Value.int .u32 0)=rowU (fun _=>0) n:=by
 apply List.ext_getElem?;intro i;by_cases h:i<n
 ·rw [Z2 _ _ _ h,List.getElem?_replicate,if_pos h]; rfl
 ·rw [List.getElem?_eq_none (by simp; omega),List.getElem?_eq_none (by simp [rowU]; omega)]
theorem We (A:Option Addr) (n c:Nat) (m:List Nat) (H:Sp w0 L w) (hn:n=m.length) (hb:Ent L fun w=>Rd w A (cells64 (castI m))) (hl:n<=1024) (h15:∀x ∈ m,x<=15) (hs:PH.sum m<=32768) :
  Calls Tryz.prog 167 #[.slice A n c] w fun e w'=>∃v,e=.returned (.tuple #[v,.int .i64 0])/\Sp w0 (Row 26 1 v n (rowU (PH.codeAt m) n)::L) w':=by
 obtain⟨i0,O,P,Q,R⟩:=info_parts infoU;have p:=X9 A n c m H hn hb hl h15;have S:((PH.state m) == 1)=false:=by
  rw [beq_eq_false_iff_ne];unfold PH.state;split
  ·omega
  ·rw [if_neg (by omega)]; omega
 obtain⟨st,g⟩:=exq (PH.state m);rw [g] at p S;clear g;have T:=hid hn;have U:=hid hb;have B:=hid h15;have HS:=hid hs;have V:∀k,k<=16->PH.fst m k<=65536:=fun k hk=>PH.fst_le m k hk hs;have HF:=hid V;clear hn hb h15 hs V;go_enter Tryz.func167,Tryz.ntmps167
 go_wp2_with fail
 refine p.mono ?_;rintro _ w1 ⟨rfl,W⟩;clear p;go_wp2_with fail
 refine(Xe A n c m W T.out U.out (by omega) B.out).mono ?_;rintro _ w2 ⟨rfl,X⟩;go_wp2_with fail
 refine(Vp m X HS.out (by rw [<- T.out]; exact hl)).mono ?_;rintro _ Y ⟨rfl,Z⟩;have H4:=Z.newBk [.int .u32 0,.int .u32 0,.int .u32 0,.int .u32 0,.int .u32 0,.int .u32 0,.int .u32 0,.int .u32 0,.int .u32 0,.int .u32 0,.int .u32 0,.int .u32 0,.int .u32 0,.int .u32 0,.int .u32 0,.int .u32 0,.int .u32 0] 271;go_wp2_with (refine Zq rfl 271 _ _ rfl Y.heap.size 271 _ (cntU (PH.fst m)) rfl rfl H4 rfl Tryz.sizeOf271 (Wc _) ?_)
 intro w4 H5;generalize Y.heap.size=g6 at H5 ⊢;clear W X Z H4 H;go_wp2_with (at_make; refine Zk rfl _ _ _ rfl 26 i0 (.int .u32 0) Tryz.underlying233 O P Q rfl n rfl rfl (by rw [R]; omega) (by unfold maxLen; omega) H5 ?_)
 intro M w5 H6;rw [Vq] at H6;obtain⟨N,r⟩:∃G:Addr,(⟨g6,0,none⟩:Addr)=G:=⟨_,rfl⟩;rw [r];have b:=hid r;clear r;go_wp2_with fail
 go_loopw [30] (fun iv wr=>∃k:Nat,iv=.int .i64 k/\k<=n/\Sp w0 (Row 26 1 (.slice (some M) n n) n (rowU (fun j=>if j<k then PH.codeAt m j else 0) n)::Bk g6 271 (cntU (fun i=>PH.fst m i+if i=0 then 0 else (m.take k).count i))::L) wr) (fun iv _=>n - (intOf iv).toNat)
 case atStart =>
  refine⟨0,rfl,Nat.zero_le _,?_⟩;have s:(fun i=>PH.fst m i+if i=0 then 0 else (m.take 0).count i)=PH.fst m:=by
   funext i;simp
  have d:(fun j=>if j<0 then PH.codeAt m j else 0)=fun _=>0:=by
   funext j;rw [if_neg (Nat.not_lt_zero _)]
  rw [s,d];exact H6
 case round =>
  obtain⟨k,rfl,hk,l⟩:=hrel;by_cases t:k<n
  ·have k1:(k:Int)<(n:Int):=by omega
   have f:k<m.length:=by rw [<- T.out]; exact t
   obtain⟨al,rfl,hc⟩:=(U.out _ _ (l.pick 2 [])).at64 (k:=k) (by simpa [castI] using f);obtain⟨x,C⟩:=exq (m[k]);have a0:x<=15:=by rw [<- C]; exact B.out _ (List.getElem_mem f)
   replace hc:wr.cell? (al.add k)=some (.int .i64 x):=by
    rw [hc];simp [castI,C]
   have D:m.getD k 0=x:=by rw [List.getD_eq_getElem?_getD,List.getElem?_eq_getElem f,C]; rfl
   have E:∀i,(m.take (k+1)).count i=(m.take k).count i+if i=x then 1 else 0:=fun i=>by
    rw [List.take_succ_eq_append_getElem f,List.count_append,C,List.count_singleton];by_cases e:i=x
    ·subst e; simp
    ·rw [if_neg e,if_neg (by simpa using fun h=>e h.symm)]
   have F:=hid D;have I:=hid E;clear D E C;by_cases a1:0<x
   ·have k2:(0:Int)<(x:Int):=by omega
    obtain⟨q,z⟩:=exq (PH.fst m x+(m.take k).count x);have a2:q<=70000:=by
     rw [<- z];have h1:=HF.out x (by omega);have h2:(m.take k).count x<=1024:=Nat.le_trans List.count_le_length (by rw [List.length_take]; omega);omega
    have k3:(x:Int)<17:=by omega
    have a:PH.codeAt m k=q:=by
     unfold PH.codeAt;rw [F.out,if_neg (by omega),z]
    have c6:wr.cell? (N.add x)=some (.int .u32 q):=by
     rw [<- b.out,addr0,l.cell 1 rfl x,Z1 _ _ (by omega),if_neg (by omega),z]
    obtain⟨a3,c2,ev,_,u,a4,o⟩:=l.rowSet t;injection ev with ev
    injection ev with ev
    subst ev;rw [Z2 _ _ _ t,if_neg (Nat.lt_irrefl _)] at u;replace u:wr.cell? (M.add k)=some (.int .u32 0):=u;have J:=o (.int .u32 q);rw [Uj] at J;have d6:(wr.setCell (M.add k) (.int .u32 q)).cell? (N.add x)=some (.int .u32 q):=by
     rw [<- b.out,addr0,J.cell 1 rfl x,Z1 _ _ (by omega),if_neg (by omega),z]
    have e6:(wr.setCell (M.add k) (.int .u32 q)).frozen? (N.add x)=false:=by
     rw [<- b.out,addr0];exact J.frozen 1 rfl x
    have K:=(J.swap.set x (.int .u32 ((q+1:Nat):Int))).swap;rw [Wb] at K;have s:(fun i=>if i=x then q+1 else PH.fst m i+if i=0 then 0 else (m.take k).count i)=fun i=>PH.fst m i+if i=0 then 0 else (m.take (k+1)).count i:=by
     funext i;rw [I.out];by_cases e:i=x
     ·subst e;rw [if_pos rfl,if_neg (by omega),if_pos rfl,<- z]; omega
     ·rw [if_neg e,if_neg e,Nat.add_zero]
    have d:(fun i=>if i=k then q else if i<k then PH.codeAt m i else 0)=fun i=>if i<k+1 then PH.codeAt m i else 0:=by
     funext i;by_cases e:i=k
     ·subst e;rw [if_pos rfl,if_pos (by omega),a]
     ·rw [if_neg e];by_cases h:i<k
      ·rw [if_pos h,if_pos (by omega)]
      ·rw [if_neg h,if_neg (by omega)]
    rw [s,d] at K;have eg:(⟨g6,x,none⟩:Addr)=N.add x:=by rw [<- b.out,addr0]
    rw [eg] at K;have y:=hid K;clear K J o s d eg a z;go_wp2_with fail
    go_roundw
    case rel=>exact⟨k+1,by go_num,by omega,y.out⟩
    case measure=>first | (simp [intOf]; omega) | simp [intOf]
   ·have k2:¬ (0:Int)<(x:Int):=by omega
    obtain rfl:x=0:=by omega
    have s:(fun i=>PH.fst m i+if i=0 then 0 else (m.take k).count i)=fun i=>PH.fst m i+if i=0 then 0 else (m.take (k+1)).count i:=by
     funext i;rw [I.out];by_cases e:i=0
     ·rw [if_pos e,if_pos e]
     ·rw [if_neg e,if_neg e,if_neg e,Nat.add_zero]
    have d:(fun i=>if i<k then PH.codeAt m i else 0)=fun i=>if i<k+1 then PH.codeAt m i else 0:=by
     funext i;by_cases e:i=k
     ·subst e;rw [if_neg (Nat.lt_irrefl _),if_pos (by omega)];unfold PH.codeAt;rw [F.out,if_pos rfl]
     ·by_cases h:i<k
      ·rw [if_pos h,if_pos (by omega)]
      ·rw [if_neg h,if_neg (by omega)]
    rw [s,d] at l;have y:=hid l;clear l s d;go_wp2_with fail
    go_roundw
    case rel=>exact⟨k+1,by go_num,by omega,y.out⟩
    case measure=>first | (simp [intOf]; omega) | simp [intOf]
  ·have k1:¬ (k:Int)<(n:Int):=by omega
   obtain rfl:k=n:=by omega
   have d:rowU (fun j=>if j<k then PH.codeAt m j else 0) k=rowU (PH.codeAt m) k:=by
    unfold rowU;refine List.map_congr_left fun j hj=>?_;show Value.int .u32 ((if j<k then PH.codeAt m j else 0:Nat):Int)=_;rw [if_pos (List.mem_range.1 hj)]
   rw [d] at l;go_wp2_with fail
   go_ret2;exact⟨_,rfl,l.pick 2 [0]⟩
theorem infoJ:(Tryz.prog.info? 3).map (fun i=>(i.zero,i.size,i.bytes))=some (some (.int .i64 0),1,8):=by kernel_rfl
def BkB (g:Nat) (m:List Nat) (v:Value) (most:Int):Pr:=Bk g 279 (cntV (PH.tal m)++[v,.int .i64 most])
theorem BkB.get {g:Nat} {m:List Nat} {v:Value} {most:Int} (H:Sp w0 L w) (k:Nat) (hk:L[k]?=some (BkB g m v most)) :
  w.cell? ⟨g,16,none⟩=some v/\w.cell? ⟨g,17,none⟩=some (.int .i64 most)/\w.frozen? ⟨g,16,none⟩=false/\w.frozen? ⟨g,17,none⟩=false/\∀i,i<16->w.cell? ⟨g,i,none⟩=some (.int .i64 (PH.tal m i:Int)):=by
 refine⟨H.cell k hk 16,H.cell k hk 17,H.frozen k hk 16,H.frozen k hk 17,fun i hi=>?_⟩;rw [H.cell k hk i,List.getElem?_append_left (by simp [cntV]; exact hi),ZQ _ _ hi]
theorem BkB.set16 {g:Nat} {m:List Nat} {v:Value} {most:Int} (H:Sp w0 (BkB g m v most::L) w) (u:Value):Sp w0 (BkB g m u most::L) (w.setCell ⟨g,16,none⟩ u):=H.set 16 u
theorem BkB.set17 {g:Nat} {m:List Nat} {v:Value} {most:Int} (H:Sp w0 (BkB g m v most::L) w) (u:Int):Sp w0 (BkB g m v u::L) (w.setCell ⟨g,17,none⟩ (.int .i64 u)):=H.set 17 (.int .i64 u)
theorem Xi (a b:List Nat):cellsN (a++b)=cellsN a++cellsN b:=List.map_append
def mayBook (m:List Nat):Bool:=decide (PH.state m=0) || (decide ((PH.rows m).length=0) || (decide ((PH.rows m).length=1) && decide (PH.tal m 1=1)))
def mostOf (m:List Nat):Int:=if PH.state m=0 then 15 else 1
theorem UT (A:Option Addr) (n c:Nat) (m:List Nat) (H:Sp w0 L w) (hn:n=m.length) (hb:Ent L fun w=>Rd w A (cells64 (castI m))) (hl:n<=1024) (h15:∀x ∈ m,x<=15) :
  Calls Tryz.prog 179 #[.slice A n c] w fun e w'=>if mayBook m=true then ∃g v,e=.returned (.tuple #[.pointer (some ⟨g,0,none⟩),.int .i64 0])/\Sp w0 (Row 3 1 v (PH.rows m).length (cellsN (PH.rows m))::BkB g m v (mostOf m)::L) w'
   else e=.returned (.tuple #[.pointer none,.int .i64 20])/\Sp w0 L w':=by
 obtain⟨i0,a7,a8,a9,b0⟩:=info_parts infoJ;have C:=X9 A n c m H hn hb hl h15;have HN:=hid hn;have HB:=hid hb;have b1:=hid h15;obtain⟨st,o⟩:=exq (PH.state m);obtain⟨O,f⟩:=exq (mayBook m);obtain⟨mo,h⟩:=exq (mostOf m);rw [o] at C;rw [f,h];have D:=hid o;have Q:=hid f;have S:=hid h;clear hn hb h15 o f h;have T:tallyV m=.agg #[.int .i64 (PH.tal m 0:Int),.int .i64 (PH.tal m 1:Int),.int .i64 (PH.tal m 2:Int),.int .i64 (PH.tal m 3:Int),.int .i64 (PH.tal m 4:Int),.int .i64 (PH.tal m 5:Int),.int .i64 (PH.tal m 6:Int),.int .i64 (PH.tal m 7:Int),.int .i64 (PH.tal m 8:Int),.int .i64 (PH.tal m 9:Int),.int .i64 (PH.tal m 10:Int),.int .i64 (PH.tal m 11:Int),.int .i64 (PH.tal m 12:Int),.int .i64 (PH.tal m 13:Int),.int .i64 (PH.tal m 14:Int),.int .i64 (PH.tal m 15:Int)]:=rfl;have b2:Bk 0 279 [.int .i64 (PH.tal m 0:Int),.int .i64 (PH.tal m 1:Int),.int .i64 (PH.tal m 2:Int),.int .i64 (PH.tal m 3:Int),.int .i64 (PH.tal m 4:Int),.int .i64 (PH.tal m 5:Int),.int .i64 (PH.tal m 6:Int),.int .i64 (PH.tal m 7:Int),.int .i64 (PH.tal m 8:Int),.int .i64 (PH.tal m 9:Int),.int .i64 (PH.tal m 10:Int),.int .i64 (PH.tal m 11:Int),.int .i64 (PH.tal m 12:Int),.int .i64 (PH.tal m 13:Int),.int .i64 (PH.tal m 14:Int),.int .i64 (PH.tal m 15:Int),.slice none 0 0,.int .i64 0]=BkB 0 m (.slice none 0 0) 0:=rfl;clear b2;go_enter Tryz.func179,Tryz.ntmps179
 go_wp2_with fail
 refine C.mono ?_;rintro _ w1 ⟨rfl,H1⟩;clear C;go_wp2_with fail
 refine(Xe A n c m H1 HN.out HB.out (by omega) b1.out).mono ?_;rintro _ w2 ⟨rfl,H2⟩;rw [T];clear T;have U:=H2.newBk [.int .i64 (PH.tal m 0:Int),.int .i64 (PH.tal m 1:Int),.int .i64 (PH.tal m 2:Int),.int .i64 (PH.tal m 3:Int),.int .i64 (PH.tal m 4:Int),.int .i64 (PH.tal m 5:Int),.int .i64 (PH.tal m 6:Int),.int .i64 (PH.tal m 7:Int),.int .i64 (PH.tal m 8:Int),.int .i64 (PH.tal m 9:Int),.int .i64 (PH.tal m 10:Int),.int .i64 (PH.tal m 11:Int),.int .i64 (PH.tal m 12:Int),.int .i64 (PH.tal m 13:Int),.int .i64 (PH.tal m 14:Int),.int .i64 (PH.tal m 15:Int),.slice none 0 0,.int .i64 0] 279;go_wp2_with fail
 generalize w2.heap.size=g at U ⊢;generalize w2.alloc _=w3 at U ⊢;replace U:Sp w0 (BkB g m (.slice none 0 0) 0::L) w3:=U;obtain⟨rl,E⟩:=exq ((PH.rows m).length);obtain⟨t1,F⟩:=exq (PH.tal m 1);have f:O=(decide (st=0) || (decide (rl=0) || (decide (rl=1) && decide (t1=1)))):=by rw [<- Q.out,<- E,<- F,<- D.out]; rfl
 have h:mo=if st=0 then 15 else 1:=by rw [<- S.out,<- D.out]; rfl
 have b:=hid f;have z:=hid h;have V:=hid E;have b3:=hid F;clear f h E F Q S D H1 H2 H;go_loopw [7] (fun iv wr=>∃(i:Nat) (v:Value),iv=.int .i64 ((i+1:Nat):Int)/\i<=15/\Sp w0 (Row 3 1 v (PH.rowsB m i).length (cellsN (PH.rowsB m i))::BkB g m v 0::L) wr) (fun iv _=>16 - (intOf iv).toNat)
 case atStart=>exact⟨0,.slice none 0 0,rfl,by omega,U.rowNil _ _⟩
 case round =>
  obtain⟨i,v,rfl,hi,G⟩:=hrel;have ei:((i+1:Nat):Int)=(i:Int)+1:=by omega
  rw [ei];obtain⟨R0,j⟩:=exq (PH.rowsB m i);have W:R0.length<=15 * n:=by
   rw [<- j,HN.out];exact Nat.le_trans (PH.rowsB_len m i) (Nat.mul_le_mul_right _ hi)
  rw [j] at G;by_cases b6:i<15
  ·have k1:(i:Int)+1<=15:=by omega
   have p:PH.rowsB m (i+1)=R0++PH.idx m (i+1) n:=by rw [PH.rowsB,j,HN.out]
   have b4:=hid p;clear p j;go_wp2_with fail
   go_loopw [28] (fun kv wr=>∃(k:Nat) (v:Value) (R:List Nat),kv=.int .i64 k/\k<=n/\R0++PH.idx m (i+1) k=R/\Sp w0 (Row 3 1 v R.length (cellsN R)::BkB g m v 0::L) wr) (fun kv _=>n - (intOf kv).toNat)
   case atStart=>exact⟨0,v,R0,rfl,Nat.zero_le _,by rw [PH.idx_zero,List.append_nil],G⟩
   case round =>
    obtain⟨k,v,R,rfl,hk,P,t⟩:=hrel;have b7:R.length<=16 * n:=by
     rw [<- P,List.length_append];have:=PH.idx_len m (i+1) k;omega
    by_cases b5:k<n
    ·have k2:(k:Int)<(n:Int):=by omega
     have X:k<m.length:=by rw [<- HN.out]; exact b5
     obtain⟨al,rfl,hc⟩:=(HB.out _ _ (t.pick 2 [])).at64 (k:=k) (by simpa [castI] using X);obtain⟨x,hx⟩:=exq (m[k]);replace hc:wr.cell? (al.add k)=some (.int .i64 x):=by
      rw [hc];simp [castI,hx]
     have Y:m.getD k 0=x:=by rw [List.getD_eq_getElem?_getD,List.getElem?_eq_getElem X,hx]; rfl
     have d:=PH.idx_succ m (i+1) k;rw [Y] at d;have Z:=hid d;have HR:=hid P;clear Y d P hx;by_cases a0:x=i+1
     ·have k3:((x:Int) == (i:Int)+1)=true:=by rw [beq_iff_eq]; omega
      obtain⟨VR,cR,rfl,_,_⟩:=Row.form t 0 rfl;obtain⟨a1,_,_,_,_⟩:=BkB.get t 1 rfl;have a2:=Rd.of_blk (Blk.new wr 3 [.int .i64 k]);have h9:=(t.newBk [.int .i64 k] 3).swap;have a3:=hid a2;have a4:=hid h9;clear a2 h9 t;go_wp2_with (at_builtin; refine Za rfl _ _ 141 rfl 3 i0 (.int .i64 0) 1 8 Tryz.underlying141 a7 a8 a9 b0 rfl (by decide) (.slice VR R.length cR) R.length (cellsN R) rfl a4.out (some ⟨wr.heap.size,0,none⟩) 1 1 [.int .i64 k] rfl rfl a3.out (by intro u hu; rw [List.mem_singleton.1 hu]; rfl) (by simp only [maxLen]; omega) (by omega) ?_)
      intro v6 w6 H6 _;clear a3 a4 a1;obtain⟨V6,c6,rfl,_,_⟩:=Row.form H6 0 rfl;obtain⟨b8,_,a5,_,_⟩:=BkB.get H6 2 rfl;have H7:=(BkB.set16 (H6.pick 3 [2,0]) (.slice V6 (R.length+1) c6)).swap;have q:R0++PH.idx m (i+1) (k+1)=R++[k]:=by
       rw [Z.out,if_pos a0,<- List.append_assoc,HR.out]
      have I:=hid q;clear q H6;go_wp2_with fail
      go_roundw
      case rel =>
       refine⟨k+1,.slice V6 (R.length+1) c6,R++[k],by go_num,by omega,I.out,?_⟩;rw [List.length_append,Xi];exact H7
      case measure=>first | (simp [intOf]; omega) | simp [intOf]
     ·have k3:((x:Int) == (i:Int)+1)=false:=by rw [beq_eq_false_iff_ne]; omega
      have q:R0++PH.idx m (i+1) (k+1)=R:=by
       rw [Z.out,if_neg a0,HR.out]
      have I:=hid q;clear q;go_wp2_with fail
      go_roundw
      case rel=>exact⟨k+1,v,R,by go_num,by omega,I.out,t⟩
      case measure=>first | (simp [intOf]; omega) | simp [intOf]
    ·have k2:¬ (k:Int)<(n:Int):=by omega
     obtain rfl:k=n:=by omega
     rw [<- b4.out] at P;have HR:=hid P;clear P;go_wp2_with fail
     go_roundw
     case rel =>
      refine⟨i+1,v,by first | go_num | exact congrArg (Value.int .i64) (by omega),by omega,?_⟩;rw [HR.out];exact t
     case measure=>first | (simp [intOf]; omega) | simp [intOf]
  ·have k1:¬ (i:Int)+1<=15:=by omega
   obtain rfl:i=15:=by omega
   have J:PH.rows m=R0:=j;rw [J] at V;have r:=V.out;rw [r] at G;obtain⟨VR,cR,rfl,_,_⟩:=Row.form G 0 rfl;obtain⟨a1,b9,a5,c0,B⟩:=BkB.get G 1 rfl;have c1:=B 1 (by omega);rw [b3.out] at c1;have t:=fun u=>(BkB.set17 G.swap u).swap;have K:=hid t;have a6:=hid G;have s:=hid r;have M:=hid J;clear t j J W r B a5 ei;by_cases a:st=0
   ·have y:O=true:=by rw [b.out,decide_eq_true a]; rfl
    have e2:mo=15:=by rw [z.out,if_pos a]
    subst y e2 a;go_wp2_with fail
    go_ret2;exact⟨g,rfl,_,by rw [M.out,s.out]; exact K.out 15⟩
   ·have k2:(st == 0)=false:=by rw [beq_eq_false_iff_ne]; exact a
    have e2:mo=1:=by rw [z.out,if_neg a]
    subst e2;by_cases l:rl=0
    ·have y:O=true:=by rw [b.out,decide_eq_true l]; simp
     have k3:((rl:Int) == 0)=true:=by rw [beq_iff_eq]; omega
     subst y;clear a;go_wp2_with fail
     go_ret2;exact⟨g,rfl,_,by rw [M.out,s.out]; exact K.out 1⟩
    ·have k3:((rl:Int) == 0)=false:=by rw [beq_eq_false_iff_ne]; omega
     by_cases N:rl=1
     ·have k4:((rl:Int) == 1)=true:=by rw [beq_iff_eq]; omega
      by_cases ht:t1=1
      ·have y:O=true:=by rw [b.out,decide_eq_true N,decide_eq_true ht]; simp
       have k5:((t1:Int) == 1)=true:=by rw [beq_iff_eq]; omega
       subst y;clear a l;go_wp2_with fail
       go_ret2;exact⟨g,rfl,_,by rw [M.out,s.out]; exact K.out 1⟩
      ·have y:O=false:=by rw [b.out,decide_eq_false a,decide_eq_false l,decide_eq_false ht]; simp
       have k5:((t1:Int) == 1)=false:=by rw [beq_eq_false_iff_ne]; omega
       subst y;clear a l;go_wp2_with fail
       go_ret2;exact⟨rfl,a6.out.pick 2 []⟩
     ·have k4:((rl:Int) == 1)=false:=by rw [beq_eq_false_iff_ne]; omega
      have y:O=false:=by rw [b.out,decide_eq_false a,decide_eq_false l,decide_eq_false N]; rfl
      subst y;clear a l N;go_wp2_with fail
      go_ret2;exact⟨rfl,a6.out.pick 2 []⟩
end Go.Proofs.YtnjpnmpemhldcaaGreatDoor

