/- A pack. -/
import Derived.Test.YteajimobgkempaaGreatDoorPk08
set_option linter.all false
set_option maxRecDepth 100000
set_option maxHeartbeats 8000000
namespace Go.Proofs.YteajimobgkempaaGreatDoor
variable {w0 w:World} {L:List Pr}
open Go.RowKit
def cntU (f:Nat->Nat):List Value:=(List.range 17).map fun i=>.int .u32 (f i:Int)
theorem Z9 (f:Nat->Nat) (i:Nat) (h:i<17):(cntU f)[i]?=some (.int .u32 (f i:Int)):=by
 unfold cntU;rw [List.getElem?_map,List.getElem?_range h];rfl
theorem Wh (f:Nat->Nat) (x v:Nat):(cntU f).set x (.int .u32 v)=cntU fun i=>if i=x then v else f i:=by
 apply List.ext_getElem?;intro i;rw [List.getElem?_set];by_cases h:i<17
 ·rw [Z9 _ _ h,Z9 _ _ h];by_cases e:x=i
  ·subst e;rw [if_pos rfl,if_pos (by simp [cntU]; exact h),if_pos rfl]
  ·rw [if_neg e,if_neg (fun h=>e h.symm)]
 ·have a:(cntU f)[i]?=none:=List.getElem?_eq_none (by simp [cntU]; omega);have b:(cntU fun i=>if i=x then v else f i)[i]?=none:=List.getElem?_eq_none (by simp [cntU]; omega);rw [a,b];split
  ·rw [if_neg (by simp [cntU]; omega)]
  ·rfl
theorem Wi (f:Nat->Nat):∀v ∈ cntU f,v.oneCell'=true:=by
 intro v a;obtain⟨i,_,rfl⟩:=List.mem_map.1 a;rfl
theorem Vr (m:List Nat) (H:Sp w0 L w) (hs:PH.sum m<=32768) (hl:m.length<=1024) :
  Calls Tryz.prog 152 #[tallyV m] w fun e w'=>e=.returned (.agg (cntU (PH.fst m)).toArray)/\Sp w0 L w':=by
 have Z:∀k,k<=16->PH.fst m k<=65536:=fun k hk=>PH.fst_le m k hk hs;have HF:=hid Z;clear Z;obtain⟨t,V⟩:=exq (Value.agg (cntU (PH.fst m)).toArray);rw [V];have HT:=hid V;clear V;have y:(w.alloc (.cells (cntV (PH.tal m)).toArray 234)).heap.size=w.heap.size+1:=Array.size_push _;have I:((w.alloc (.cells (cntV (PH.tal m)).toArray 234)).alloc (.cells #[.int .u32 0,.int .u32 0,.int .u32 0,.int .u32 0,.int .u32 0,.int .u32 0,.int .u32 0,.int .u32 0,.int .u32 0,.int .u32 0,.int .u32 0,.int .u32 0,.int .u32 0,.int .u32 0,.int .u32 0,.int .u32 0,.int .u32 0] 232)).heap.size=w.heap.size+1+1:=by
  rw [<- y]; exact Array.size_push _
 have F:=((H.newBk (cntV (PH.tal m)) 234).newBk [.int .u32 0,.int .u32 0,.int .u32 0,.int .u32 0,.int .u32 0,.int .u32 0,.int .u32 0,.int .u32 0,.int .u32 0,.int .u32 0,.int .u32 0,.int .u32 0,.int .u32 0,.int .u32 0,.int .u32 0,.int .u32 0,.int .u32 0] 232).newBk [.int .u32 0,.int .u32 0,.int .u32 0,.int .u32 0,.int .u32 0,.int .u32 0,.int .u32 0,.int .u32 0,.int .u32 0,.int .u32 0,.int .u32 0,.int .u32 0,.int .u32 0,.int .u32 0,.int .u32 0,.int .u32 0,.int .u32 0] 232;rw [I,y] at F;clear y I;unfold tallyV;go_enter Tryz.func152,Tryz.ntmps152
 go_wp2_with fail
 generalize w.heap.size+1+1=g3 at F ⊢;generalize w.heap.size+1=g2 at F ⊢;generalize w.heap.size=g1 at F ⊢;generalize ((w.alloc _).alloc _).alloc _=w1 at F ⊢;obtain⟨B,C⟩:∃G:Addr,(⟨g3,0,none⟩:Addr)=G:=⟨_,rfl⟩;obtain⟨S,D⟩:∃G:Addr,(⟨g1,0,none⟩:Addr)=G:=⟨_,rfl⟩;rw [C,D];have o:=hid C;have J:=hid D;clear C D;go_loopw [4] (fun iv wr=>∃i:Nat,iv=.int .i64 i/\1<=i/\i<=16/\Sp w0 (Bk g3 232 (cntU (fun k=>if k<=i then PH.fst m k else 0))::Bk g2 232 [.int .u32 0,.int .u32 0,.int .u32 0,.int .u32 0,.int .u32 0,.int .u32 0,.int .u32 0,.int .u32 0,.int .u32 0,.int .u32 0,.int .u32 0,.int .u32 0,.int .u32 0,.int .u32 0,.int .u32 0,.int .u32 0,.int .u32 0]::Bk g1 234 (cntV (PH.tal m))::L) wr) (fun iv _=>16 - (intOf iv).toNat)
 case atStart =>
  refine⟨1,rfl,Nat.le_refl _,by omega,?_⟩;have e:cntU (fun k=>if k<=1 then PH.fst m k else 0)=[.int .u32 0,.int .u32 0,.int .u32 0,.int .u32 0,.int .u32 0,.int .u32 0,.int .u32 0,.int .u32 0,.int .u32 0,.int .u32 0,.int .u32 0,.int .u32 0,.int .u32 0,.int .u32 0,.int .u32 0,.int .u32 0,.int .u32 0]:=rfl;rw [e]; exact F
 case round =>
  obtain⟨i,rfl,a0,a1,M⟩:=hrel;by_cases a2:i<=15
  ·have k1:(i:Int)<=15:=by omega
   obtain⟨l,q⟩:=exq (i+1);have y1:(i:Int)+1=(l:Int):=by omega
   obtain⟨a,T⟩:=exq (PH.fst m i);obtain⟨b,U⟩:=exq (PH.tal m i);obtain⟨s,N⟩:=exq (a+b);obtain⟨nv,hv⟩:=exq (s * 2);have a3:a<=65536:=by rw [<- T]; exact HF.out i (by omega)
   have a4:b<=1024:=by rw [<- U]; exact Nat.le_trans (PH.tal_le m i) hl
   have O:PH.fst m l=nv:=by
    obtain⟨j,rfl⟩:∃j,i=j+1:=⟨i - 1,by omega⟩;rw [<- q,<- hv,<- N,<- T,<- U]; rfl
   have y2:(a:Int)+(b:Int)=(s:Int):=by omega
   have y3:(s:Int) * 2=(nv:Int):=by omega
   have HA:=hid T;have W:=hid U;have HV:=hid O;have a5:l<17:=by omega
   have y4:(i:Int)<17:=by omega
   have y5:(i:Int)<16:=by omega
   have y6:(l:Int)<17:=by omega
   have a6:s<=100000:=by omega
   clear T U N hv O;go_wp2_with fail
   refine Zb (L:=Bk g2 232 [.int .u32 0,.int .u32 0,.int .u32 0,.int .u32 0,.int .u32 0,.int .u32 0,.int .u32 0,.int .u32 0,.int .u32 0,.int .u32 0,.int .u32 0,.int .u32 0,.int .u32 0,.int .u32 0,.int .u32 0,.int .u32 0,.int .u32 0]::Bk g1 234 (cntV (PH.tal m))::L) [some (.int .i64 i),some (.int .i64 l),some (.int .i64 i),some (.pointer (some (B.add i))),some (.int .u32 a),some (.int .i64 i),some (.pointer (some (S.add i))),some (.int .i64 b),some (.int .u32 b),some (.int .u32 s),some (.int .u32 nv),some (.pointer (some (B.add l))),none] (fun _ _=>True) (fun ix vx=>match ix with | 12=>(fun _=>[Bk g3 232 (cntU (fun k=>if k<=i+1 then PH.fst m k else 0))]) vx | _=>[]) (fun ix=>match ix with | 12=>[Bk g3 232 (cntU (fun k=>if k<=i then PH.fst m k else 0))] | _=>[]) 13 22
    [some 9,some 10,some 11,some 12,some 13,some 14,some 15,some 16,some 17,some 18,some 19,some 20,none]
    [[],[0],[],[2],[3],[],[5],[6],[7],[4,8],[9],[1,0,1,2,3,4,5,6,7,8,9,10],[11,10,0,1,2,3,4,5,6,7,8,9,10]]
    [[],[0],[],[2],[2,3],[],[5],[5,6],[5,6,7],[2,3,4,5,6,7,8],[2,3,4,5,6,7,8,9],[0,1,2,3,4,5,6,7,8,9,10],[0,1,2,3,4,5,6,7,8,9,10,11]]
    [[],[],[],[],[],[],[],[],[],[],[],[],[]] [[],[],[],[],[12],[],[],[],[],[],[],[],[]] [(1,.pointer (some S)),(3,.pointer (some B)),(4,.int .i64 i)]
    (by kernel_rfl) rfl (by decide) (by rfl) (by decide +kernel) rfl rfl (by simp) (M) ?hstep ?hend
   case hstep =>
    refine⟨?p0,⟨?p1,⟨?p2,⟨?p3,⟨?p4,⟨?p5,⟨?p6,⟨?p7,⟨?p8,⟨?p9,⟨?p10,⟨?p11,⟨?p12,trivial⟩⟩⟩⟩⟩⟩⟩⟩⟩⟩⟩⟩⟩
    case p0 | p1 | p2 | p3 | p5 | p6 | p8 | p9 | p10 | p11 =>
     intro x wx A d g r n E H K p;replace p:=hid p;clear n E g;repeat (obtain⟨_,r⟩:=r)
     refine so ?_;go_step;exact p.out _ _ rfl H
    case p4 =>
     intro x wx A d g r n E H K f;have a7:=tq n 3;replace H:Sp w0 (_::d) wx:=H;have p:=hid f;clear f r n E g;have c:wx.cell? (B.add i)=some (.int .u32 a):=by
      rw [<- o.out,addr0,H.cell 0 rfl i,Z9 _ _ (by omega),if_pos (Nat.le_refl _),HA.out]
     refine so ?_;go_step;exact p.out _ _ rfl H
    case p7 =>
     intro x wx A d g r n E H K f;have a8:=tq n 6;have p:=hid f;clear f r n g;have c:wx.cell? (S.add i)=some (.int .i64 b):=E (fun w=>w.cell? (S.add i)=some (.int .i64 b)) (fun _ _ H=>by show World.cell? _ _=_; rw [<- J.out,addr0,H.cell 1 rfl i,ZW _ _ (by omega),W.out]) _ _ H;refine so ?_;go_step;exact p.out _ _ rfl H
    case p12 =>
     intro x wx A d g r n E H K f;have a9:=tq n 11;have b0:=tq n 10;replace H:Sp w0 (_::d) wx:=H;have p:Hid (∀(v:Value) (w' : World),True->Sp w0 ((Bk g3 232 (cntU (fun k=>if k<=i+1 then PH.fst m k else 0)))::d) w'->K (A.put none v) w'):=hid f;clear f r n E g;have c:wx.cell? (B.add l)=some (.int .u32 0):=by
      rw [<- o.out,addr0,H.cell 0 rfl l,Z9 _ _ (by omega),if_neg (by omega)]; rfl
     have z:wx.frozen? (B.add l)=false:=by
      rw [<- o.out,addr0]; exact H.frozen 0 rfl l
     have u:Sp w0 (Bk g3 232 (cntU (fun k=>if k<=i+1 then PH.fst m k else 0))::d) (wx.setCell (B.add l) (.int .u32 nv)):=by
      have h:=H.set l (.int .u32 nv);rw [Wh] at h;rw [<- o.out,addr0];have e:(fun k=>if k<=i+1 then PH.fst m k else 0)=fun k=>if k=l then nv else if k<=i then PH.fst m k else 0:=by
       funext k;by_cases X:k=l
       ·rw [if_pos X,if_pos (by omega),X]; exact HV.out
       ·rw [if_neg X];by_cases e2:k<=i
        ·rw [if_pos e2,if_pos (by omega)]
        ·rw [if_neg e2,if_neg (by omega)]
      rw [e]; exact h
     have HS:=hid u;clear u;refine so ?_;go_step;exact p.out undef _ trivial HS.out
   case hend =>
    intro x wx A hA n H;replace H:Sp w0 (_::_::_::L) wx:=H;clear n;simp only [putAll,Act.put,List.setIfInBounds_toArray,List.set_cons_succ,List.set_cons_zero,Nat.reduceAdd] at hA;subst hA;go_wp2;go_roundw
    case rel=>exact⟨i+1,by first | go_num | (rw [<- q]; rfl) | rfl,by omega,by omega,H⟩
    case measure=>first | (simp [intOf]; omega) | simp [intOf]
  ·have k1:¬ (i:Int)<=15:=by omega
   obtain rfl:i=16:=by omega
   have e:cntU (fun k=>if k<=16 then PH.fst m k else 0)=cntU (PH.fst m):=by
    unfold cntU;refine List.map_congr_left fun k hk=>?_;show Value.int .u32 (((if k<=16 then PH.fst m k else 0:Nat)):Int)=_;rw [if_pos (by have:=List.mem_range.1 hk; omega)]
   rw [e] at M;have HH:=hid M;have Q:=M.swap;have Y:=hid Q;clear Q M;obtain rfl:=o.out;obtain rfl:=J.out;go_wp2_with (first | (refine ZH rfl 232 _ rfl g3 232 (cntU (PH.fst m)) rfl (HH.out.blk 0 rfl) Tryz.isAgg232 Tryz.sizeOf232 ?_) | (refine Zn rfl 232 _ _ rfl g2 232 _ (cntU (PH.fst m)) rfl rfl Y.out rfl Tryz.sizeOf232 (Wi _) ?_))
   intro w9 H9;go_wp2_with fail
   have R:=run_loadCells_list (P:=Tryz.prog) w9 ⟨g2,0,none⟩ (cntU (PH.fst m)) (fun j v hj=>by rw [addr0,H9.cell 0 rfl]; exact hj);rw [show(cntU (PH.fst m)).length=17 from rfl] at R;refine bodyPost_ret (v:=.agg (cntU (PH.fst m)).toArray) (by simp [results,Tryz.results152,Tryz.isAgg232,Tryz.sizeOf232,R,Result.andThen,asAddr,loadVar]) rfl ?_;exact⟨by rw [HT.out],H9.pick 3 []⟩
theorem infoU:(Tryz.prog.info? 43).map (fun i=>(i.zero,i.size,i.bytes))=some (some (.int .u32 0),1,4):=by kernel_rfl
def rowU (f:Nat->Nat) (n:Nat):List Value:=(List.range n).map fun i=>.int .u32 (f i:Int)
theorem ZX (f:Nat->Nat) (n i:Nat) (h:i<n):(rowU f n)[i]?=some (.int .u32 (f i:Int)):=by
 unfold rowU;rw [List.getElem?_map,List.getElem?_range h];rfl
theorem Wj (f:Nat->Nat) (n x v:Nat):(rowU f n).set x (.int .u32 v)=rowU (fun i=>if i=x then v else f i) n:=by
 apply List.ext_getElem?;intro i;rw [List.getElem?_set];by_cases h:i<n
 ·rw [ZX _ _ _ h,ZX _ _ _ h];by_cases e:x=i
  ·subst e;rw [if_pos rfl,if_pos (by simp [rowU]; exact h),if_pos rfl]
  ·rw [if_neg e,if_neg (fun h=>e h.symm)]
 ·have a:(rowU f n)[i]?=none:=List.getElem?_eq_none (by simp [rowU]; omega);have b:(rowU (fun i=>if i=x then v else f i) n)[i]?=none:=List.getElem?_eq_none (by simp [rowU]; omega);rw [a,b];split
  ·rw [if_neg (by simp [rowU]; omega)]
  ·rfl
theorem XF (n:Nat):List.replicate n (Value.int .u32 0)=rowU (fun _=>0) n:=by
 apply List.ext_getElem?;intro i;by_cases h:i<n
 ·rw [ZX _ _ _ h,List.getElem?_replicate,if_pos h]; rfl
 ·rw [List.getElem?_eq_none (by simp; omega),List.getElem?_eq_none (by simp [rowU]; omega)]
theorem Wk (A:Option Addr) (n c:Nat) (m:List Nat) (H:Sp w0 L w) (hn:n=m.length) (hb:Ent L fun w=>Rd w A (cells64 (castI m))) (hl:n<=1024) (h15:∀x ∈ m,x<=15) (hs:PH.sum m<=32768) :
  Calls Tryz.prog 139 #[.slice A n c] w fun e w'=>∃v,e=.returned (.tuple #[v,.int .i64 0])/\Sp w0 (Row 43 1 v n (rowU (PH.codeAt m) n)::L) w':=by
 obtain⟨i0,O,P,Q,R⟩:=info_parts infoU;have p:=Uk A n c m H hn hb hl h15;have S:((PH.state m) == 1)=false:=by
  rw [beq_eq_false_iff_ne];unfold PH.state;split
  ·omega
  ·rw [if_neg (by omega)]; omega
 obtain⟨st,g⟩:=exq (PH.state m);rw [g] at p S;clear g;have T:=hid hn;have U:=hid hb;have B:=hid h15;have HS:=hid hs;have V:∀k,k<=16->PH.fst m k<=65536:=fun k hk=>PH.fst_le m k hk hs;have HF:=hid V;clear hn hb h15 hs V;go_enter Tryz.func139,Tryz.ntmps139
 go_wp2_with fail
 refine p.mono ?_;rintro _ w1 ⟨rfl,W⟩;clear p;go_wp2_with fail
 refine(Wf A n c m W T.out U.out (by omega) B.out).mono ?_;rintro _ w2 ⟨rfl,X⟩;go_wp2_with fail
 refine(Vr m X HS.out (by rw [<- T.out]; exact hl)).mono ?_;rintro _ Y ⟨rfl,Z⟩;have H4:=Z.newBk [.int .u32 0,.int .u32 0,.int .u32 0,.int .u32 0,.int .u32 0,.int .u32 0,.int .u32 0,.int .u32 0,.int .u32 0,.int .u32 0,.int .u32 0,.int .u32 0,.int .u32 0,.int .u32 0,.int .u32 0,.int .u32 0,.int .u32 0] 232;go_wp2_with (refine Zn rfl 232 _ _ rfl Y.heap.size 232 _ (cntU (PH.fst m)) rfl rfl H4 rfl Tryz.sizeOf232 (Wi _) ?_)
 intro w4 H5;generalize Y.heap.size=g6 at H5 ⊢;clear W X Z H4 H;go_wp2_with (at_make; refine Zk rfl _ _ _ rfl 43 i0 (.int .u32 0) Tryz.underlying196 O P Q rfl n rfl rfl (by rw [R]; omega) (by unfold maxLen; omega) H5 ?_)
 intro M w5 H6;rw [XF] at H6;obtain⟨N,r⟩:∃G:Addr,(⟨g6,0,none⟩:Addr)=G:=⟨_,rfl⟩;rw [r];have b:=hid r;clear r;go_wp2_with fail
 go_loopw [30] (fun iv wr=>∃k:Nat,iv=.int .i64 k/\k<=n/\Sp w0 (Row 43 1 (.slice (some M) n n) n (rowU (fun j=>if j<k then PH.codeAt m j else 0) n)::Bk g6 232 (cntU (fun i=>PH.fst m i+if i=0 then 0 else (m.take k).count i))::L) wr) (fun iv _=>n - (intOf iv).toNat)
 case atStart =>
  refine⟨0,rfl,Nat.zero_le _,?_⟩;have s:(fun i=>PH.fst m i+if i=0 then 0 else (m.take 0).count i)=PH.fst m:=by
   funext i;simp
  have d:(fun j=>if j<0 then PH.codeAt m j else 0)=fun _=>0:=by
   funext j;rw [if_neg (Nat.not_lt_zero _)]
  rw [s,d];exact H6
 case round =>
  obtain⟨k,rfl,hk,l⟩:=hrel;by_cases t:k<n
  ·have k1:(k:Int)<(n:Int):=by omega
   have f:k<m.length:=by rw [<- T.out]; exact t
   obtain⟨al,rfl,hc⟩:=(U.out _ _ (l.pick 2 [])).at64 (k:=k) (by simpa [castI] using f);obtain⟨x,C⟩:=exq (m[k]);have a0:x<=15:=by rw [<- C]; exact B.out _ (List.getElem_mem f)
   replace hc:wr.cell? (al.add k)=some (.int .i64 x):=by
    rw [hc];simp [castI,C]
   have D:m.getD k 0=x:=by rw [List.getD_eq_getElem?_getD,List.getElem?_eq_getElem f,C]; rfl
   have E:∀i,(m.take (k+1)).count i=(m.take k).count i+if i=x then 1 else 0:=fun i=>by
    rw [List.take_succ_eq_append_getElem f,List.count_append,C,List.count_singleton];by_cases e:i=x
    ·subst e; simp
    ·rw [if_neg e,if_neg (by simpa using fun h=>e h.symm)]
   have F:=hid D;have I:=hid E;clear D E C;by_cases a1:0<x
   ·have k2:(0:Int)<(x:Int):=by omega
    obtain⟨q,z⟩:=exq (PH.fst m x+(m.take k).count x);have a2:q<=70000:=by
     rw [<- z];have h1:=HF.out x (by omega);have h2:(m.take k).count x<=1024:=Nat.le_trans List.count_le_length (by rw [List.length_take]; omega);omega
    have k3:(x:Int)<17:=by omega
    have a:PH.codeAt m k=q:=by
     unfold PH.codeAt;rw [F.out,if_neg (by omega),z]
    have c6:wr.cell? (N.add x)=some (.int .u32 q):=by
     rw [<- b.out,addr0,l.cell 1 rfl x,Z9 _ _ (by omega),if_neg (by omega),z]
    obtain⟨a3,c2,ev,_,u,a4,o⟩:=l.rowSet t;injection ev with ev
    injection ev with ev
    subst ev;rw [ZX _ _ _ t,if_neg (Nat.lt_irrefl _)] at u;replace u:wr.cell? (M.add k)=some (.int .u32 0):=u;have J:=o (.int .u32 q);rw [Wj] at J;have d6:(wr.setCell (M.add k) (.int .u32 q)).cell? (N.add x)=some (.int .u32 q):=by
     rw [<- b.out,addr0,J.cell 1 rfl x,Z9 _ _ (by omega),if_neg (by omega),z]
    have e6:(wr.setCell (M.add k) (.int .u32 q)).frozen? (N.add x)=false:=by
     rw [<- b.out,addr0];exact J.frozen 1 rfl x
    have K:=(J.swap.set x (.int .u32 ((q+1:Nat):Int))).swap;rw [Wh] at K;have s:(fun i=>if i=x then q+1 else PH.fst m i+if i=0 then 0 else (m.take k).count i)=fun i=>PH.fst m i+if i=0 then 0 else (m.take (k+1)).count i:=by
     funext i;rw [I.out];by_cases e:i=x
     ·subst e;rw [if_pos rfl,if_neg (by omega),if_pos rfl,<- z]; omega
     ·rw [if_neg e,if_neg e,Nat.add_zero]
    have d:(fun i=>if i=k then q else if i<k then PH.codeAt m i else 0)=fun i=>if i<k+1 then PH.codeAt m i else 0:=by
     funext i;by_cases e:i=k
     ·subst e;rw [if_pos rfl,if_pos (by omega),a]
     ·rw [if_neg e];by_cases h:i<k
      ·rw [if_pos h,if_pos (by omega)]
      ·rw [if_neg h,if_neg (by omega)]
    rw [s,d] at K;have eg:(⟨g6,x,none⟩:Addr)=N.add x:=by rw [<- b.out,addr0]
    rw [eg] at K;have y:=hid K;clear K J o s d eg a z;go_wp2_with fail
    go_roundw
    case rel=>exact⟨k+1,by go_num,by omega,y.out⟩
    case measure=>first | (simp [intOf]; omega) | simp [intOf]
   ·have k2:¬ (0:Int)<(x:Int):=by omega
    obtain rfl:x=0:=by omega
    have s:(fun i=>PH.fst m i+if i=0 then 0 else (m.take k).count i)=fun i=>PH.fst m i+if i=0 then 0 else (m.take (k+1)).count i:=by
     funext i;rw [I.out];by_cases e:i=0
     ·rw [if_pos e,if_pos e]
     ·rw [if_neg e,if_neg e,if_neg e,Nat.add_zero]
    have d:(fun i=>if i<k then PH.codeAt m i else 0)=fun i=>if i<k+1 then PH.codeAt m i else 0:=by
     funext i;by_cases e:i=k
     ·subst e;rw [if_neg (Nat.lt_irrefl _),if_pos (by omega)];unfold PH.codeAt;rw [F.out,if_pos rfl]
     ·by_cases h:i<k
      ·rw [if_pos h,if_pos (by omega)]
      ·rw [if_neg h,if_neg (by omega)]
    rw [s,d] at l;have y:=hid l;clear l s d;go_wp2_with fail
    go_roundw
    case rel=>exact⟨k+1,by go_num,by omega,y.out⟩
    case measure=>first | (simp [intOf]; omega) | simp [intOf]
  ·have k1:¬ (k:Int)<(n:Int):=by omega
   obtain rfl:k=n:=by omega
   have d:rowU (fun j=>if j<k then PH.codeAt m j else 0) k=rowU (PH.codeAt m) k:=by
    unfold rowU;refine List.map_congr_left fun j hj=>?_;show Value.int .u32 ((if j<k then PH.codeAt m j else 0:Nat):Int)=_;rw [if_pos (List.mem_range.1 hj)]
   rw [d] at l;go_wp2_with fail
   go_ret2;exact⟨_,rfl,l.pick 2 [0]⟩
theorem infoJ:(Tryz.prog.info? 3).map (fun i=>(i.zero,i.size,i.bytes))=some (some (.int .i64 0),1,8):=by kernel_rfl
def BkB (g:Nat) (m:List Nat) (v:Value) (most:Int):Pr:=Bk g 265 (cntV (PH.tal m)++[v,.int .i64 most])
theorem BkB.get {g:Nat} {m:List Nat} {v:Value} {most:Int} (H:Sp w0 L w) (k:Nat) (hk:L[k]?=some (BkB g m v most)) :
  w.cell? ⟨g,16,none⟩=some v/\w.cell? ⟨g,17,none⟩=some (.int .i64 most)/\w.frozen? ⟨g,16,none⟩=false/\w.frozen? ⟨g,17,none⟩=false/\∀i,i<16->w.cell? ⟨g,i,none⟩=some (.int .i64 (PH.tal m i:Int)):=by
 refine⟨H.cell k hk 16,H.cell k hk 17,H.frozen k hk 16,H.frozen k hk 17,fun i hi=>?_⟩;rw [H.cell k hk i,List.getElem?_append_left (by simp [cntV]; exact hi),ZW _ _ hi]
theorem Yi (a b:List Nat):cellsN (a++b)=cellsN a++cellsN b:=List.map_append
def mayBook (m:List Nat):Bool:=decide (PH.state m=0) || (decide ((PH.rows m).length=0) || (decide ((PH.rows m).length=1) && decide (PH.tal m 1=1)))
def mostOf (m:List Nat):Int:=if PH.state m=0 then 15 else 1
end Go.Proofs.YteajimobgkempaaGreatDoor

