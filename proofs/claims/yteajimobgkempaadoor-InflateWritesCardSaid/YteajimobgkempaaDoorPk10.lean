/- A pack. -/
import Derived.Test.YteajimobgkempaaDoorPk09
set_option linter.all false
set_option maxRecDepth 100000
set_option maxHeartbeats 8000000
namespace Go.Proofs.YteajimobgkempaaDoor
variable {w0 w:World} {L:List Pr}
namespace PL
abbrev Pk:=Nat × List Nat
def keyP (p:Pk):Int:=(p.1:Int)
def pk0:Pk:=(0,[])
def comb (a b:Pk):Pk:=(a.1+b.1,a.2++b.2)
def pairsTo (l:List Pk) (j:Nat):List Pk:=(List.range j).map fun i=>comb (l.getD (2 * i) pk0) (l.getD (2 * i+1) pk0)
def pairs (l:List Pk):List Pk:=pairsTo l (l.length / 2)
theorem pairsTo_succ (l:List Pk) (j:Nat):pairsTo l (j+1)=pairsTo l j++[comb (l.getD (2 * j) pk0) (l.getD (2 * j+1) pk0)]:=by
 unfold pairsTo; rw [List.range_succ,List.map_append]; rfl
def itemsTo (cs:List Nat) (k:Nat):List Pk:=((List.range k).filter fun i=>decide (0<cs.getD i 0)).map fun i=>(cs.getD i 0,[i])
def items (cs:List Nat):List Pk:=itemsTo cs cs.length
theorem itemsTo_succ (cs:List Nat) (k:Nat):itemsTo cs (k+1)=if 0<cs.getD k 0 then itemsTo cs k++[(cs.getD k 0,[k])] else itemsTo cs k:=by
 unfold itemsTo;rw [List.range_succ,List.filter_append];by_cases h:0<cs.getD k 0
 ·rw [if_pos h,List.filter_cons,decide_eq_true h]; simp
 ·rw [if_neg h,List.filter_cons,decide_eq_false h]; simp
theorem itemsTo_len (cs:List Nat) (k:Nat):(itemsTo cs k).length<=k:=by
 unfold itemsTo;rw [List.length_map];exact Nat.le_trans (List.length_filter_le _ _) (by simp)
theorem itemsTo_mem (cs:List Nat) (k:Nat):∀p ∈ itemsTo cs k,p.1 ∈ cs/\p.2.length=1/\0<p.1/\∀s ∈ p.2,s<k:=by
 intro p b;unfold itemsTo at b;obtain⟨i,c,rfl⟩:=List.mem_map.1 b;obtain⟨d,e⟩:=List.mem_filter.1 c;have a:=of_decide_eq_true e;refine⟨?_,rfl,a,fun s hs=>by rw [List.mem_singleton.1 hs]; exact List.mem_range.1 d⟩;rcases Nat.lt_or_ge i cs.length with h | h
 ·show cs.getD i 0 ∈ cs;rw [List.getD_eq_getElem?_getD,List.getElem?_eq_getElem h]; exact List.getElem_mem h
 ·rw [List.getD_eq_getElem?_getD,List.getElem?_eq_none h] at a;simp at a
def nxt (it l:List Pk):List Pk:=SS.isort keyP (it++pairs l)
def lst (it:List Pk):Nat->List Pk
 | 0=>it
 | i+1=>nxt it (lst it i)
def wt (f:Pk->Nat) (l:List Pk):Nat:=(l.map f).sum
theorem wt_append (f:Pk->Nat) (a b:List Pk):wt f (a++b)=wt f a+wt f b:=by unfold wt; simp
theorem wt_put (f:Pk->Nat) (l:List Pk) (p:Pk):wt f (SS.put keyP l p)=wt f l+f p:=by
 induction l with
 | nil=>simp [SS.put,wt]
 | cons x l ih =>
  unfold SS.put;split
  ·show f x+wt f (SS.put keyP l p)=f x+wt f l+f p;rw [ih]; omega
  ·show f p+(f x+wt f l)=f x+wt f l+f p;omega
theorem wt_mrg (f:Pk->Nat) (u v:List Pk):wt f (SS.mrg keyP u v)=wt f u+wt f v:=by
 unfold SS.mrg;induction v generalizing u with
 | nil=>simp [wt]
 | cons y v ih =>
  rw [List.foldl_cons,ih,wt_put];show _=wt f u+(f y+wt f v);omega
theorem wt_isort (f:Pk->Nat) (l:List Pk):wt f (SS.isort keyP l)=wt f l:=by unfold SS.isort; rw [wt_mrg]; simp [wt]
theorem wt_mem (f:Pk->Nat) {l:List Pk} {p:Pk} (h:p ∈ l):f p<=wt f l:=by
 induction l with
 | nil=>cases h
 | cons x l ih =>
  show _<=f x+wt f l;rcases List.mem_cons.1 h with rfl | h
  ·omega
  ·have:=ih h; omega
theorem wt_take (f:Pk->Nat) (l:List Pk) (i:Nat):wt f (l.take i)<=wt f l:=by
 have h:=wt_append f (l.take i) (l.drop i);rw [List.take_append_drop] at h; omega
theorem wt_pairsTo (f:Pk->Nat) (hf:∀a b,f (comb a b)=f a+f b) (l:List Pk) (j:Nat) (hj:j<=l.length / 2):wt f (pairsTo l j)=wt f (l.take (2 * j)):=by
 induction j with
 | zero=>rfl
 | succ j ih =>
  have c:2 * j<l.length:=by omega
  have d:2 * j+1<l.length:=by omega
  rw [pairsTo_succ,wt_append,ih (by omega),show 2 * (j+1)=2 * j+1+1 by omega,List.take_succ_eq_append_getElem d,List.take_succ_eq_append_getElem c,wt_append,wt_append];have e:l.getD (2 * j) pk0=l[2 * j]:=by rw [List.getD_eq_getElem?_getD,List.getElem?_eq_getElem c]; rfl
  have g:l.getD (2 * j+1) pk0=l[2 * j+1]:=by rw [List.getD_eq_getElem?_getD,List.getElem?_eq_getElem d]; rfl
  rw [e,g];simp only [wt,List.map_cons,List.map_nil,List.sum_cons,List.sum_nil,hf];omega
theorem wt_pairs (f:Pk->Nat) (hf:∀a b,f (comb a b)=f a+f b) (l:List Pk):wt f (pairs l)<=wt f l:=by
 unfold pairs;rw [wt_pairsTo f hf l _ (Nat.le_refl _)];exact wt_take f l _
theorem wt_lst (f:Pk->Nat) (hf:∀a b,f (comb a b)=f a+f b) (it:List Pk) (i:Nat):wt f (lst it i)<=(i+1) * wt f it:=by
 induction i with
 | zero=>simp [lst]
 | succ i ih =>
  show wt f (nxt it (lst it i))<=_;unfold nxt;rw [wt_isort,wt_append,Nat.succ_mul];have:=wt_pairs f hf (lst it i);omega
theorem pairs_len (l:List Pk):(pairs l).length=l.length / 2:=by unfold pairs pairsTo; simp
theorem lst_len (it:List Pk) (i:Nat):(lst it (i+1)).length=it.length+(lst it i).length / 2:=by
 show(nxt it (lst it i)).length=_;unfold nxt;rw [SS.len_isort,List.length_append,pairs_len]
theorem lst_le (it:List Pk) (i:Nat):(lst it i).length<=2 * it.length:=by
 induction i with
 | zero=>show it.length<=_; omega
 | succ i ih=>rw [lst_len]; omega
theorem lst_gap (it:List Pk) (i:Nat) (e:Nat) (h:it.length<=2 ^ (i+e)):2 * it.length<=(lst it i).length+2 ^ e:=by
 induction i generalizing e with
 | zero=>show 2 * it.length<=it.length+_; rw [Nat.zero_add] at h; omega
 | succ i ih =>
  have a:=ih (e+1) (by rw [show i+(e+1)=i+1+e by omega]; exact h);rw [lst_len];rw [Nat.pow_succ] at a;omega
theorem lst_enough (it:List Pk) (m:Nat) (hm:1<=m) (h:it.length<=2 ^ m):2 * it.length - 2<=(lst it (m - 1)).length:=by
 have:=lst_gap it (m - 1) 1 (by rw [show m - 1+1=m by omega]; exact h);omega
theorem lst_mem (P:Pk->Prop) (hc:∀a b,P a->P b->P (comb a b)) (it:List Pk) (hi:∀p ∈ it,P p) (i:Nat):∀p ∈ lst it i,P p:=by
 induction i with
 | zero=>exact hi
 | succ i ih =>
  intro p c;have c:p ∈ SS.isort keyP (it++pairs (lst it i)):=c;rcases List.mem_append.1 (SS.mem_isort.1 c) with c | c
  ·exact hi p c
  ·unfold pairs pairsTo at c;obtain⟨j,d,rfl⟩:=List.mem_map.1 c;have d:=List.mem_range.1 d;refine hc _ _ (ih _ ?_) (ih _ ?_)
   ·rw [List.getD_eq_getElem?_getD,List.getElem?_eq_getElem (show 2 * j<_ by omega)]; exact List.getElem_mem _
   ·rw [List.getD_eq_getElem?_getD,List.getElem?_eq_getElem (show 2 * j+1<_ by omega)]; exact List.getElem_mem _
def sorted (cs:List Nat):List Pk:=SS.isort keyP (items cs)
def flat (cs:List Nat) (m:Nat):List Nat:=if (items cs).length<2 then (items cs).flatMap Prod.snd else ((lst (sorted cs) (m - 1)).take (2 * (items cs).length - 2)).flatMap Prod.snd
def lens (cs:List Nat) (m:Nat):List Nat:=(List.range cs.length).map fun i=>(flat cs m).count i
theorem lens_len (cs:List Nat) (m:Nat):(lens cs m).length=cs.length:=by simp [lens]
def may (l:List Int) (m:Int):Bool:=decide (l.length<=1024) && (decide (1<=m/\m<=15) && (l.all (fun n=>decide (0<=n/\n<=4294967296)) && decide ((items (l.map Int.toNat)).length<=2 ^ m.toNat)))
end PL
def All2 {α β:Type} (R:α->β->Prop):List α->List β->Prop
 | [],[]=>True
 | a::us,b::vs=>R a b/\All2 R us vs
 | _,_=>False
section
variable {α β:Type} {R:α->β->Prop}
theorem All2.len:∀ {us:List α} {vs:List β},All2 R us vs->us.length=vs.length
 | [],[],_=>rfl
 | a::us,b::vs,h=>by rw [List.length_cons,List.length_cons,All2.len h.2]
theorem All2.get (d:α) (e:β):∀ {us:List α} {vs:List β},All2 R us vs->∀i,i<us.length->R (us.getD i d) (vs.getD i e)
 | [],[],_,i,h=>by simp at h
 | a::us,b::vs,h,0,_=>h.1
 | a::us,b::vs,h,i+1,hi=>All2.get d e h.2 i (by simpa using hi)
theorem All2.append:∀ {us:List α} {vs:List β} {cs:List α} {ds:List β},All2 R us vs->All2 R cs ds->All2 R (us++cs) (vs++ds)
 | [],[],_,_,_,h=>h
 | a::us,b::vs,_,_,h,k=>⟨h.1,All2.append h.2 k⟩
theorem All2.snoc {us:List α} {vs:List β} {a:α} {b:β} (h:All2 R us vs) (k:R a b):All2 R (us++[a]) (vs++[b]):=h.append ⟨k,trivial⟩
theorem All2.mono {R' : α->β->Prop} (hR:∀a b,R a b->R' a b):∀ {us:List α} {vs:List β},All2 R us vs->All2 R' us vs
 | [],[],_=>trivial
 | a::us,b::vs,h=>⟨hR _ _ h.1,All2.mono hR h.2⟩
theorem All2.put {ka:α->Int} {kb:β->Int} (hk:∀a b,R a b->ka a=kb b):∀ {us:List α} {vs:List β} {a:α} {b:β},All2 R us vs->R a b->All2 R (SS.put ka us a) (SS.put kb vs b)
 | [],[],_,_,_,h=>⟨h,trivial⟩
 | x::us,y::vs,a,b,h,k=>by
  unfold SS.put;rw [hk _ _ h.1,hk _ _ k];split
  ·exact⟨h.1,All2.put hk h.2 k⟩
  ·exact⟨k,h⟩
theorem All2.mrg {ka:α->Int} {kb:β->Int} (hk:∀a b,R a b->ka a=kb b):∀ {cs:List α} {ds:List β} {us:List α} {vs:List β},All2 R us vs->All2 R cs ds->All2 R (SS.mrg ka us cs) (SS.mrg kb vs ds)
 | [],[],_,_,h,_=>h
 | c::cs,d::ds,_,_,h,k=>by
  show All2 R (SS.mrg ka (SS.put ka _ c) cs) (SS.mrg kb (SS.put kb _ d) ds);exact All2.mrg hk (h.put hk k.1) k.2
theorem All2.isort {ka:α->Int} {kb:β->Int} (hk:∀a b,R a b->ka a=kb b) {us:List α} {vs:List β} (h:All2 R us vs):All2 R (SS.isort ka us) (SS.isort kb vs):=All2.mrg hk (show All2 R [] [] from trivial) h
end
def EncL (F:PoolT) (ts:List PL.Pk) (xs:List PK):Prop:=All2 (fun t x=>Enc F t.1 t.2 x) ts xs
theorem EncL.isort {F:PoolT} {ts:List PL.Pk} {xs:List PK} (h:EncL F ts xs):EncL F (SS.isort PL.keyP ts) (SS.isort keyK xs):=All2.isort (fun _ _ h=>by show _=PK.c _; rw [h.count]; rfl) h
theorem EncL.mono {F F' : PoolT} {ts:List PL.Pk} {xs:List PK} (h:EncL F ts xs) (k:∀e ∈ F,e ∈ F'):EncL F' ts xs:=All2.mono (fun _ _ h=>Enc.mono h k) h
def leafs (cs:List Nat) (k:Nat):List PK:=(PL.itemsTo cs k).map fun p=>⟨(p.1:Int),((p.2.getD 0 0:Nat):Int),none⟩
theorem YU (cs:List Nat) (k:Nat):(leafs cs k).length=(PL.itemsTo cs k).length:=by simp [leafs]
theorem XE (cs:List Nat) (k:Nat):leafs cs (k+1)=if 0<cs.getD k 0 then leafs cs k++[⟨((cs.getD k 0:Nat):Int),(k:Int),none⟩] else leafs cs k:=by
 unfold leafs;rw [PL.itemsTo_succ];split
 ·rw [List.map_append]; rfl
 ·rfl
theorem X4 (F:PoolT) (cs:List Nat) (k:Nat):EncL F (PL.itemsTo cs k) (leafs cs k):=by
 have h:∀l:List PL.Pk,(∀p ∈ l,p.2.length=1)->EncL F l (l.map fun p=>⟨(p.1:Int),((p.2.getD 0 0:Nat):Int),none⟩):=by
  intro l;induction l with
  | nil=>intro _; trivial
  | cons p l ih =>
   intro a;refine⟨?_,ih fun q hq=>a q (List.mem_cons_of_mem _ hq)⟩;obtain⟨c,s⟩:=p;obtain⟨x,rfl⟩:=List.length_eq_one_iff.1 (a (c,s) (List.mem_cons_self ..));exact .leaf c x
 exact h _ fun p a=>(PL.itemsTo_mem cs k p a).2.1
open Go.RowKit
theorem X5 (A:Option Addr) (n c:Nat) (l:List Int) (H:Sp w0 L w) (hn:n=l.length) (hb:Ent L fun w=>Rd w A (cells64 l)) (hl:n<=1000000000) (hm:PH.may l=false) :
  Calls Tryd.prog 92 #[.slice A n c] w fun e w'=>e=.returned (.tuple #[.int .i64 0,.int .i64 1])/\Sp w0 L w':=by
 have a:=XV A n c l H hn hb hl;rw [hm] at a;clear hn hb hm;go_enter Tryd.func92,Tryd.ntmps92
 go_wp2_with fail
 refine a.mono ?_;rintro _ d ⟨rfl,b⟩;clear a;go_wp2_with fail
 go_ret2;exact⟨rfl,b⟩
def cntU (f:Nat->Nat):List Value:=(List.range 17).map fun i=>.int .u32 (f i:Int)
theorem ZL (f:Nat->Nat) (i:Nat) (h:i<17):(cntU f)[i]?=some (.int .u32 (f i:Int)):=by
 unfold cntU;rw [List.getElem?_map,List.getElem?_range h];rfl
theorem Xp (f:Nat->Nat) (x v:Nat):(cntU f).set x (.int .u32 v)=cntU fun i=>if i=x then v else f i:=by
 apply List.ext_getElem?;intro i;rw [List.getElem?_set];by_cases h:i<17
 ·rw [ZL _ _ h,ZL _ _ h];by_cases e:x=i
  ·subst e;rw [if_pos rfl,if_pos (by simp [cntU]; exact h),if_pos rfl]
  ·rw [if_neg e,if_neg (fun h=>e h.symm)]
 ·have a:(cntU f)[i]?=none:=List.getElem?_eq_none (by simp [cntU]; omega);have b:(cntU fun i=>if i=x then v else f i)[i]?=none:=List.getElem?_eq_none (by simp [cntU]; omega);rw [a,b];split
  ·rw [if_neg (by simp [cntU]; omega)]
  ·rfl
theorem Xq (f:Nat->Nat):∀v ∈ cntU f,v.oneCell'=true:=by
 intro v a;obtain⟨i,_,rfl⟩:=List.mem_map.1 a;rfl
theorem X6 (m:List Nat) (H:Sp w0 L w) (hs:PH.sum m<=32768) (hl:m.length<=1024) :
  Calls Tryd.prog 93 #[tallyV m] w fun e w'=>e=.returned (.agg (cntU (PH.fst m)).toArray)/\Sp w0 L w':=by
 have Z:∀k,k<=16->PH.fst m k<=65536:=fun k hk=>PH.fst_le m k hk hs;have HF:=hid Z;clear Z;obtain⟨t,V⟩:=exq (Value.agg (cntU (PH.fst m)).toArray);rw [V];have HT:=hid V;clear V;have y:(w.alloc (.cells (cntV (PH.tal m)).toArray 180)).heap.size=w.heap.size+1:=Array.size_push _;have I:((w.alloc (.cells (cntV (PH.tal m)).toArray 180)).alloc (.cells #[.int .u32 0,.int .u32 0,.int .u32 0,.int .u32 0,.int .u32 0,.int .u32 0,.int .u32 0,.int .u32 0,.int .u32 0,.int .u32 0,.int .u32 0,.int .u32 0,.int .u32 0,.int .u32 0,.int .u32 0,.int .u32 0,.int .u32 0] 178)).heap.size=w.heap.size+1+1:=by
  rw [<- y]; exact Array.size_push _
 have F:=((H.newBk (cntV (PH.tal m)) 180).newBk [.int .u32 0,.int .u32 0,.int .u32 0,.int .u32 0,.int .u32 0,.int .u32 0,.int .u32 0,.int .u32 0,.int .u32 0,.int .u32 0,.int .u32 0,.int .u32 0,.int .u32 0,.int .u32 0,.int .u32 0,.int .u32 0,.int .u32 0] 178).newBk [.int .u32 0,.int .u32 0,.int .u32 0,.int .u32 0,.int .u32 0,.int .u32 0,.int .u32 0,.int .u32 0,.int .u32 0,.int .u32 0,.int .u32 0,.int .u32 0,.int .u32 0,.int .u32 0,.int .u32 0,.int .u32 0,.int .u32 0] 178;rw [I,y] at F;clear y I;unfold tallyV;go_enter Tryd.func93,Tryd.ntmps93
 go_wp2_with fail
 generalize w.heap.size+1+1=g3 at F ⊢;generalize w.heap.size+1=g2 at F ⊢;generalize w.heap.size=g1 at F ⊢;generalize ((w.alloc _).alloc _).alloc _=w1 at F ⊢;obtain⟨B,C⟩:∃G:Addr,(⟨g3,0,none⟩:Addr)=G:=⟨_,rfl⟩;obtain⟨S,D⟩:∃G:Addr,(⟨g1,0,none⟩:Addr)=G:=⟨_,rfl⟩;rw [C,D];have o:=hid C;have J:=hid D;clear C D;go_loopw [4] (fun iv wr=>∃i:Nat,iv=.int .i64 i/\1<=i/\i<=16/\Sp w0 (Bk g3 178 (cntU (fun k=>if k<=i then PH.fst m k else 0))::Bk g2 178 [.int .u32 0,.int .u32 0,.int .u32 0,.int .u32 0,.int .u32 0,.int .u32 0,.int .u32 0,.int .u32 0,.int .u32 0,.int .u32 0,.int .u32 0,.int .u32 0,.int .u32 0,.int .u32 0,.int .u32 0,.int .u32 0,.int .u32 0]::Bk g1 180 (cntV (PH.tal m))::L) wr) (fun iv _=>16 - (intOf iv).toNat)
 case atStart =>
  refine⟨1,rfl,Nat.le_refl _,by omega,?_⟩;have e:cntU (fun k=>if k<=1 then PH.fst m k else 0)=[.int .u32 0,.int .u32 0,.int .u32 0,.int .u32 0,.int .u32 0,.int .u32 0,.int .u32 0,.int .u32 0,.int .u32 0,.int .u32 0,.int .u32 0,.int .u32 0,.int .u32 0,.int .u32 0,.int .u32 0,.int .u32 0,.int .u32 0]:=rfl;rw [e]; exact F
 case round =>
  obtain⟨i,rfl,a0,a1,M⟩:=hrel;by_cases a2:i<=15
  ·have k1:(i:Int)<=15:=by omega
   obtain⟨l,q⟩:=exq (i+1);have y1:(i:Int)+1=(l:Int):=by omega
   obtain⟨a,T⟩:=exq (PH.fst m i);obtain⟨b,U⟩:=exq (PH.tal m i);obtain⟨s,N⟩:=exq (a+b);obtain⟨nv,hv⟩:=exq (s * 2);have a3:a<=65536:=by rw [<- T]; exact HF.out i (by omega)
   have a4:b<=1024:=by rw [<- U]; exact Nat.le_trans (PH.tal_le m i) hl
   have O:PH.fst m l=nv:=by
    obtain⟨j,rfl⟩:∃j,i=j+1:=⟨i - 1,by omega⟩;rw [<- q,<- hv,<- N,<- T,<- U]; rfl
   have y2:(a:Int)+(b:Int)=(s:Int):=by omega
   have y3:(s:Int) * 2=(nv:Int):=by omega
   have HA:=hid T;have W:=hid U;have HV:=hid O;have a5:l<17:=by omega
   have y4:(i:Int)<17:=by omega
   have y5:(i:Int)<16:=by omega
   have y6:(l:Int)<17:=by omega
   have a6:s<=100000:=by omega
   clear T U N hv O;go_wp2_with fail
   refine wp_region_sc (L:=Bk g2 178 [.int .u32 0,.int .u32 0,.int .u32 0,.int .u32 0,.int .u32 0,.int .u32 0,.int .u32 0,.int .u32 0,.int .u32 0,.int .u32 0,.int .u32 0,.int .u32 0,.int .u32 0,.int .u32 0,.int .u32 0,.int .u32 0,.int .u32 0]::Bk g1 180 (cntV (PH.tal m))::L) [some (.int .i64 i),some (.int .i64 l),some (.int .i64 i),some (.pointer (some (B.add i))),some (.int .u32 a),some (.int .i64 i),some (.pointer (some (S.add i))),some (.int .i64 b),some (.int .u32 b),some (.int .u32 s),some (.int .u32 nv),some (.pointer (some (B.add l))),none] (fun _ _=>True) (fun ix vx=>match ix with | 12=>(fun _=>[Bk g3 178 (cntU (fun k=>if k<=i+1 then PH.fst m k else 0))]) vx | _=>[]) (fun ix=>match ix with | 12=>[Bk g3 178 (cntU (fun k=>if k<=i then PH.fst m k else 0))] | _=>[]) 13 22
    [some 9,some 10,some 11,some 12,some 13,some 14,some 15,some 16,some 17,some 18,some 19,some 20,none]
    [[],[0],[],[2],[3],[],[5],[6],[7],[4,8],[9],[1,0,1,2,3,4,5,6,7,8,9,10],[11,10,0,1,2,3,4,5,6,7,8,9,10]]
    [[],[0],[],[2],[2,3],[],[5],[5,6],[5,6,7],[2,3,4,5,6,7,8],[2,3,4,5,6,7,8,9],[0,1,2,3,4,5,6,7,8,9,10],[0,1,2,3,4,5,6,7,8,9,10,11]]
    [[],[],[],[],[],[],[],[],[],[],[],[],[]] [[],[],[],[],[12],[],[],[],[],[],[],[],[]] [(1,.pointer (some S)),(3,.pointer (some B)),(4,.int .i64 i)]
    (by kernel_rfl) rfl (by decide) (by rfl) (by decide +kernel) rfl rfl (by simp) (M) ?hstep ?hend
   case hstep =>
    refine⟨?p0,⟨?p1,⟨?p2,⟨?p3,⟨?p4,⟨?p5,⟨?p6,⟨?p7,⟨?p8,⟨?p9,⟨?p10,⟨?p11,⟨?p12,trivial⟩⟩⟩⟩⟩⟩⟩⟩⟩⟩⟩⟩⟩
    case p0 | p1 | p2 | p3 | p5 | p6 | p8 | p9 | p10 | p11 =>
     intro x wx A d g r n E H K p;replace p:=hid p;clear n E g;repeat (obtain⟨_,r⟩:=r)
     refine so ?_;go_step;exact p.out _ _ rfl H
    case p4 =>
     intro x wx A d g r n E H K f;have a7:=tq n 3;replace H:Sp w0 (_::d) wx:=H;have p:=hid f;clear f r n E g;have c:wx.cell? (B.add i)=some (.int .u32 a):=by
      rw [<- o.out,addr0,H.cell 0 rfl i,ZL _ _ (by omega),if_pos (Nat.le_refl _),HA.out]
     refine so ?_;go_step;exact p.out _ _ rfl H
    case p7 =>
     intro x wx A d g r n E H K f;have a8:=tq n 6;have p:=hid f;clear f r n g;have c:wx.cell? (S.add i)=some (.int .i64 b):=E (fun w=>w.cell? (S.add i)=some (.int .i64 b)) (fun _ _ H=>by show World.cell? _ _=_; rw [<- J.out,addr0,H.cell 1 rfl i,ZB _ _ (by omega),W.out]) _ _ H;refine so ?_;go_step;exact p.out _ _ rfl H
    case p12 =>
     intro x wx A d g r n E H K f;have a9:=tq n 11;have b0:=tq n 10;replace H:Sp w0 (_::d) wx:=H;have p:Hid (∀(v:Value) (w' : World),True->Sp w0 ((Bk g3 178 (cntU (fun k=>if k<=i+1 then PH.fst m k else 0)))::d) w'->K (A.put none v) w'):=hid f;clear f r n E g;have c:wx.cell? (B.add l)=some (.int .u32 0):=by
      rw [<- o.out,addr0,H.cell 0 rfl l,ZL _ _ (by omega),if_neg (by omega)]; rfl
     have z:wx.frozen? (B.add l)=false:=by
      rw [<- o.out,addr0]; exact H.frozen 0 rfl l
     have u:Sp w0 (Bk g3 178 (cntU (fun k=>if k<=i+1 then PH.fst m k else 0))::d) (wx.setCell (B.add l) (.int .u32 nv)):=by
      have h:=H.set l (.int .u32 nv);rw [Xp] at h;rw [<- o.out,addr0];have e:(fun k=>if k<=i+1 then PH.fst m k else 0)=fun k=>if k=l then nv else if k<=i then PH.fst m k else 0:=by
       funext k;by_cases X:k=l
       ·rw [if_pos X,if_pos (by omega),X]; exact HV.out
       ·rw [if_neg X];by_cases e2:k<=i
        ·rw [if_pos e2,if_pos (by omega)]
        ·rw [if_neg e2,if_neg (by omega)]
      rw [e]; exact h
     have HS:=hid u;clear u;refine so ?_;go_step;exact p.out undef _ trivial HS.out
   case hend =>
    intro x wx A hA n H;replace H:Sp w0 (_::_::_::L) wx:=H;clear n;simp only [putAll,Act.put,List.setIfInBounds_toArray,List.set_cons_succ,List.set_cons_zero,Nat.reduceAdd] at hA;subst hA;go_wp2;go_roundw
    case rel=>exact⟨i+1,by first | go_num | (rw [<- q]; rfl) | rfl,by omega,by omega,H⟩
    case measure=>first | (simp [intOf]; omega) | simp [intOf]
  ·have k1:¬ (i:Int)<=15:=by omega
   obtain rfl:i=16:=by omega
   have e:cntU (fun k=>if k<=16 then PH.fst m k else 0)=cntU (PH.fst m):=by
    unfold cntU;refine List.map_congr_left fun k hk=>?_;show Value.int .u32 (((if k<=16 then PH.fst m k else 0:Nat)):Int)=_;rw [if_pos (by have:=List.mem_range.1 hk; omega)]
   rw [e] at M;have HH:=hid M;have Q:=M.swap;have Y:=hid Q;clear Q M;obtain rfl:=o.out;obtain rfl:=J.out;go_wp2_with (first | (refine Zk rfl 178 _ rfl g3 178 (cntU (PH.fst m)) rfl (HH.out.blk 0 rfl) Tryd.isAgg178 Tryd.sizeOf178 ?_) | (refine Za rfl 178 _ _ rfl g2 178 _ (cntU (PH.fst m)) rfl rfl Y.out rfl Tryd.sizeOf178 (Xq _) ?_))
   intro w9 H9;go_wp2_with fail
   have R:=run_loadCells_list (P:=Tryd.prog) w9 ⟨g2,0,none⟩ (cntU (PH.fst m)) (fun j v hj=>by rw [addr0,H9.cell 0 rfl]; exact hj);rw [show(cntU (PH.fst m)).length=17 from rfl] at R;refine bodyPost_ret (v:=.agg (cntU (PH.fst m)).toArray) (by simp [results,Tryd.results93,Tryd.isAgg178,Tryd.sizeOf178,R,Result.andThen,asAddr,loadVar]) rfl ?_;exact⟨by rw [HT.out],H9.pick 3 []⟩
theorem infoU:(Tryd.prog.info? 47).map (fun i=>(i.zero,i.size,i.bytes))=some (some (.int .u32 0),1,4):=by kernel_rfl
def rowU (f:Nat->Nat) (n:Nat):List Value:=(List.range n).map fun i=>.int .u32 (f i:Int)
theorem Zp (f:Nat->Nat) (n i:Nat) (h:i<n):(rowU f n)[i]?=some (.int .u32 (f i:Int)):=by
 unfold rowU;rw [List.getElem?_map,List.getElem?_range h];rfl
theorem Xr (f:Nat->Nat) (n x v:Nat):(rowU f n).set x (.int .u32 v)=rowU (fun i=>if i=x then v else f i) n:=by
 apply List.ext_getElem?;intro i;rw [List.getElem?_set];by_cases h:i<n
 ·rw [Zp _ _ _ h,Zp _ _ _ h];by_cases e:x=i
  ·subst e;rw [if_pos rfl,if_pos (by simp [rowU]; exact h),if_pos rfl]
  ·rw [if_neg e,if_neg (fun h=>e h.symm)]
 ·have a:(rowU f n)[i]?=none:=List.getElem?_eq_none (by simp [rowU]; omega);have b:(rowU (fun i=>if i=x then v else f i) n)[i]?=none:=List.getElem?_eq_none (by simp [rowU]; omega);rw [a,b];split
  ·rw [if_neg (by simp [rowU]; omega)]
  ·rfl
theorem YV (n:Nat):List.replicate n (Value.int .u32 0)=rowU (fun _=>0) n:=by
 apply List.ext_getElem?;intro i;by_cases h:i<n
 ·rw [Zp _ _ _ h,List.getElem?_replicate,if_pos h]; rfl
 ·rw [List.getElem?_eq_none (by simp; omega),List.getElem?_eq_none (by simp [rowU]; omega)]
theorem WG (A:Option Addr) (n c:Nat) (m:List Nat) (H:Sp w0 L w) (hn:n=m.length) (hb:Ent L fun w=>Rd w A (cells64 (castI m))) (hl:n<=1024) (h15:∀x ∈ m,x<=15) (hs:PH.sum m<=32768) :
  Calls Tryd.prog 59 #[.slice A n c] w fun e w'=>∃v,e=.returned (.tuple #[v,.int .i64 0])/\Sp w0 (Row 47 1 v n (rowU (PH.codeAt m) n)::L) w':=by
 obtain⟨i0,O,P,Q,R⟩:=info_parts infoU;have p:=Xm A n c m H hn hb hl h15;have S:((PH.state m) == 1)=false:=by
  rw [beq_eq_false_iff_ne];unfold PH.state;split
  ·omega
  ·rw [if_neg (by omega)]; omega
 obtain⟨st,g⟩:=exq (PH.state m);rw [g] at p S;clear g;have T:=hid hn;have U:=hid hb;have B:=hid h15;have HS:=hid hs;have V:∀k,k<=16->PH.fst m k<=65536:=fun k hk=>PH.fst_le m k hk hs;have HF:=hid V;clear hn hb h15 hs V;go_enter Tryd.func59,Tryd.ntmps59
 go_wp2_with fail
 refine p.mono ?_;rintro _ w1 ⟨rfl,W⟩;clear p;go_wp2_with fail
 refine(YI A n c m W T.out U.out (by omega) B.out).mono ?_;rintro _ w2 ⟨rfl,X⟩;go_wp2_with fail
 refine(X6 m X HS.out (by rw [<- T.out]; exact hl)).mono ?_;rintro _ Y ⟨rfl,Z⟩;have H4:=Z.newBk [.int .u32 0,.int .u32 0,.int .u32 0,.int .u32 0,.int .u32 0,.int .u32 0,.int .u32 0,.int .u32 0,.int .u32 0,.int .u32 0,.int .u32 0,.int .u32 0,.int .u32 0,.int .u32 0,.int .u32 0,.int .u32 0,.int .u32 0] 178;go_wp2_with (refine Za rfl 178 _ _ rfl Y.heap.size 178 _ (cntU (PH.fst m)) rfl rfl H4 rfl Tryd.sizeOf178 (Xq _) ?_)
 intro w4 H5;generalize Y.heap.size=g6 at H5 ⊢;clear W X Z H4 H;go_wp2_with (at_make; refine wpList_make_sp rfl _ _ _ rfl 47 i0 (.int .u32 0) Tryd.underlying88 O P Q rfl n rfl rfl (by rw [R]; omega) (by unfold maxLen; omega) H5 ?_)
 intro M w5 H6;rw [YV] at H6;obtain⟨N,r⟩:∃G:Addr,(⟨g6,0,none⟩:Addr)=G:=⟨_,rfl⟩;rw [r];have b:=hid r;clear r;go_wp2_with fail
 go_loopw [30] (fun iv wr=>∃k:Nat,iv=.int .i64 k/\k<=n/\Sp w0 (Row 47 1 (.slice (some M) n n) n (rowU (fun j=>if j<k then PH.codeAt m j else 0) n)::Bk g6 178 (cntU (fun i=>PH.fst m i+if i=0 then 0 else (m.take k).count i))::L) wr) (fun iv _=>n - (intOf iv).toNat)
 case atStart =>
  refine⟨0,rfl,Nat.zero_le _,?_⟩;have s:(fun i=>PH.fst m i+if i=0 then 0 else (m.take 0).count i)=PH.fst m:=by
   funext i;simp
  have d:(fun j=>if j<0 then PH.codeAt m j else 0)=fun _=>0:=by
   funext j;rw [if_neg (Nat.not_lt_zero _)]
  rw [s,d];exact H6
 case round =>
  obtain⟨k,rfl,hk,l⟩:=hrel;by_cases t:k<n
  ·have k1:(k:Int)<(n:Int):=by omega
   have f:k<m.length:=by rw [<- T.out]; exact t
   obtain⟨al,rfl,hc⟩:=(U.out _ _ (l.pick 2 [])).at64 (k:=k) (by simpa [castI] using f);obtain⟨x,C⟩:=exq (m[k]);have a0:x<=15:=by rw [<- C]; exact B.out _ (List.getElem_mem f)
   replace hc:wr.cell? (al.add k)=some (.int .i64 x):=by
    rw [hc];simp [castI,C]
   have D:m.getD k 0=x:=by rw [List.getD_eq_getElem?_getD,List.getElem?_eq_getElem f,C]; rfl
   have E:∀i,(m.take (k+1)).count i=(m.take k).count i+if i=x then 1 else 0:=fun i=>by
    rw [List.take_succ_eq_append_getElem f,List.count_append,C,List.count_singleton];by_cases e:i=x
    ·subst e; simp
    ·rw [if_neg e,if_neg (by simpa using fun h=>e h.symm)]
   have F:=hid D;have I:=hid E;clear D E C;by_cases a1:0<x
   ·have k2:(0:Int)<(x:Int):=by omega
    obtain⟨q,z⟩:=exq (PH.fst m x+(m.take k).count x);have a2:q<=70000:=by
     rw [<- z];have h1:=HF.out x (by omega);have h2:(m.take k).count x<=1024:=Nat.le_trans List.count_le_length (by rw [List.length_take]; omega);omega
    have k3:(x:Int)<17:=by omega
    have a:PH.codeAt m k=q:=by
     unfold PH.codeAt;rw [F.out,if_neg (by omega),z]
    have c6:wr.cell? (N.add x)=some (.int .u32 q):=by
     rw [<- b.out,addr0,l.cell 1 rfl x,ZL _ _ (by omega),if_neg (by omega),z]
    obtain⟨a3,c2,ev,_,u,a4,o⟩:=l.rowSet t;injection ev with ev
    injection ev with ev
    subst ev;rw [Zp _ _ _ t,if_neg (Nat.lt_irrefl _)] at u;replace u:wr.cell? (M.add k)=some (.int .u32 0):=u;have J:=o (.int .u32 q);rw [Xr] at J;have d6:(wr.setCell (M.add k) (.int .u32 q)).cell? (N.add x)=some (.int .u32 q):=by
     rw [<- b.out,addr0,J.cell 1 rfl x,ZL _ _ (by omega),if_neg (by omega),z]
    have e6:(wr.setCell (M.add k) (.int .u32 q)).frozen? (N.add x)=false:=by
     rw [<- b.out,addr0];exact J.frozen 1 rfl x
    have K:=(J.swap.set x (.int .u32 ((q+1:Nat):Int))).swap;rw [Xp] at K;have s:(fun i=>if i=x then q+1 else PH.fst m i+if i=0 then 0 else (m.take k).count i)=fun i=>PH.fst m i+if i=0 then 0 else (m.take (k+1)).count i:=by
     funext i;rw [I.out];by_cases e:i=x
     ·subst e;rw [if_pos rfl,if_neg (by omega),if_pos rfl,<- z]; omega
     ·rw [if_neg e,if_neg e,Nat.add_zero]
    have d:(fun i=>if i=k then q else if i<k then PH.codeAt m i else 0)=fun i=>if i<k+1 then PH.codeAt m i else 0:=by
     funext i;by_cases e:i=k
     ·subst e;rw [if_pos rfl,if_pos (by omega),a]
     ·rw [if_neg e];by_cases h:i<k
      ·rw [if_pos h,if_pos (by omega)]
      ·rw [if_neg h,if_neg (by omega)]
    rw [s,d] at K;have eg:(⟨g6,x,none⟩:Addr)=N.add x:=by rw [<- b.out,addr0]
    rw [eg] at K;have y:=hid K;clear K J o s d eg a z;go_wp2_with fail
    go_roundw
    case rel=>exact⟨k+1,by go_num,by omega,y.out⟩
    case measure=>first | (simp [intOf]; omega) | simp [intOf]
   ·have k2:¬ (0:Int)<(x:Int):=by omega
    obtain rfl:x=0:=by omega
    have s:(fun i=>PH.fst m i+if i=0 then 0 else (m.take k).count i)=fun i=>PH.fst m i+if i=0 then 0 else (m.take (k+1)).count i:=by
     funext i;rw [I.out];by_cases e:i=0
     ·rw [if_pos e,if_pos e]
     ·rw [if_neg e,if_neg e,if_neg e,Nat.add_zero]
    have d:(fun i=>if i<k then PH.codeAt m i else 0)=fun i=>if i<k+1 then PH.codeAt m i else 0:=by
     funext i;by_cases e:i=k
     ·subst e;rw [if_neg (Nat.lt_irrefl _),if_pos (by omega)];unfold PH.codeAt;rw [F.out,if_pos rfl]
     ·by_cases h:i<k
      ·rw [if_pos h,if_pos (by omega)]
      ·rw [if_neg h,if_neg (by omega)]
    rw [s,d] at l;have y:=hid l;clear l s d;go_wp2_with fail
    go_roundw
    case rel=>exact⟨k+1,by go_num,by omega,y.out⟩
    case measure=>first | (simp [intOf]; omega) | simp [intOf]
  ·have k1:¬ (k:Int)<(n:Int):=by omega
   obtain rfl:k=n:=by omega
   have d:rowU (fun j=>if j<k then PH.codeAt m j else 0) k=rowU (PH.codeAt m) k:=by
    unfold rowU;refine List.map_congr_left fun j hj=>?_;show Value.int .u32 ((if j<k then PH.codeAt m j else 0:Nat):Int)=_;rw [if_pos (List.mem_range.1 hj)]
   rw [d] at l;go_wp2_with fail
   go_ret2;exact⟨_,rfl,l.pick 2 [0]⟩
end Go.Proofs.YteajimobgkempaaDoor

