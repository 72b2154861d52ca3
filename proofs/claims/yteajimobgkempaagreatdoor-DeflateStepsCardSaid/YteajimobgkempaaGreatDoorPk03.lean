/- A pack. -/
import Derived.Lib.MakeNoZero
import Derived.Lib.SlBuf
import Derived.Shelf.Bits.Mul64
import Derived.StillTailTactics
import Derived.Test.YteajimobgkempaaGreatDoorProg
import Derived.Test.YteajimobgkempaaGreatDoorPk02
set_option linter.all false
set_option maxRecDepth 100000
set_option maxHeartbeats 8000000
namespace Go.Proofs.YteajimobgkempaaGreatDoor
variable {w0 w:World} {L:List Pr}
open Go.RowKit
section
variable {P:Program} {Q:Exit->Act->World->Prop}
theorem putAll_defers (x:Nat->Value):∀(ds:List (Option Tmp)) (k:Nat) (a:Act),(putAll a ds k x).defers=a.defers
 | [],_,_=>rfl
 | d::ds,k,a=>by
  unfold putAll;rw [putAll_defers x ds (k+1) _];cases d <;> rfl
def freeAt4 (ds:List (Option Tmp)) (anc:List (List Nat)) (i t:Nat):Bool:=(List.range ds.length).all fun j=>if ds.getD j none=some t then (anc.getD j []).contains i else true
def StepsSr (P:Program) (Q:Exit->Act->World->Prop) (S:Nat->Value->Prop) (R:Nat->Value->List Pr) (I:Nat->List Pr) (ds:List (Option Tmp)) (ac:List (List Nat)) (env:List (Nat × Value)) (w0:World) (L:List Pr):Nat->List Oper->List (List Nat)->List (List Nat)->List (List Nat)->Prop
 | i,o::os,an::ans,us::uss,se::ses=>(∀(x:Nat->Value) (w:World) (A:Act) (rest:List Pr),
   A.defers=[]->(∀p,p ∈ env->freeAt4 ds ac i p.1=true->A.tmps[p.1]?.getD undef=p.2)->(∀j,j ∈ an->S j (x j)/\∀t,ds.getD j none=some t->A.tmps[t]?.getD undef=x j)->(∀φ,Ent L φ->Ent rest φ) ->
   Sp w0 (I i++(us.flatMap (fun j=>R j (x j))++(se.flatMap I++rest))) w ->
   ∀K:Act->World->Prop,(∀v w',S i v->Sp w0 (R i v++(se.flatMap I++rest)) w'->K (A.put o.dst v) w') ->
   StepOb P Q o x A w K)/\StepsSr P Q S R I ds ac env w0 L (i+1) os ans uss ses
 | _,[],[],[],[]=>True
 | _,_,_,_,_=>False
theorem stepsSr_get {S:Nat->Value->Prop} {R:Nat->Value->List Pr} {I:Nat->List Pr} {ds:List (Option Tmp)} {ac:List (List Nat)} {env:List (Nat × Value)} {w0:World} :
  ∀(l:List Oper) (k i:Nat) (o:Oper) (ans uss ses:List (List Nat)),StepsSr P Q S R I ds ac env w0 L k l ans uss ses->l[i]?=some o ->
  ∀(x:Nat->Value) (w:World) (A:Act) (rest:List Pr),
   A.defers=[]->(∀p,p ∈ env->freeAt4 ds ac (k+i) p.1=true->A.tmps[p.1]?.getD undef=p.2)->(∀j,j ∈ ans.getD i []->S j (x j)/\∀t,ds.getD j none=some t->A.tmps[t]?.getD undef=x j)->(∀φ,Ent L φ->Ent rest φ) ->
   Sp w0 (I (k+i)++((uss.getD i []).flatMap (fun j=>R j (x j))++((ses.getD i []).flatMap I++rest))) w ->
   ∀K:Act->World->Prop,(∀v w',S (k+i) v->Sp w0 (R (k+i) v++((ses.getD i []).flatMap I++rest)) w'->K (A.put o.dst v) w') ->
   StepOb P Q o x A w K
 | [],_,_,_,_,_,_,_,h=>by simp at h
 | o::os,k,i,o',[],uss,ses,hs,h=>by simp [StepsSr] at hs
 | o::os,k,i,o',an::ans,[],ses,hs,h=>by simp [StepsSr] at hs
 | o::os,k,i,o',an::ans,us::uss,[],hs,h=>by simp [StepsSr] at hs
 | o::os,k,0,o',an::ans,us::uss,se::ses,hs,h=>by
  have:o=o':=by simpa using h
  subst this;exact hs.1
 | o::os,k,i+1,o',an::ans,us::uss,se::ses,hs,h=>by
  have:=stepsSr_get os (k+1) i o' ans uss ses hs.2 (by simpa using h);rw [show k+1+i=k+(i+1) by omega] at this;exact this
theorem wp_region_sr {rid:Nat} {l:List Oper} {a0:Act} {w w0:World} {L:List Pr}
    (S:Nat->Value->Prop) (R:Nat->Value->List Pr) (I:Nat->List Pr) (n sz:Nat)
    (ds:List (Option Tmp)) (pre anc use see:List (List Nat)) (env:List (Nat × Value)) (hm:P.follows .mixedOrders=true)
    (hds:l.map (·.dst)=ds) (hdist:Distinct ds)
    (hpre:(l.map fun o=>(o.after.toList.filter (Region.binds .any ·)).map (·.on))=pre)
    (hn:pre.length=n) (hanc:ancOk pre anc=true) (hflow:flowOk n anc use see=true) (hgu:guardsOk l ds anc=true) (hanl:anc.length=n)
    (hdv:a0.defers=[]) (hsz:a0.tmps.size=sz) (hlt:ds.all (fun d=>match d with | some t=>decide (t<sz) | none=>true)=true)
    (henv:∀p,p ∈ env->a0.tmps[p.1]?.getD undef=p.2)
    (H:Sp w0 ((List.range n).flatMap I++L) w)
    (hstep:StepsSr P Q S R I ds anc env w0 L 0 l anc use see)
    (hend:∀(x:Nat->Value) (w:World) (A:Act),A=putAll a0 ds 0 x->(∀i,i<n->S i (x i)) ->
      Sp w0 ((List.range n).flatMap (fun i=>if (List.range n).any (fun k=>(use.getD k []).contains i) then [] else R i (x i))++L) w->Q .normal A w) :
    (Code.region rid l.toArray true).wp P Q a0 w:=by
  have hdl:ds.length=l.length:=by rw [<- hds]; simp
  have hpl:pre.length=l.length:=by rw [<- hpre]; simp
  refine wp_region_sp0 S R I n ds pre anc use see hm hds hdist hpre hn hanc hflow H (fun i o ho x w A rest hA hS hu hE hH=>?_) hend
  have hil:i<l.length:=(List.getElem?_eq_some_iff.1 ho).1
  have hslot:∀j,j<n->∀t,ds.getD j none=some t->A.tmps[t]?=some (x j):=fun j hj t ht=>by
    have hj' : j<ds.length:=by omega
    rw [List.getD_eq_getElem?_getD,List.getElem?_eq_getElem hj'] at ht
    simp only [Option.getD_some] at ht
    have htl:=List.all_eq_true.1 hlt _ (List.getElem_mem hj')
    rw [ht] at htl
    replace htl:t<sz:=by simpa using htl
    rw [hA,putAll_eval x ds 0 j t a0 hdist (by rw [List.getElem?_eq_getElem hj',ht]) (Nat.lt_of_lt_of_eq htl hsz.symm),Nat.zero_add]
  have hanlt:∀j,j ∈ anc.getD i []->j<n:=fun j hj=>by
    have h:=List.all_eq_true.1 hanc i (by simp; omega)
    simp only [Bool.and_eq_true] at h
    have:=List.all_eq_true.1 h.2 j hj
    simp only [Bool.and_eq_true,decide_eq_true_eq] at this
    omega
  have hob:=stepsSr_get l 0 i o anc use see hstep ho x w A rest (by rw [hA,putAll_defers]; exact hdv) (fun p hp hfr=>by
      rw [Nat.zero_add] at hfr
      rw [<- henv p hp,hA]
      by_cases hm:some p.1 ∈ ds
      · obtain⟨j,hj,hjt⟩:=List.getElem_of_mem hm
        have hfj:=List.all_eq_true.1 hfr j (by simpa using hj)
        have hdj:ds.getD j none=some p.1:=by rw [List.getD_eq_getElem?_getD,List.getElem?_eq_getElem hj,hjt]; rfl
        rw [if_pos hdj] at hfj
        have hb:=hu j (by simpa using hfj)
        have hpt:p.1<a0.tmps.size:=by
          have htl:=List.all_eq_true.1 hlt _ (List.getElem_mem hj)
          rw [hjt] at htl
          replace htl:p.1<sz:=by simpa using htl
          omega
        rw [putAll_eval x ds 0 j p.1 a0 hdist (by rw [List.getElem?_eq_getElem hj,hjt]) hpt,Nat.zero_add,hb]
        unfold base
        rw [hdj]
        show(some (a0.tmps.getD p.1 undef)).getD undef=_
        rw [Array.getD_eq_getD_getElem?]; rfl
      · rw [putAll_eval_far x p.1 ds 0 a0 hm]) (fun j hj=>⟨hS j hj,fun t ht=>by rw [hslot j (hanlt j hj) t ht]; rfl⟩) hE (by rw [Nat.zero_add]; exact hH)
    (Gave w0 S R i A o.dst ((see.getD i []).flatMap I++rest)) (fun v w' h1 h2=>⟨v,rfl,by rwa [Nat.zero_add] at h1,by rwa [Nat.zero_add] at h2⟩)
  unfold StepOb at hob
  unfold wpList
  cases hg:o.guard with
  | none =>
    rw [hg] at hob
    have hw:Region.wanted o (yielded l.toArray A.tmps)=true:=by simp [Region.wanted,hg]
    rw [if_pos hw]
    refine .inl ?_
    refine Oper.wp_mono (fun a w h=>?_) (upon_exits' hob)
    exact h
  | some p =>
    obtain⟨j,b⟩:=p
    rw [hg] at hob
    obtain⟨c,hc,hob⟩:=hob
    have hg2:=List.all_eq_true.1 hgu (o,anc.getD i []) (by
      rw [List.mem_iff_getElem?]
      refine⟨i,?_⟩
      rw [List.getElem?_zip_eq_some]
      refine⟨ho,?_⟩
      rw [List.getD_eq_getElem?_getD,List.getElem?_eq_getElem (by omega)]; rfl)
    simp only [hg,Bool.and_eq_true,List.contains_iff_mem] at hg2
    obtain⟨hja,hjs⟩:=hg2
    have hjn:=hanlt j hja
    obtain⟨t,ht⟩:=Option.isSome_iff_exists.1 hjs
    have hy:yielded l.toArray A.tmps j=c:=by
      unfold yielded
      have hdj:(l.toArray[j]?).bind (·.dst)=some t:=by
        have hj' : j<ds.length:=by omega
        rw [List.getD_eq_getElem?_getD,List.getElem?_eq_getElem hj'] at ht
        simp only [Option.getD_some] at ht
        subst hds
        have hj2:j<l.length:=by simpa using hj'
        rw [List.getElem_map] at ht
        simp [hj2,ht]
      rw [hdj]
      simp only [Option.bind_some,hslot j hjn t ht]
      rw [<- hc]
      cases x j <;> rfl
    have hw:Region.wanted o (yielded l.toArray A.tmps)=(c == some b):=by simp [Region.wanted,hg,hy]
    rw [hw]
    by_cases hcb:c=some b
    · rw [if_pos hcb] at hob
      rw [if_pos (by simp [hcb])]
      exact .inl (upon_exits' hob)
    · rw [if_neg hcb] at hob
      rw [if_neg (by simpa using hcb)]
      exact hob
end
section
variable {P:Program} {Q:Exit->Act->World->Prop}
def Sc (vals:List (Option Value)) (Sx:Nat->Value->Prop) (i:Nat) (v:Value):Prop:=match vals.getD i none with
 | some u=>v=u
 | none=>Sx i v
def FactsE (A:Act) (ds:List (Option Tmp)) (ac:List (List Nat)) (i:Nat):List (Nat × Value)->Prop->Prop
 | [],p=>p
 | (t,v)::r,p=>match freeAt4 ds ac i t with
  | true=>A.tmps[t]?.getD undef=v/\FactsE A ds ac i r p
  | false=>FactsE A ds ac i r p
def FactsA (A:Act) (an:List Nat):List (Option Tmp)->List (Option Value)->Nat->Prop
 | some t::ds,some v::vs,k=>match an.contains k with
  | true=>A.tmps[t]?.getD undef=v/\FactsA A an ds vs (k+1)
  | false=>FactsA A an ds vs (k+1)
 | none::ds,_::vs,k=>FactsA A an ds vs (k+1)
 | some _::ds,none::vs,k=>FactsA A an ds vs (k+1)
 | _,_,_=>True
theorem Yr {A:Act} {ds:List (Option Tmp)} {ac:List (List Nat)} {i:Nat} : ∀(env:List (Nat × Value)) (p:Prop),p ->
  (∀q,q ∈ env->freeAt4 ds ac i q.1=true->A.tmps[q.1]?.getD undef=q.2)->FactsE A ds ac i env p
 | [],p,hp,_=>hp
 | (t,v)::r,p,hp,h=>by
  unfold FactsE;split
  ·rename_i hf
   exact⟨h (t,v) (List.mem_cons_self ..) hf,Yr r p hp fun q hq=>h q (List.mem_cons_of_mem _ hq)⟩
  ·exact Yr r p hp fun q hq=>h q (List.mem_cons_of_mem _ hq)
theorem ZT {A:Act} {an:List Nat} : ∀(ds:List (Option Tmp)) (vs:List (Option Value)) (k:Nat),
  (∀j t v,j ∈ an->k<=j->ds[j - k]?=some (some t)->vs[j - k]?=some (some v)->A.tmps[t]?.getD undef=v)->FactsA A an ds vs k
 | [],vs,k,_=>by unfold FactsA; trivial
 | none::ds,[],k,_=>by unfold FactsA; trivial
 | some t::ds,[],k,_=>by unfold FactsA; trivial
 | none::ds,v::vs,k,h=>by
  unfold FactsA;exact ZT ds vs (k+1) fun j t u hj hk h1 h2=>h j t u hj (by omega) (by rw [show j - k=(j - (k+1))+1 by omega]; simpa using h1) (by rw [show j - k=(j - (k+1))+1 by omega]; simpa using h2)
 | some t::ds,none::vs,k,h=>by
  unfold FactsA;exact ZT ds vs (k+1) fun j t u hj hk h1 h2=>h j t u hj (by omega) (by rw [show j - k=(j - (k+1))+1 by omega]; simpa using h1) (by rw [show j - k=(j - (k+1))+1 by omega]; simpa using h2)
 | some t::ds,some v::vs,k,h=>by
  have a:FactsA A an ds vs (k+1):=ZT ds vs (k+1) fun j t u hj hk h1 h2=>h j t u hj (by omega) (by rw [show j - k=(j - (k+1))+1 by omega]; simpa using h1) (by rw [show j - k=(j - (k+1))+1 by omega]; simpa using h2);unfold FactsA;split
  ·rename_i hf
   exact⟨h k t v (by simpa using hf) (Nat.le_refl _) (by simp) (by simp),a⟩
  ·exact a
theorem Za {A:Act} {ds:List (Option Tmp)} {ac:List (List Nat)} {i:Nat} : ∀ {env:List (Nat × Value)} {p:Prop},FactsE A ds ac i env p->∀q,q ∈ env->freeAt4 ds ac i q.1=true->A.tmps[q.1]?.getD undef=q.2
 | [],p,_,q,hq,_=>by cases hq
 | (t,v)::r,p,h,q,hq,hf=>by
  unfold FactsE at h;rcases List.mem_cons.1 hq with rfl | hq
  ·rw [hf] at h; exact h.1
  ·split at h
   ·exact Za h.2 q hq hf
   ·exact Za h q hq hf
def StepsSc (P:Program) (Q:Exit->Act->World->Prop) (vals:List (Option Value)) (Sx:Nat->Value->Prop) (R:Nat->Value->List Pr) (I:Nat->List Pr) (ds:List (Option Tmp)) (ac:List (List Nat)) (env:List (Nat × Value)) (w0:World) (L:List Pr):Nat->List Oper->List (List Nat)->List (List Nat)->List (List Nat)->Prop
 | i,o::os,an::ans,us::uss,se::ses=>(∀(x:Nat->Value) (w:World) (A:Act) (rest:List Pr),
   A.defers=[]->FactsE A ds ac i env (FactsA A an ds vals 0)->(∀j,j ∈ an->Sc vals Sx j (x j)/\∀t,ds.getD j none=some t->A.tmps[t]?.getD undef=x j)->(∀φ,Ent L φ->Ent rest φ) ->
   Sp w0 (I i++(us.flatMap (fun j=>R j (x j))++(se.flatMap I++rest))) w ->
   ∀K:Act->World->Prop,(∀v w',Sc vals Sx i v->Sp w0 (R i v++(se.flatMap I++rest)) w'->K (A.put o.dst v) w') ->
   StepOb P Q o x A w K)/\StepsSc P Q vals Sx R I ds ac env w0 L (i+1) os ans uss ses
 | _,[],[],[],[]=>True
 | _,_,_,_,_=>False
theorem YQ {vals:List (Option Value)} {Sx:Nat->Value->Prop} {R:Nat->Value->List Pr} {I:Nat->List Pr} {ds:List (Option Tmp)} {ac:List (List Nat)} {env:List (Nat × Value)} {w0:World} :
  ∀(i:Nat) (os:List Oper) (ans uss ses:List (List Nat)),StepsSc P Q vals Sx R I ds ac env w0 L i os ans uss ses->StepsSr P Q (Sc vals Sx) R I ds ac env w0 L i os ans uss ses
 | i,[],[],[],[],h=>trivial
 | i,o::os,an::ans,us::uss,se::ses,h=>by
  refine⟨fun x w A rest hd hN hS hE H K hK=>h.1 x w A rest hd ?_ hS hE H K hK,YQ (i+1) os ans uss ses h.2⟩;refine Yr env _ (ZT ds vals 0 fun j t v hj _ h1 h2=>?_) hN;rw [Nat.sub_zero] at h1 h2;obtain⟨a,b⟩:=hS j hj;rw [b t (by rw [List.getD_eq_getElem?_getD,h1]; rfl)];unfold Sc at a;rw [List.getD_eq_getElem?_getD,h2] at a;exact a
 | i,[],an::ans,uss,ses,h=>by simp [StepsSc] at h
 | i,[],[],us::uss,ses,h=>by simp [StepsSc] at h
 | i,[],[],[],se::ses,h=>by simp [StepsSc] at h
 | i,o::os,[],uss,ses,h=>by simp [StepsSc] at h
 | i,o::os,an::ans,[],ses,h=>by simp [StepsSc] at h
 | i,o::os,an::ans,us::uss,[],h=>by simp [StepsSc] at h
theorem Zb {rid:Nat} {l:List Oper} {a0:Act} {w w0:World}
  (vals:List (Option Value)) (Sx:Nat->Value->Prop) (R:Nat->Value->List Pr) (I:Nat->List Pr) (n sz:Nat)
  (ds:List (Option Tmp)) (pre anc use see:List (List Nat)) (env:List (Nat × Value)) (hm:P.follows .mixedOrders=true)
  (hds:l.map (·.dst)=ds) (hdist:Distinct ds)
  (hpre:(l.map fun o=>(o.after.toList.filter (Region.binds .any ·)).map (·.on))=pre)
  (hok:(pre.length == n && ancOk pre anc && flowOk n anc use see && guardsOk l ds anc && anc.length == n && ds.all (fun d=>match d with | some t=>decide (t<sz) | none=>true))=true)
  (hdv:a0.defers=[]) (hsz:a0.tmps.size=sz)
  (henv:∀p,p ∈ env->a0.tmps[p.1]?.getD undef=p.2)
  (H:Sp w0 ((List.range n).flatMap I++L) w)
  (hstep:StepsSc P Q vals Sx R I ds anc env w0 L 0 l anc use see)
  (hend:∀(x:Nat->Value) (w:World) (A:Act),A=putAll a0 ds 0 x->(∀i,i<n->Sc vals Sx i (x i)) ->
   Sp w0 ((List.range n).flatMap (fun i=>if (List.range n).any (fun k=>(use.getD k []).contains i) then [] else R i (x i))++L) w->Q .normal A w) :
  (Code.region rid l.toArray true).wp P Q a0 w:=by
 simp only [Bool.and_eq_true,beq_iff_eq] at hok;obtain⟨⟨⟨⟨⟨a,b⟩,c⟩,e⟩,f⟩,g⟩:=hok;exact wp_region_sr (Sc vals Sx) R I n sz ds pre anc use see env hm hds hdist hpre a b c e f hdv hsz g henv H (YQ 0 l anc use see hstep) hend
end
theorem info8:(Tryz.prog.info? 5).map (fun i=>(i.zero,i.size,i.bytes))=some (some (.int .u8 0),1,1):=by kernel_rfl
theorem VL {v:Value} {l:List UInt8} (H:Sp w0 L w) (hb:Byt w v l) (hl:l.length<=1000000000) :
  Calls Tryz.prog 83 #[v] w (Ret fun v' w'=>Sp w0 (Row 5 1 v' l.length (cells8 l)::L) w'):=by
 obtain⟨A,c,rfl,d,q,j⟩:=hb;unfold maxLen at j;have k:=fun(W:World)=>Lib.run_eql_slice_nil (P:=Tryz.prog) W 24 5 A l.length c 0 0 Tryz.underlying24;have e:=hid d;cases A with
 | none =>
  have b:l=[]:=by
   rcases l with _ | ⟨x,l⟩
   ·rfl
   ·obtain⟨r,h,_⟩:=d (by simp [cells8]); cases h
  clear d;have m:=hid b;clear b;go_enter Tryz.func83,Tryz.ntmps83
  go_wp2;go_ret;obtain rfl:=m.out;exact⟨_,rfl,H.rowNil _ _⟩
 | some a =>
  clear d;go_enter Tryz.func83,Tryz.ntmps83
  obtain⟨n,o,f,g,i⟩:=info_parts info8;go_wp2_with (at_builtin; refine wpList_append_sp rfl _ _ 24 rfl 5 n (.int .u8 0) 1 1 Tryz.underlying24 o f g i rfl (by decide) (.slice (some ⟨w.heap.size,0,none⟩) 0 0) 0 [] rfl ((H.newBk [] _).bkRow 1 0 rfl (by decide)) (some a) l.length c (cells8 l) rfl (by simp [cells8]) (e.out.alloc _) (Yf l) (by unfold maxLen; omega) (by omega) ?_)
  intro v' w' p _;clear k;go_wp2;go_ret;exact⟨_,rfl,p⟩
theorem Y3 {w:World} {v u:Value} {l m:List UInt8} (hv:Byt w v l) (hu:Byt w u m) :
  Calls Tryz.prog 15 #[v,u] w fun e w'=>e=.returned (.bool (l == m))/\w=w':=by
 have a:=run_str (P:=Tryz.prog) w 24 9 5 v l Tryz.underlying24 Tryz.underlying5 Tryz.underlying9 hv;have b:=run_str (P:=Tryz.prog) w 24 9 5 u m Tryz.underlying24 Tryz.underlying5 Tryz.underlying9 hu;go_enter Tryz.func15,Tryz.ntmps15
 go_wp2;go_ret;have e:((strOf l).toList == (strOf m).toList)=(l == m):=by
  unfold strOf;rw [ByteArray.toList_mk,ByteArray.toList_mk]
 exact⟨by rw [<- e]; rfl,rfl⟩
theorem Sp.row_rd (H:Sp w0 L w) (k:Nat) {e:TypeId} {z n:Nat} {v:Value} {xs:List Value} (hk:L[k]?=some (Row e z v n xs)) :
  ∃A c,v=.slice A n c/\Rd w A xs/\n<=c/\c<=maxLen:=by
 have h:=H.owns k hk;rcases h.2 with ⟨rfl,rfl⟩ | ⟨g,cap,cur,rfl,hb,hh,h1,h2,h3,h4⟩
 ·have:xs=[]:=List.eq_nil_of_length_eq_zero (by simpa using h.1);subst this;exact⟨none,0,rfl,Rd.nil,Nat.le_refl _,by simp [maxLen]⟩
 ·refine⟨_,_,rfl,fun _=>⟨_,rfl,fun j u hu=>?_⟩,h1,h2⟩;have a:j<n * z:=by
   have:=(List.getElem?_eq_some_iff.1 hu).1;rw [h.1] at this;exact this
  have b:(Addr.add ⟨g,0,none⟩ j)=⟨g,j,none⟩:=by
   unfold Addr.add; split
   ·rename_i h0; subst h0; rfl
   ·simp
  rw [b,h.cellAt j a];exact hu
theorem Rd.part {w:World} {A:Option Addr} {xs:List Value} (h:Rd w A xs) (q k:Nat):Rd w (A.map (·.add q)) ((xs.drop q).take k):=fun hn=>by
 obtain⟨a,rfl,b⟩:=h (by rintro rfl; simp at hn);refine⟨a.add q,rfl,fun j u hu=>?_⟩;rw [List.getElem?_take] at hu;split at hu
 ·rw [List.getElem?_drop] at hu;rw [Go.Addr.add_add];exact b _ u hu
 ·cases hu
theorem Sp.rowSet {e:TypeId} {n i:Nat} {v:Value} {xs:List Value} (H:Sp w0 (Row e 1 v n xs::L) w) (hi:i<n) :
  ∃ad c,v=.slice (some ad) n c/\n<=c/\w.cell? (ad.add i)=xs[i]?/\w.frozen? (ad.add i)=false/\∀u,Sp w0 (Row e 1 v n (xs.set i u)::L) (w.setCell (ad.add i) u):=by
 have h:=H.owns 0 rfl;rcases h.2 with ⟨rfl,rfl⟩ | ⟨g,cap,cur,rfl,_,hh,h1,h2,h3,h4⟩
 ·omega
 ·have d:(Addr.add ⟨g,0,none⟩ i)=⟨g,i,none⟩:=by
   unfold Addr.add; split
   ·rename_i h0; subst h0; rfl
   ·simp
  refine⟨⟨g,0,none⟩,cap,rfl,h1,?_,?_,fun u=>?_⟩
  ·rw [d,h.cellAt i (by omega)]
  ·rw [d]; simp [World.frozen?,hh]
  ·rw [d];have f : (w.setCell ⟨g,i,none⟩ u).heap[g]?=some (.cells (cur.setIfInBounds i u) e (0,0)):=by
    simp [World.setCell,Array.getElem?_modify,hh]
   refine H.turn rfl rfl rfl fun s hs=>?_;have a:s g:=by
    rcases hs.2 with ⟨hv,_⟩ | ⟨g',cap',cur',hv,hg',_⟩
    ·cases hv
    ·injection hv with hv
     injection hv with hv
     injection hv with hv
     subst hv;exact(Zn hg').1
   refine⟨fun b _ hsb=>Below.heap_setCell _ _ _ _ (by rintro rfl; exact hsb a),by simpa using h.1,.inr ⟨g,cap,cur.setIfInBounds i u,rfl,(rs_pos (.inl a)).trans f,h1,h2,by simpa using h3,?_⟩⟩;rw [Array.toList_setIfInBounds,List.take_set,h4]
theorem Ent.of_same {w1:World} {φ:World->Prop} (k:Nat) (hk:L[k]?=some (Same w1)) (h:∀w,(∀b,b<w1.heap.size->w.heap[b]?=w1.heap[b]?)->φ w):Ent L φ:=fun w0 w H=>h w fun b hb=>by
 obtain⟨_,_,_,own,c⟩:=H;have a:=c k _ hk b hb;rw [Array.getElem?_eq_getElem hb] at a ⊢;exact(Zn a).2
namespace SS
variable {α:Type} (key:α->Int)
def put:List α->α->List α
 | [],p=>[p]
 | x::l,p=>if key x<=key p then x::put l p else p::x::l
def mrg (u v:List α):List α:=v.foldl (put key) u
def isort (l:List α):List α:=mrg key [] l
def Srt (l:List α):Prop:=l.Pairwise fun x y=>key x<=key y
variable {key}
theorem mem_put {l:List α} {p z:α} : z ∈ put key l p↔z=p∨z ∈ l:=by
 induction l with
 | nil=>simp [put]
 | cons x l ih =>
  unfold put;split
  ·rw [List.mem_cons,ih,List.mem_cons]; constructor
   ·rintro(h | h | h)
    ·exact .inr (.inl h)
    ·exact .inl h
    ·exact .inr (.inr h)
   ·rintro(h | h | h)
    ·exact .inr (.inl h)
    ·exact .inl h
    ·exact .inr (.inr h)
  ·rw [List.mem_cons]
theorem len_put (l:List α) (p:α):(put key l p).length=l.length+1:=by
 induction l with
 | nil=>rfl
 | cons x l ih =>
  unfold put;split
  ·rw [List.length_cons,ih,List.length_cons]
  ·rfl
theorem srt_put {l:List α} (h:Srt key l) (p:α):Srt key (put key l p):=by
 induction l with
 | nil=>exact List.pairwise_singleton _ _
 | cons x l ih =>
  have a:=List.pairwise_cons.1 h;unfold put;split
  ·rename_i hx
   refine List.pairwise_cons.2 ⟨fun z hz=>?_,ih a.2⟩;rcases mem_put.1 hz with rfl | hz
   ·exact hx
   ·exact a.1 z hz
  ·rename_i hx
   refine List.pairwise_cons.2 ⟨fun z hz=>?_,h⟩;rcases List.mem_cons.1 hz with rfl | hz
   ·omega
   ·have:=a.1 z hz; omega
theorem mem_mrg {u v:List α} {z:α} : z ∈ mrg key u v↔z ∈ u∨z ∈ v:=by
 unfold mrg;induction v generalizing u with
 | nil=>simp
 | cons y v ih =>
  rw [List.foldl_cons,ih,mem_put,List.mem_cons]; constructor
  ·rintro((h | h) | h)
   ·exact .inr (.inl h)
   ·exact .inl h
   ·exact .inr (.inr h)
  ·rintro(h | h | h)
   ·exact .inl (.inr h)
   ·exact .inl (.inl h)
   ·exact .inr h
theorem len_mrg (u v:List α):(mrg key u v).length=u.length+v.length:=by
 unfold mrg;induction v generalizing u with
 | nil=>simp
 | cons y v ih=>rw [List.foldl_cons,ih,len_put,List.length_cons]; omega
theorem srt_mrg {u:List α} (h:Srt key u) (v:List α):Srt key (mrg key u v):=by
 unfold mrg;induction v generalizing u with
 | nil=>exact h
 | cons y v ih=>exact ih (srt_put h y)
theorem srt_isort (l:List α):Srt key (isort key l):=srt_mrg List.Pairwise.nil l
theorem len_isort (l:List α):(isort key l).length=l.length:=by unfold isort; rw [len_mrg]; simp
theorem mem_isort {l:List α} {z:α} : z ∈ isort key l↔z ∈ l:=by unfold isort; rw [mem_mrg]; simp
theorem mrg_app (u v w:List α):mrg key u (v++w)=mrg key (mrg key u v) w:=List.foldl_append
theorem isort_snoc (l:List α) (x:α):isort key (l++[x])=put key (isort key l) x:=mrg_app _ _ _
theorem isort_app (l m:List α):isort key (l++m)=mrg key (isort key l) m:=mrg_app _ _ _
theorem put_back {s t:List α} {y:α} (h:∀x ∈ s,key x<=key y):put key (s++t) y=s++put key t y:=by
 induction s with
 | nil=>rfl
 | cons x s ih =>
  show(if key x<=key y then x::put key (s++t) y else _)=_;rw [if_pos (h x (List.mem_cons_self ..)),ih fun z hz=>h z (List.mem_cons_of_mem _ hz)]; rfl
theorem put_end {s:List α} {y:α} (h:∀x ∈ s,key x<=key y):put key s y=s++[y]:=by
 have:=put_back (t:=[]) h
 rwa [List.append_nil] at this
theorem put_front {t:List α} {y:α} (h:∀x ∈ t,key y<key x):put key t y=y::t:=by
 cases t with
 | nil=>rfl
 | cons x t =>
  show(if key x<=key y then _ else y::x::t)=_;rw [if_neg (by have:=h x (List.mem_cons_self ..); omega)]
theorem put_ahead {s t:List α} {y:α} (h:∀x ∈ t,key y<key x):put key (s++t) y=put key s y++t:=by
 induction s with
 | nil=>exact put_front h
 | cons x s ih =>
  show(if key x<=key y then x::put key (s++t) y else y::x::(s++t))=(if key x<=key y then x::put key s y else y::x::s)++t;split
  ·rw [ih]; rfl
  ·rfl
theorem put_at {s t:List α} {y:α} (h1:∀x ∈ s,key x<=key y) (h2:∀x ∈ t,key y<key x):put key (s++t) y=s++y::t:=by
 rw [put_back h1,put_front h2]
theorem mrg_nil {v:List α} (h:Srt key v):mrg key [] v=v:=by
 suffices ∀u,Srt key (u++v)->mrg key u v=u++v from this [] h
 induction v with
 | nil=>intro u _; simp [mrg]
 | cons y v ih =>
  intro u a;have b:put key u y=u++[y]:=put_end fun x hx=>(List.pairwise_append.1 a).2.2 x hx y (List.mem_cons_self ..);show mrg key (put key u y) v=_;rw [b,ih (List.pairwise_cons.1 h).2 (u++[y]) (by rw [List.append_assoc]; exact a),List.append_assoc]; rfl
theorem mrg_ahead {u t v:List α} (h:∀x ∈ t,∀y ∈ v,key y<key x):mrg key (u++t) v=mrg key u v++t:=by
 unfold mrg;induction v generalizing u with
 | nil=>rfl
 | cons y v ih =>
  rw [List.foldl_cons,put_ahead fun x hx=>h x hx y (List.mem_cons_self ..),ih fun x hx z hz=>h x hx z (List.mem_cons_of_mem _ hz)]; rfl
theorem mrg_back {s u v:List α} (h:∀x ∈ s,∀y ∈ v,key x<=key y):mrg key (s++u) v=s++mrg key u v:=by
 unfold mrg;induction v generalizing u with
 | nil=>rfl
 | cons y v ih =>
  rw [List.foldl_cons,put_back fun x hx=>h x hx y (List.mem_cons_self ..),ih fun x hx z hz=>h x hx z (List.mem_cons_of_mem _ hz)]; rfl
theorem mrg_split {u1 u2 v1 v2:List α} (hv:Srt key (v1++v2)) (h1:∀x ∈ u1,∀y ∈ v2,key x<=key y) (h2:∀x ∈ u2,∀y ∈ v1,key y<key x) :
  mrg key (u1++u2) (v1++v2)=mrg key u1 v1++mrg key u2 v2:=by
 rw [mrg_app,mrg_ahead h2,mrg_back];intro x a y b;rcases mem_mrg.1 a with a | a
 ·exact h1 x a y b
 ·exact(List.pairwise_append.1 hv).2.2 x a y b
theorem put_comm (u:List α) {x y:α} (h:key y<key x):put key (put key u y) x=put key (put key u x) y:=by
 induction u with
 | nil =>
  show(if key y<=key x then y::[x] else x::y::[])=(if key x<=key y then x::[y] else y::x::[]);rw [if_pos (by omega),if_neg (by omega)]
 | cons z u ih =>
  by_cases b:key z<=key y
  ·have a:key z<=key x:=by omega
   simp only [put,if_pos b,if_pos a,ih]
  ·by_cases a:key z<=key x
   ·have c:key y<=key x:=by omega
    simp only [put,if_neg b,if_pos a,if_pos c]
   ·have c:key y<=key x:=by omega
    have d:¬ key x<=key y:=by omega
    simp only [put,if_neg b,if_neg a,if_pos c,if_neg d]
theorem mrg_comm (u:List α) {v:List α} {y:α} (h:∀x ∈ v,key y<key x):mrg key (put key u y) v=put key (mrg key u v) y:=by
 unfold mrg;induction v generalizing u with
 | nil=>rfl
 | cons x v ih =>
  rw [List.foldl_cons,List.foldl_cons,put_comm u (h x (List.mem_cons_self ..)),ih _ fun z hz=>h z (List.mem_cons_of_mem _ hz)]
theorem mrg_put (u:List α) {v:List α} (hv:Srt key v) (y:α):mrg key u (put key v y)=put key (mrg key u v) y:=by
 induction v generalizing u with
 | nil=>rfl
 | cons x v ih =>
  have a:=List.pairwise_cons.1 hv;by_cases h:key x<=key y
  ·rw [show put key (x::v) y=x::put key v y from if_pos h];exact ih _ a.2
  ·rw [show put key (x::v) y=y::x::v from if_neg h];refine mrg_comm u fun z hz=>?_;rcases List.mem_cons.1 hz with rfl | hz
   ·omega
   ·have:=a.1 z hz; omega
theorem mrg_isort (u l:List α):mrg key u (isort key l)=mrg key u l:=by
 suffices ∀m:List α,l=m.reverse->mrg key u (isort key l)=mrg key u l from this l.reverse (by simp)
 intro m;induction m generalizing l with
 | nil=>rintro rfl; rfl
 | cons x m ih =>
  rintro rfl;rw [List.reverse_cons,isort_snoc,mrg_put u (srt_isort _),ih _ rfl,mrg_app]; rfl
theorem mrg_isorts (x y:List α):mrg key (isort key x) (isort key y)=isort key (x++y):=by rw [mrg_isort,isort_app]
theorem isort_isort (l:List α):isort key (isort key l)=isort key l:=mrg_isort [] l
inductive Chs (key:α->Int) (s:Nat):Nat->List α->List α->Prop
 | nil:Chs key s 0 [] []
 | cons {k:Nat} {x d l:List α} : x.length=s->Chs key s k d l->Chs key s (k+1) (isort key x++d) (x++l)
theorem Chs.len {s k:Nat} {d l:List α} (h:Chs key s k d l):d.length=k * s/\l.length=k * s:=by
 induction h with
 | nil=>simp
 | cons hx _ ih=>rw [List.length_append,List.length_append,len_isort,hx,ih.1,ih.2,Nat.succ_mul]; omega
theorem Chs.snoc {s k:Nat} {d l x:List α} (h:Chs key s k d l) (hx:x.length=s):Chs key s (k+1) (d++isort key x) (l++x):=by
 induction h with
 | nil =>
  have:=Chs.cons (key:=key) hx Chs.nil
  rwa [List.append_nil,List.append_nil] at this
 | cons hy _ ih=>rw [List.append_assoc,List.append_assoc]; exact Chs.cons hy ih
theorem Chs.inv {s k:Nat} {d l:List α} (h:Chs key s (k+1) d l):∃x d' l',x.length=s/\d=isort key x++d'/\l=x++l'/\Chs key s k d' l':=by
 cases h with
 | cons hx h=>exact⟨_,_,_,hx,rfl,rfl,h⟩
theorem Chs.zero {s:Nat} {d l:List α} (h:Chs key s 0 d l):d=[]/\l=[]:=by cases h; exact⟨rfl,rfl⟩
theorem Chs.end_ {s k:Nat} {d l y:List α} (h:Chs key s k d l) (hn:l.length+y.length<=s):d++isort key y=isort key (l++y):=by
 cases k with
 | zero=>obtain⟨rfl,rfl⟩:=h.zero; rfl
 | succ k =>
  obtain⟨x,c,e,f,rfl,rfl,g⟩:=h.inv;have a:=g.len;rw [List.length_append,f] at hn;have i:y=[]:=List.eq_nil_of_length_eq_zero (by omega);have b:e=[]:=List.eq_nil_of_length_eq_zero (by omega);have j:c=[]:=List.eq_nil_of_length_eq_zero (by rw [a.1,<- a.2,b]; rfl);subst i b j;simp [isort,mrg]
def sw (d:α) (l:List α) (i j:Nat):List α:=(l.set i (l.getD j d)).set j (l.getD i d)
theorem getD_app (d:α) (a b:List α) (x:α) {i:Nat} (h:a.length=i):(a++x::b).getD i d=x:=by
 subst h;rw [List.getD_eq_getElem?_getD,List.getElem?_append_right (Nat.le_refl _),Nat.sub_self]; rfl
theorem set_app (a b:List α) (x y:α) {i:Nat} (h:a.length=i):(a++x::b).set i y=a++y::b:=by
 subst h;rw [List.set_append_right _ _ (Nat.le_refl _),Nat.sub_self]; rfl
theorem sw_app (d:α) (a b c:List α) (x y:α) {i j:Nat} (hi:a.length=i) (hj:a.length+1+b.length=j):sw d (a++x::b++y::c) i j=a++y::b++x::c:=by
 have e:a++x::b++y::c=a++x::(b++y::c):=by simp
 have g:∀z,a++z::b++y::c=(a++z::b)++y::c:=fun z=>rfl;unfold sw;rw [getD_app d (a++x::b) c y (by rw [List.length_append,List.length_cons]; omega),e,getD_app d a _ x hi,set_app a _ x y hi];have f:a++y::(b++y::c)=(a++y::b)++y::c:=by simp
 rw [f,set_app (a++y::b) c y x (by rw [List.length_append,List.length_cons]; omega)]
theorem sw_comm (d:α) (l:List α) (i j:Nat) (h:i≠j):sw d l i j=sw d l j i:=by
 unfold sw;rw [List.set_comm _ _ h]
end SS
theorem UI {P:Program} (w:World) (t e te:TypeId) (ht:P.underlying t=some (.slice e)) (he:P.underlying e=some (.int .u8)) (g n c:Nat) (cs:Array Value) (h:w.heap[g]?=some (.cells cs te (0,0))) :
  (convert t t (.slice (some ⟨g,0,none⟩) n c)).run P w=.ok (.slice (some ⟨g,0,none⟩) n c) { w with heap:=w.heap.setIfInBounds g (.cells cs te (cs.size,cs.size+1)) }:=by
 have a:w.heap.modify g (fun | .cells c elem (lo,hi)=>.cells c elem (if lo == hi then (cs.size,cs.size+1) else (min lo cs.size,max hi (cs.size+1))) | o=>o)=w.heap.setIfInBounds g (.cells cs te (cs.size,cs.size+1)):=by
  have b:=(Array.getElem?_eq_some_iff.1 h).1;apply Array.ext_getElem?;intro i;rw [Array.getElem?_modify,Array.getElem?_setIfInBounds];by_cases hi:g=i
  ·subst hi;rw [if_pos rfl,if_pos rfl,if_pos b,h];rfl
  ·rw [if_neg hi,if_neg hi]
 have d:(shape g).run P w=.ok (some (te,cs.size)) w:=by
  simp [shape,Sem.run,World.shape?,h]
 have f:(freeze ⟨g,cs.size,none⟩ 1).run P w=.ok () (w.freeze ⟨g,cs.size,none⟩ 1):=rfl;have j:w.freeze ⟨g,cs.size,none⟩ 1={ w with heap:=w.heap.setIfInBounds g (.cells cs te (cs.size,cs.size+1)) }:=by
  unfold World.freeze;rw [if_neg (by decide)];exact congrArg (fun x=>{ w with heap:=x }) a
 simp [convert,run_underlying ht,run_underlying he,markStringish,d,Result.andThen,f,j]
def Lit (g:Nat) (l:List UInt8):Pr:=Is g (.cells (cells8 l).toArray 5 (l.length,l.length+1))
theorem Td (H:Sp w0 L w) (l:List UInt8):∃w1,(∀n,n=l.length->Sem.run Tryz.prog (convert 24 24 (.slice (some ⟨w.heap.size,0,none⟩) n n)) (w.alloc (.cells (cells8 l).toArray 5))=.ok (.slice (some ⟨w.heap.size,0,none⟩) n n) w1)/\Sp w0 (Lit w.heap.size l::L) w1:=by
 have a:=H.newBk (cells8 l) 5;refine⟨_,fun n _=>UI _ _ 5 5 Tryz.underlying24 Tryz.underlying5 _ _ _ _ (a.is_ 0 rfl),?_⟩;have h:=a.put (.cells (cells8 l).toArray 5 ((cells8 l).toArray.size,(cells8 l).toArray.size+1));have e:(cells8 l).toArray.size=l.length:=by simp [cells8]
 rw [e] at h ⊢;exact h
theorem Sp.lit (H:Sp w0 L w) (k:Nat) {g:Nat} {l:List UInt8} (hk:L[k]?=some (Lit g l)) (hl:l.length<=maxLen):Byt w (.slice (some ⟨g,0,none⟩) l.length l.length) l:=by
 have h:=H.is_ k hk;refine⟨_,_,rfl,fun _=>⟨_,rfl,fun j u hu=>?_⟩,Nat.le_refl _,hl⟩;have a:(Addr.add ⟨g,0,none⟩ j)=⟨g,j,none⟩:=by
  unfold Addr.add; split
  ·rename_i h0; subst h0; rfl
  ·simp
 rw [a];simp [World.cell?,h,hu]
theorem ZY (w:World) (g:Nat) (cur cs:Array Value) (t:TypeId) (fr:Nat × Nat) (hg:w.heap[g]?=some (.cells cur t fr)):w.setRow g cs={ w with heap:=w.heap.setIfInBounds g (.cells cs t fr) }:=by
 unfold World.setRow;refine congrArg (fun x=>{ w with heap:=x }) ?_;have b:=(Array.getElem?_eq_some_iff.1 hg).1;apply Array.ext_getElem?;intro i;rw [Array.getElem?_modify,Array.getElem?_setIfInBounds];by_cases a:g=i
 ·subst a;rw [if_pos rfl,if_pos rfl,if_pos b,hg];rfl
 ·rw [if_neg a,if_neg a]
def RB (g n:Nat) (c:UInt8) (bp:Nat):Pr:=Ex fun cur:Array Value=>Ex fun(_:n<=cur.size/\bp<=n/\cur.toList.take bp=cells8 (List.replicate bp c))=>Is g (.cells cur 5 (0,0))
theorem RB.rd {g n bp:Nat} {c:UInt8} (H:Sp w0 (RB g n c bp::L) w):Rd w (some ⟨g,0,none⟩) (cells8 (List.replicate bp c)):=by
 obtain⟨a,H⟩:=H.unex;obtain⟨⟨h,i,b⟩,H⟩:=H.unex;have d:=H.is_ 0 rfl;refine fun _=>⟨_,rfl,fun j u hu=>?_⟩;have e:(Addr.add ⟨g,0,none⟩ j)=⟨g,j,none⟩:=by
  unfold Addr.add; split
  ·rename_i h0; subst h0; rfl
  ·simp
 rw [e];have f:j<bp:=by
  have:=(List.getElem?_eq_some_iff.1 hu).1;simpa [cells8] using this
 rw [<- b,List.getElem?_take_of_lt f] at hu;simp [World.cell?,d];simpa using hu
theorem RB.copy {g n bp k:Nat} {c:UInt8} (H:Sp w0 (RB g n c bp::L) w) (a:Addr) (sLen sCap dCap:Nat) (ty:TypeId) (hk:k=min sLen (n - bp))
  (hsrc:∀j u,(cells8 (List.replicate k c))[j]?=some u->w.cell? (a.add j)=some u) :
  ∃w',(Builtin.copy_ #[24,24] ty #[.slice (some ⟨g,bp,none⟩) (n - bp) dCap,.slice (some a) sLen sCap]).run Tryz.prog w=.ok (.int .i64 k) w'/\Sp w0 (RB g n c (bp+k)::L) w':=by
 obtain⟨p,e,l,f,m⟩:=info_parts info8;obtain⟨b,H⟩:=H.unex;obtain⟨⟨q,r,o⟩,H⟩:=H.unex;have h:=H.is_ 0 rfl;have d:(cells8 (List.replicate k c)).length=k:=by simp [cells8]
 have i:=run_copy_row (P:=Tryz.prog) w 24 24 ty 5 g bp (n - bp) dCap a sLen sCap b 5 (cells8 (List.replicate k c)) Tryz.underlying24 (by rw [e]; simp [f]) h (by rw [d]; exact hk) hsrc (by rw [d]; omega) (Yf _);rw [d] at i;refine⟨_,i,?_⟩;rw [ZY w g b _ _ _ h];refine Sp.ex _ (Sp.ex ⟨?_,?_,?_⟩ (H.put _))
 ·simp [d]; omega
 ·omega
 ·show List.take (bp+k) (b.toList.take bp++cells8 (List.replicate k c)++b.toList.drop (bp+k))=_;have s:(b.toList.take bp++cells8 (List.replicate k c)).length=bp+k:=by
   rw [List.length_append,d,List.length_take];simp only [Array.length_toList];omega
  rw [List.take_append_of_le_length (by omega),List.take_of_length_le (by omega),o,<- List.replicate_append_replicate];exact List.map_append.symm
end Go.Proofs.YteajimobgkempaaGreatDoor

