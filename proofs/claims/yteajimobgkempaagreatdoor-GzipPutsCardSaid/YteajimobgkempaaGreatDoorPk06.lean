/- A pack. -/
import Derived.Test.YteajimobgkempaaGreatDoorPk05
set_option linter.all false
set_option maxRecDepth 100000
set_option maxHeartbeats 8000000
namespace Go.Proofs.YteajimobgkempaaGreatDoor
variable {w0 w:World} {L:List Pr}
open Go.RowKit
def up (dp:List (Option Nat)) (x:Nat->Value) (i:Nat):Value:=match dp.getD i none with | some j=>x j | none=>undef
def depOk (n:Nat) (anc:List (List Nat)) (dp:List (Option Nat)):Bool:=(List.range n).all fun i=>match dp.getD i none with | some j=>(anc.getD i []).contains j | none=>true
noncomputable def tok2 (R:Nat->Value->Value->List Pr) (I:Nat->List Pr) (use:List (List Nat)) (dp:List (Option Nat)) (listed:Array Bool) (x:Nat->Value) (i:Nat):List Pr :=
 if listed.getD i false=true then (if (List.range use.length).any (fun k=>listed.getD k false && (use.getD k []).contains i) then [] else R i (up dp x i) (x i)) else I i
section
variable {P:Program} {Q:Exit->Act->World->Prop}
def Gave2 (w0:World) (S:Nat->Value->Value->Prop) (R:Nat->Value->Value->List Pr) (i:Nat) (u:Value) (A:Act) (d:Option Tmp) (rest:List Pr) (a' : Act) (w' : World):Prop:=∃v,a'=A.put d v/\S i u v/\Sp w0 (R i u v++rest) w'
theorem Xk {rid:Nat} {l:List Oper} {a0:Act} {w w0:World}
    (S:Nat->Value->Value->Prop) (R:Nat->Value->Value->List Pr) (I:Nat->List Pr) (n:Nat)
    (ds:List (Option Tmp)) (pre anc use see:List (List Nat)) (dp:List (Option Nat)) (hdp:depOk n anc dp=true) (hm:P.follows .mixedOrders=true)
    (hds:l.map (·.dst)=ds) (hdist:Distinct ds)
    (hpre:(l.map fun o=>(o.after.toList.filter (Region.binds .any ·)).map (·.on))=pre)
    (hn:pre.length=n) (hanc:ancOk pre anc=true) (hflow:flowOk n anc use see=true)
    (H:Sp w0 ((List.range n).flatMap I++L) w)
    (hstep:∀(i:Nat) (o:Oper),l[i]?=some o->∀(x:Nat->Value) (w:World) (A:Act) (rest:List Pr),A=putAll a0 ds 0 x ->
      (∀j ∈ anc.getD i [],S j (up dp x j) (x j))->(∀j,i ∈ anc.getD j []->x j=base a0 ds j)->(∀φ,Ent L φ->Ent rest φ) ->
      Sp w0 (I i++((use.getD i []).flatMap (fun j=>R j (up dp x j) (x j))++((see.getD i []).flatMap I++rest))) w ->
      wpList P l.toArray (Exit.then (Gave2 w0 S R i (up dp x i) A o.dst ((see.getD i []).flatMap I++rest)) Q) [o] A w)
    (hend:∀(x:Nat->Value) (w:World) (A:Act),A=putAll a0 ds 0 x->(∀i,i<n->S i (up dp x i) (x i)) ->
      Sp w0 ((List.range n).flatMap (fun i=>if (List.range n).any (fun k=>(use.getD k []).contains i) then [] else R i (up dp x i) (x i))++L) w->Q .normal A w) :
    (Code.region rid l.toArray true).wp P Q a0 w:=by
  have b6:ds.length=l.length:=by rw [<- hds]; simp
  have b2:pre.length=l.length:=by rw [<- hpre]; simp
  have b7:l.toArray.size=l.length:=by simp
  have O:use.length=n:=by
    unfold flowOk at hflow;simp only [Bool.and_eq_true,decide_eq_true_eq] at hflow;exact hflow.1
  have b3:∀i o,l[i]?=some o->∀e ∈ o.after,Region.binds .any e=true->e.on ∈ pre.getD i []:=by
    intro i o ho e T E;rw [<- hpre,List.getD_eq_getElem?_getD,List.getElem?_map,ho];simp only [Option.map_some,Option.getD_some,List.mem_map,List.mem_filter];exact⟨e,⟨by simpa using T,E⟩,rfl⟩
  have a1 : ∀i o,l[i]?=some o->∀j ∈ pre.getD i [],∃e ∈ o.after,Region.binds .any e=true/\e.on=j:=by
    intro i o ho j c;rw [<- hpre,List.getD_eq_getElem?_getD,List.getElem?_map,ho] at c;simp only [Option.map_some,Option.getD_some,List.mem_map,List.mem_filter] at c;obtain⟨e,⟨T,E⟩,c⟩:=c;exact⟨e,by simpa using T,E,c⟩
  have a2:∀i,i<n->∀j ∈ pre.getD i [],j<i/\j ∈ anc.getD i []/\∀k ∈ anc.getD j [],k ∈ anc.getD i []:=by
    intro i y j c;have h:=List.all_eq_true.1 hanc i (by simp; omega);simp only [Bool.and_eq_true] at h;have:=List.all_eq_true.1 h.1 j c;simp only [Bool.and_eq_true,decide_eq_true_eq,List.contains_iff_mem] at this;refine⟨this.1.1,this.1.2,fun k hk=>?_⟩;have:=List.all_eq_true.1 this.2 k hk;simpa using this
  have s:∀i,i<n->∀k ∈ anc.getD i [],k<i/\(k ∈ pre.getD i []∨∃j ∈ pre.getD i [],k ∈ anc.getD j []):=by
    intro i y k hk;have h:=List.all_eq_true.1 hanc i (by simp; omega);simp only [Bool.and_eq_true] at h;have:=List.all_eq_true.1 h.2 k hk;simp only [Bool.and_eq_true,decide_eq_true_eq,Bool.or_eq_true,List.contains_iff_mem,List.any_eq_true] at this;refine⟨this.1,this.2.imp id ?_⟩;rintro⟨j,c,hk⟩;exact⟨j,c,by simpa using hk⟩
  have hF:∀i,i<n->(∀j ∈ use.getD i [],j ∈ anc.getD i []/\∀k,k<n->j ∈ use.getD k []->k=i)/\(∀k ∈ see.getD i [],k<n/\i ∈ anc.getD k [])/\(use.getD i []).Nodup/\(see.getD i []).Nodup:=by
    intro i y;unfold flowOk at hflow;simp only [Bool.and_eq_true] at hflow;have h:=List.all_eq_true.1 hflow.2 i (by simp; omega);simp only [Bool.and_eq_true,decide_eq_true_eq] at h;obtain⟨⟨⟨h1,h2⟩,h3⟩,h4⟩:=h;refine⟨fun j c=>?_,fun k hk=>?_,h3,h4⟩
    · have:=List.all_eq_true.1 h1 j c;simp only [Bool.and_eq_true,List.contains_iff_mem] at this;refine⟨this.1,fun k hk hjk=>?_⟩;have:=List.all_eq_true.1 this.2 k (by simp; omega);simp only [Bool.or_eq_true,decide_eq_true_eq,Bool.not_eq_true'] at this;rcases this with h | h
      · exact h
      · have h' : (use.getD k []).contains j=true:=by simpa using hjk
        rw [h'] at h; cases h
    · have:=List.all_eq_true.1 h2 k hk;simpa using this
  refine wp_region_any hm ?_
  let Inv:Array Bool->Act->World->Prop:=fun listed a w=>∃x:Nat->Value,a=putAll a0 ds 0 x /\
    (∀i,i<n->listed.getD i false=true->S i (up dp x i) (x i)/\∀j ∈ anc.getD i [],listed.getD j false=true)/\(∀i,listed.getD i false=false->x i=base a0 ds i) /\
    Sp w0 ((List.range n).flatMap (tok2 R I use dp listed x)++L) w
  refine YF Inv ?_ ?_ _ _ _ _ (by simp) (by simp) ?_
  · rintro listed a w i hs ⟨x,rfl,g,U,V⟩ y;obtain⟨h1,h2,o,ho,a3⟩:=Yf y;have q:i<n:=by rw [<- hn,b2]; simpa using h1
    have N:i<listed.size:=by omega
    have z : l[i]?=some o:=by simpa using ho
    have W:listed.getD i false=false:=by
      rw [Array.getD_eq_getD_getElem?,Array.getElem?_eq_getElem N] at h2 ⊢;simpa using h2
    have a4:∀j ∈ pre.getD i [],listed.getD j false=true:=fun j c=>by
      obtain⟨e,T,E,rfl⟩:=a1 i o z j c;exact a3 e T E
    have B:∀j ∈ anc.getD i [],listed.getD j false=true:=fun j c=>by
      obtain⟨_,h | ⟨k,hk,hjk⟩⟩:=s i q j c
      · exact a4 j h
      · exact(g k (by have:=(a2 i q k hk).1; omega) (a4 k hk)).2 j hjk
    have p:∀k,i ∈ anc.getD k []->listed.getD k false=false:=fun k hk=>by
      cases hc:listed.getD k false with
      | false=>rfl
      | true =>
        by_cases X:k<n
        · have:=(g k X hc).2 i hk;rw [W] at this; cases this
        · rw [Array.getD_eq_getD_getElem?,Array.getElem?_eq_none (by omega)] at hc;simp at hc
    obtain⟨f1,Y,f3,f4⟩:=hF i q
    -- the pool, parted
    have b4:(i::(use.getD i []++see.getD i [])).Nodup:=by
      refine List.nodup_cons.2 ⟨fun h=>?_,List.nodup_append.2 ⟨f3,f4,fun a ha b E e=>?_⟩⟩
      · rcases List.mem_append.1 h with h | h
        · have:=(s i q i (f1 i h).1).1; omega
        · have:=(s i q i (Y i h).2).1; omega
      · subst e;have h5:=B a (f1 a ha).1;have h6:=p a (Y a E).2;rw [h5] at h6; cases h6
    have Z:∀j ∈ i::(use.getD i []++see.getD i []),j<n:=fun j c=>by
      rcases List.mem_cons.1 c with rfl | c
      · exact q
      · rcases List.mem_append.1 c with h | h
        · have:=(s i q j (f1 j h).1).1; omega
        · exact(Y j h).1
    have hp:=Y4 n _ b4 Z;obtain⟨r,C⟩:∃r,r=(List.range n).filter (fun k=>decide (k ∉ i::(use.getD i []++see.getD i []))):=⟨_,rfl⟩;rw [<- C] at hp;have a5:∀f:Nat->List Pr,((List.range n).flatMap f++L).Perm (f i++((use.getD i []).flatMap f++((see.getD i []).flatMap f++(r.flatMap f++L)))):=fun f=>by
      have:=(hp.flatMap_right f).append_right L;simpa only [List.flatMap_append,List.flatMap_cons,List.append_assoc,List.cons_append] using this
    have hH:=V.perm (a5 _);have t0:tok2 R I use dp listed x i=I i:=by unfold tok2; rw [W,if_neg (by simp)]
    have tu:∀j ∈ use.getD i [],tok2 R I use dp listed x j=R j (up dp x j) (x j):=fun j c=>by
      unfold tok2;rw [if_pos (B j (f1 j c).1),if_neg];intro h;obtain⟨k,hk,h⟩:=List.any_eq_true.1 h;simp only [Bool.and_eq_true,List.contains_iff_mem] at h;have F : k<n:=by rw [<- O]; simpa using hk
      have:=(f1 j c).2 k F (by simpa using h.2);subst this;rw [W] at h; exact absurd h.1 (by simp)
    have ts:∀k ∈ see.getD i [],tok2 R I use dp listed x k=I k:=fun k hk=>by
      unfold tok2; rw [p k (Y k hk).2,if_neg (by simp)]
    have eu:(use.getD i []).flatMap (tok2 R I use dp listed x)=(use.getD i []).flatMap (fun j=>R j (up dp x j) (x j)):=Zj fun j c=>tu j c;have es:(see.getD i []).flatMap (tok2 R I use dp listed x)=(see.getD i []).flatMap I:=Zj fun j c=>ts j c;rw [t0,eu,es] at hH;have a6:∀φ,Ent L φ->Ent (r.flatMap (tok2 R I use dp listed x)++L) φ:=fun φ hφ w0' w' H'=>hφ _ _ (by
      have:=H'.pick (r.flatMap (tok2 R I use dp listed x)).length [] ⟨List.nodup_nil,fun _ h=>by cases h⟩;simpa using this)
    have G:=hstep i o z x w _ (r.flatMap (tok2 R I use dp listed x)++L) rfl (fun j c=>(g j (by have:=(s i q j c).1; omega) (B j c)).1) (fun j c=>U j (p j c)) a6 hH;have a7:∀a' w',Gave2 w0 S R i (up dp x i) (putAll a0 ds 0 x) o.dst ((see.getD i []).flatMap I++(r.flatMap (tok2 R I use dp listed x)++L)) a' w'->Inv (listed.setIfInBounds i true) a' w':=by
      rintro a' w' ⟨v,rfl,hS,a8⟩;have d:=fun j=>X8 listed i j N;have u:∀j,j≠i->setX x i v j=x j:=fun j c=>by unfold setX; rw [if_neg c]
      have a9:setX x i v i=v:=by unfold setX; rw [if_pos rfl]
      have J:∀k,k<n->(k=i∨listed.getD k false=true)->up dp (setX x i v) k=up dp x k:=fun k hk hkl=>by
        unfold up;have hd:=List.all_eq_true.1 hdp k (by simp; omega);cases hq:dp.getD k none with
        | none=>rfl
        | some j =>
          rw [hq] at hd;have b0:j ∈ anc.getD k []:=by simpa using hd
          show setX x i v j=x j;refine u j ?_;rintro rfl;rcases hkl with rfl | hkl
          · have:=(s k hk k b0).1; omega
          · rw [p k b0] at hkl; cases hkl
      refine⟨setX x i v,?_,fun j c hlj=>?_,fun j hlj=>?_,?_⟩
      · have hd:o.dst=ds.getD i none:=by
          rw [<- hds,List.getD_eq_getElem?_getD,List.getElem?_map,z]; rfl
        rw [hd,Yq x v ds 0 a0 i hdist (by omega),Nat.zero_add]
      · by_cases t:j=i
        · subst t;refine⟨by rw [a9,J j c (.inl rfl)]; exact hS,fun k hk=>?_⟩;rw [d]; split
          · rfl
          · exact B k hk
        · rw [d,if_neg t] at hlj;obtain⟨q1,q2⟩:=g j c hlj;refine⟨by rw [u j t,J j c (.inr hlj)]; exact q1,fun k hk=>?_⟩;rw [d]; split
          · rfl
          · exact q2 k hk
      · rw [d] at hlj;by_cases t:j=i
        · rw [if_pos t] at hlj; cases hlj
        · rw [if_neg t] at hlj;rw [u j t]; exact U j hlj
      · refine Sp.perm ?_ (a5 _).symm;have n0:tok2 R I use dp (listed.setIfInBounds i true) (setX x i v) i=R i (up dp x i) v:=by
          unfold tok2;rw [d,if_pos rfl,if_pos rfl,a9,J i q (.inl rfl),if_neg];intro h;obtain⟨k,hk,h⟩:=List.any_eq_true.1 h;simp only [Bool.and_eq_true,List.contains_iff_mem] at h;have F : k<n:=by rw [<- O]; simpa using hk
          have h5:=((hF k F).1 i (by simpa using h.2)).1;have h6:=(s k F i h5).1;have h7:=p k h5;rw [d,if_neg (by omega),h7] at h;exact absurd h.1 (by simp)
        have nu:(use.getD i []).flatMap (tok2 R I use dp (listed.setIfInBounds i true) (setX x i v))=[]:=by
          rw [List.flatMap_eq_nil_iff];intro j c;unfold tok2;rw [d,if_pos,if_pos]
          · refine List.any_eq_true.2 ⟨i,by simp; omega,?_⟩;rw [d,if_pos rfl]; simpa using c
          · split
            · rfl
            · exact B j (f1 j c).1
        have ns:(see.getD i []).flatMap (tok2 R I use dp (listed.setIfInBounds i true) (setX x i v))=(see.getD i []).flatMap I:=Zj fun k hk=>by
          unfold tok2;have:=(s k (Y k hk).1 i (Y k hk).2).1;rw [d,if_neg (show ¬ k=i by omega),p k (Y k hk).2,if_neg (by simp)]
        have no:r.flatMap (tok2 R I use dp (listed.setIfInBounds i true) (setX x i v))=r.flatMap (tok2 R I use dp listed x):=Zj fun k hk=>by
          have K:=(List.mem_filter.1 (C ▸ hk)).2;simp only [List.mem_cons,List.mem_append,not_or,decide_eq_true_eq] at K;unfold tok2;rw [d,if_neg K.1,u k K.1];have X:k<n:=by
            have:=(List.mem_filter.1 (C ▸ hk)).1;simpa using this
          by_cases hkl:listed.getD k false=true
          case neg=>rw [if_neg hkl,if_neg hkl]
          rw [J k X (.inr hkl)];have e:((List.range use.length).any fun k_1=>(listed.setIfInBounds i true).getD k_1 false && (use.getD k_1 []).contains k)=((List.range use.length).any fun k_1=>listed.getD k_1 false && (use.getD k_1 []).contains k):=by
            congr 1;funext m;rw [d];by_cases b1:m=i
            · subst b1;have:(use.getD m []).contains k=false:=by simpa using K.2.1
              rw [this]; simp
            · rw [if_neg b1]
          rw [e]
        rw [n0,nu,ns,no,List.nil_append];exact a8
    unfold wpOp;simp only [ho];unfold wpList at G;split at G
    · rename_i hw
      rw [if_pos hw];rcases G with h | ⟨h,h'⟩
      · exact .inl (Oper.wp_mono (fun a' w' hh=>a7 a' w' hh) (Y3 h))
      · exact .inr ⟨h,h'⟩
    · rename_i hw
      rw [if_neg hw];exact a7 _ _ G
  · rintro listed a w hs ⟨x,rfl,g,U,V⟩ hr;have D:∀i,i<n->listed.getD i false=true:=by
      intro i;induction i using Nat.strongRecOn with
      | _ i ih =>
        intro y;cases hc:listed.getD i false with
        | true=>rfl
        | false =>
          exfalso;have Z:i<l.toArray.size:=by omega
          have:i ∈ Region.ready .any l.toArray listed:=by
            refine X7 Z ?_ fun e T E=>?_
            · have:i<listed.size:=by omega
              rw [Array.getD_eq_getD_getElem?,Array.getElem?_eq_getElem this] at hc ⊢;simpa using hc
            · have z : l[i]?=some l.toArray[i]:=by simp
              have hm:=b3 i _ z e T E;have:=(a2 i y _ hm).1;exact ih _ this (by omega)
          rw [hr] at this;cases this
    refine hend x w _ rfl (fun i y=>(g i y (D i y)).1) ?_;refine cast (congrArg (fun M=>Sp w0 (M++L) w) (Zj fun i y=>?_)) V;have b5 : i<n:=by simpa using y
    unfold tok2;rw [if_pos (D i b5),O];have e:((List.range n).any fun k=>listed.getD k false && (use.getD k []).contains i)=((List.range n).any fun k=>(use.getD k []).contains i):=by
      rw [Bool.eq_iff_iff,List.any_eq_true,List.any_eq_true];constructor
      · rintro⟨k,hk,h⟩;exact⟨k,hk,(Bool.and_eq_true _ _ ▸ h).2⟩
      · rintro⟨k,hk,h⟩;exact⟨k,hk,by rw [D k (by simpa using hk),h]; rfl⟩
    rw [e]
  · refine⟨base a0 ds,(Yc _ ds 0 a0 fun i _=>by rw [Nat.zero_add]).symm,fun i _ hc=>?_,fun i _=>rfl,?_⟩
    · exfalso;rw [Array.getD_eq_getD_getElem?] at hc;simp [Array.getElem?_replicate] at hc;split at hc <;> simp at hc
    · have:Sp w0 ((List.range n).flatMap I++L) { w with drawn:=w.drawn+1 }:=H.drew;refine cast (congrArg (fun M=>Sp w0 (M++L) _) (Zj fun i y=>?_)) this;unfold tok2;rw [if_neg];rw [Array.getD_eq_getD_getElem?];simp only [Array.getElem?_replicate];split <;> simp
def StepsDp (P:Program) (Q:Exit->Act->World->Prop) (S:Nat->Value->Value->Prop) (R:Nat->Value->Value->List Pr) (I:Nat->List Pr) (dp:List (Option Nat)) (ds:List (Option Tmp)) (env:List (Nat × Value)) (w0:World) (L:List Pr):Nat->List Oper->List (List Nat)->List (List Nat)->List (List Nat)->Prop
 | i,o::os,an::ans,us::uss,se::ses=>(∀(x:Nat->Value) (w:World) (A:Act) (rest:List Pr),
   (∀p,p ∈ env->A.tmps[p.1]?.getD undef=p.2)->(∀j,j ∈ an->S j (up dp x j) (x j)/\∀t,ds.getD j none=some t->A.tmps[t]?.getD undef=x j)->(∀φ,Ent L φ->Ent rest φ) ->
   Sp w0 (I i++(us.flatMap (fun j=>R j (up dp x j) (x j))++(se.flatMap I++rest))) w ->
   ∀K:Act->World->Prop,(∀v w',S i (up dp x i) v->Sp w0 (R i (up dp x i) v++(se.flatMap I++rest)) w'->K (A.put o.dst v) w') ->
   StepOb P Q o x A w K)/\StepsDp P Q S R I dp ds env w0 L (i+1) os ans uss ses
 | _,[],[],[],[]=>True
 | _,_,_,_,_=>False
theorem YM {S:Nat->Value->Value->Prop} {R:Nat->Value->Value->List Pr} {I:Nat->List Pr} {dp:List (Option Nat)} {ds:List (Option Tmp)} {env:List (Nat × Value)} {w0:World} :
  ∀(l:List Oper) (k i:Nat) (o:Oper) (ans uss ses:List (List Nat)),StepsDp P Q S R I dp ds env w0 L k l ans uss ses->l[i]?=some o ->
  ∀(x:Nat->Value) (w:World) (A:Act) (rest:List Pr),
   (∀p,p ∈ env->A.tmps[p.1]?.getD undef=p.2)->(∀j,j ∈ ans.getD i []->S j (up dp x j) (x j)/\∀t,ds.getD j none=some t->A.tmps[t]?.getD undef=x j)->(∀φ,Ent L φ->Ent rest φ) ->
   Sp w0 (I (k+i)++((uss.getD i []).flatMap (fun j=>R j (up dp x j) (x j))++((ses.getD i []).flatMap I++rest))) w ->
   ∀K:Act->World->Prop,(∀v w',S (k+i) (up dp x (k+i)) v->Sp w0 (R (k+i) (up dp x (k+i)) v++((ses.getD i []).flatMap I++rest)) w'->K (A.put o.dst v) w') ->
   StepOb P Q o x A w K
 | [],_,_,_,_,_,_,_,h=>by simp at h
 | o::os,k,i,o',[],uss,ses,hs,h=>by simp [StepsDp] at hs
 | o::os,k,i,o',an::ans,[],ses,hs,h=>by simp [StepsDp] at hs
 | o::os,k,i,o',an::ans,us::uss,[],hs,h=>by simp [StepsDp] at hs
 | o::os,k,0,o',an::ans,us::uss,se::ses,hs,h=>by
  have:o=o':=by simpa using h
  subst this;exact hs.1
 | o::os,k,i+1,o',an::ans,us::uss,se::ses,hs,h=>by
  have:=YM os (k+1) i o' ans uss ses hs.2 (by simpa using h);rw [show k+1+i=k+(i+1) by omega] at this;exact this
theorem ZR {rid:Nat} {l:List Oper} {a0:Act} {w w0:World}
  (S:Nat->Value->Value->Prop) (R:Nat->Value->Value->List Pr) (I:Nat->List Pr) (n sz:Nat)
  (ds:List (Option Tmp)) (pre anc use see:List (List Nat)) (dp:List (Option Nat)) (hdp:depOk n anc dp=true) (env:List (Nat × Value)) (hm:P.follows .mixedOrders=true)
  (hds:l.map (·.dst)=ds) (hdist:Distinct ds)
  (hpre:(l.map fun o=>(o.after.toList.filter (Region.binds .any ·)).map (·.on))=pre)
  (hn:pre.length=n) (hanc:ancOk pre anc=true) (hflow:flowOk n anc use see=true) (hgu:guardsOk l ds anc=true) (hanl:anc.length=n)
  (hsz:a0.tmps.size=sz) (hlt:ds.all (fun d=>match d with | some t=>decide (t<sz) | none=>true)=true)
  (henv:∀p,p ∈ env->a0.tmps[p.1]?.getD undef=p.2) (henv2:envOk env ds=true)
  (H:Sp w0 ((List.range n).flatMap I++L) w)
  (hstep:StepsDp P Q S R I dp ds env w0 L 0 l anc use see)
  (hend:∀(x:Nat->Value) (w:World) (A:Act),A=putAll a0 ds 0 x->(∀i,i<n->S i (up dp x i) (x i)) ->
   Sp w0 ((List.range n).flatMap (fun i=>if (List.range n).any (fun k=>(use.getD k []).contains i) then [] else R i (up dp x i) (x i))++L) w->Q .normal A w) :
  (Code.region rid l.toArray true).wp P Q a0 w:=by
 have F:ds.length=l.length:=by rw [<- hds]; simp
 have G:pre.length=l.length:=by rw [<- hpre]; simp
 refine Xk S R I n ds pre anc use see dp hdp hm hds hdist hpre hn hanc hflow H (fun i o ho x w A rest hA hS hu hE hH=>?_) hend;have J:i<l.length:=(List.getElem?_eq_some_iff.1 ho).1;have g:∀j,j<n->∀t,ds.getD j none=some t->A.tmps[t]?=some (x j):=fun j hj t ht=>by
  have f : j<ds.length:=by omega
  rw [List.getD_eq_getElem?_getD,List.getElem?_eq_getElem f] at ht;simp only [Option.getD_some] at ht;have q:=List.all_eq_true.1 hlt _ (List.getElem_mem f);rw [ht] at q;replace q:t<sz:=by simpa using q
  rw [hA,putAll_eval x ds 0 j t a0 hdist (by rw [List.getElem?_eq_getElem f,ht]) (Nat.lt_of_lt_of_eq q hsz.symm),Nat.zero_add]
 have m:∀j,j ∈ anc.getD i []->j<n:=fun j hj=>by
  have h:=List.all_eq_true.1 hanc i (by simp; omega);simp only [Bool.and_eq_true] at h;have:=List.all_eq_true.1 h.2 j hj;simp only [Bool.and_eq_true,decide_eq_true_eq] at this;omega
 have e:=YM l 0 i o anc use see hstep ho x w A rest (fun p hp=>by
   have u:=List.all_eq_true.1 henv2 p hp;rw [hA,putAll_eval_far x p.1 ds 0 a0 (by simpa using u)];exact henv p hp) (fun j hj=>⟨hS j hj,fun t ht=>by rw [g j (m j hj) t ht]; rfl⟩) hE (by rw [Nat.zero_add]; exact hH)
  (Gave2 w0 S R i (up dp x i) A o.dst ((see.getD i []).flatMap I++rest)) (fun v w' h1 u=>⟨v,rfl,by rwa [Nat.zero_add] at h1,by rwa [Nat.zero_add] at u⟩)
 unfold StepOb at e;unfold wpList;cases hg:o.guard with
 | none =>
  rw [hg] at e;have y:Region.wanted o (yielded l.toArray A.tmps)=true:=by simp [Region.wanted,hg]
  rw [if_pos y];refine .inl ?_;refine Oper.wp_mono (fun a w h=>?_) (upon_exits' e);exact h
 | some p =>
  obtain⟨j,b⟩:=p;rw [hg] at e;obtain⟨c,K,e⟩:=e;have s:=List.all_eq_true.1 hgu (o,anc.getD i []) (by
   rw [List.mem_iff_getElem?];refine⟨i,?_⟩;rw [List.getElem?_zip_eq_some];refine⟨ho,?_⟩;rw [List.getD_eq_getElem?_getD,List.getElem?_eq_getElem (by omega)]; rfl)
  simp only [hg,Bool.and_eq_true,List.contains_iff_mem] at s;obtain⟨z,B⟩:=s;have C:=m j z;obtain⟨t,ht⟩:=Option.isSome_iff_exists.1 B;have M:yielded l.toArray A.tmps j=c:=by
   unfold yielded;have D:(l.toArray[j]?).bind (·.dst)=some t:=by
    have f : j<ds.length:=by omega
    rw [List.getD_eq_getElem?_getD,List.getElem?_eq_getElem f] at ht;simp only [Option.getD_some] at ht;subst hds;have E:j<l.length:=by simpa using f
    rw [List.getElem_map] at ht;simp [E,ht]
   rw [D];simp only [Option.bind_some,g j C t ht];rw [<- K];cases x j <;> rfl
  have y:Region.wanted o (yielded l.toArray A.tmps)=(c == some b):=by simp [Region.wanted,hg,M]
  rw [y];by_cases r:c=some b
  ·rw [if_pos r] at e;rw [if_pos (by simp [r])];exact .inl (upon_exits' e)
  ·rw [if_neg r] at e;rw [if_neg (by simpa using r)];exact e
end
section
variable {P:Program} {Q:Exit->Act->World->Prop}
def Sd (vals:List (Option Value)) (Sx:Nat->Value->Value->Prop) (i:Nat) (u v:Value):Prop:=match vals.getD i none with
 | some t=>v=t
 | none=>Sx i u v
def FactsN (A:Act):List (Nat × Value)->Prop->Prop
 | [],p=>p
 | (t,v)::r,p=>A.tmps[t]?.getD undef=v/\FactsN A r p
theorem XD {A:Act} : ∀(env:List (Nat × Value)) (p:Prop),p->(∀q,q ∈ env->A.tmps[q.1]?.getD undef=q.2)->FactsN A env p
 | [],_,hp,_=>hp
 | (t,v)::r,p,hp,h=>⟨h (t,v) (List.mem_cons_self ..),XD r p hp fun q hq=>h q (List.mem_cons_of_mem _ hq)⟩
theorem Y8 {A:Act} : ∀ {env:List (Nat × Value)} {p:Prop},FactsN A env p->∀q,q ∈ env->A.tmps[q.1]?.getD undef=q.2
 | [],_,_,q,hq=>by cases hq
 | (t,v)::r,p,h,q,hq=>by
  rcases List.mem_cons.1 hq with rfl | hq
  ·exact h.1
  ·exact Y8 h.2 q hq
def StepsSd (P:Program) (Q:Exit->Act->World->Prop) (vals:List (Option Value)) (Sx:Nat->Value->Value->Prop) (R:Nat->Value->Value->List Pr) (I:Nat->List Pr) (dp:List (Option Nat)) (ds:List (Option Tmp)) (env:List (Nat × Value)) (w0:World) (L:List Pr):Nat->List Oper->List (List Nat)->List (List Nat)->List (List Nat)->Prop
 | i,o::os,an::ans,us::uss,se::ses=>(∀(x:Nat->Value) (w:World) (A:Act) (rest:List Pr),
   FactsN A env (FactsA A an ds vals 0)->(∀j,j ∈ an->Sd vals Sx j (up dp x j) (x j)/\∀t,ds.getD j none=some t->A.tmps[t]?.getD undef=x j)->(∀φ,Ent L φ->Ent rest φ) ->
   Sp w0 (I i++(us.flatMap (fun j=>R j (up dp x j) (x j))++(se.flatMap I++rest))) w ->
   ∀K:Act->World->Prop,(∀v w',Sd vals Sx i (up dp x i) v->Sp w0 (R i (up dp x i) v++(se.flatMap I++rest)) w'->K (A.put o.dst v) w') ->
   StepOb P Q o x A w K)/\StepsSd P Q vals Sx R I dp ds env w0 L (i+1) os ans uss ses
 | _,[],[],[],[]=>True
 | _,_,_,_,_=>False
theorem Y9 {vals:List (Option Value)} {Sx:Nat->Value->Value->Prop} {R:Nat->Value->Value->List Pr} {I:Nat->List Pr} {dp:List (Option Nat)} {ds:List (Option Tmp)} {env:List (Nat × Value)} {w0:World} :
  ∀(i:Nat) (os:List Oper) (ans uss ses:List (List Nat)),StepsSd P Q vals Sx R I dp ds env w0 L i os ans uss ses->StepsDp P Q (Sd vals Sx) R I dp ds env w0 L i os ans uss ses
 | i,[],[],[],[],h=>trivial
 | i,o::os,an::ans,us::uss,se::ses,h=>by
  refine⟨fun x w A rest hN hS hE H K hK=>h.1 x w A rest ?_ hS hE H K hK,Y9 (i+1) os ans uss ses h.2⟩;refine XD env _ (Z5 ds vals 0 fun j t v hj _ h1 h2=>?_) hN;rw [Nat.sub_zero] at h1 h2;obtain⟨a,b⟩:=hS j hj;rw [b t (by rw [List.getD_eq_getElem?_getD,h1]; rfl)];unfold Sd at a;rw [List.getD_eq_getElem?_getD,h2] at a;exact a
 | i,[],an::ans,uss,ses,h=>by simp [StepsSd] at h
 | i,[],[],us::uss,ses,h=>by simp [StepsSd] at h
 | i,[],[],[],se::ses,h=>by simp [StepsSd] at h
 | i,o::os,[],uss,ses,h=>by simp [StepsSd] at h
 | i,o::os,an::ans,[],ses,h=>by simp [StepsSd] at h
 | i,o::os,an::ans,us::uss,[],h=>by simp [StepsSd] at h
theorem Zu {rid:Nat} {l:List Oper} {a0:Act} {w w0:World}
  (vals:List (Option Value)) (Sx:Nat->Value->Value->Prop) (R:Nat->Value->Value->List Pr) (I:Nat->List Pr) (n sz:Nat)
  (ds:List (Option Tmp)) (pre anc use see:List (List Nat)) (dp:List (Option Nat)) (env:List (Nat × Value)) (hm:P.follows .mixedOrders=true)
  (hds:l.map (·.dst)=ds) (hdist:Distinct ds)
  (hpre:(l.map fun o=>(o.after.toList.filter (Region.binds .any ·)).map (·.on))=pre)
  (hok:(pre.length == n && ancOk pre anc && flowOk n anc use see && guardsOk l ds anc && anc.length == n && ds.all (fun d=>match d with | some t=>decide (t<sz) | none=>true) && depOk n anc dp)=true)
  (hsz:a0.tmps.size=sz) (henv:∀p,p ∈ env->a0.tmps[p.1]?.getD undef=p.2) (henv2:envOk env ds=true)
  (H:Sp w0 ((List.range n).flatMap I++L) w)
  (hstep:StepsSd P Q vals Sx R I dp ds env w0 L 0 l anc use see)
  (hend:∀(x:Nat->Value) (w:World) (A:Act),A=putAll a0 ds 0 x->(∀i,i<n->Sd vals Sx i (up dp x i) (x i)) ->
   Sp w0 ((List.range n).flatMap (fun i=>if (List.range n).any (fun k=>(use.getD k []).contains i) then [] else R i (up dp x i) (x i))++L) w->Q .normal A w) :
  (Code.region rid l.toArray true).wp P Q a0 w:=by
 simp only [Bool.and_eq_true,beq_iff_eq] at hok;obtain⟨⟨⟨⟨⟨⟨a,b⟩,c⟩,e⟩,f⟩,g⟩,h⟩:=hok;exact ZR (Sd vals Sx) R I n sz ds pre anc use see dp h env hm hds hdist hpre a b c e f hsz g henv henv2 H (Y9 0 l anc use see hstep) hend
end
end Go.Proofs.YteajimobgkempaaGreatDoor

