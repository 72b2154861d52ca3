/- A pack. -/
import Derived.Test.YteajimobgkempaaDoorPk01
set_option linter.all false
set_option maxRecDepth 100000
set_option maxHeartbeats 8000000
namespace Go.Proofs.YteajimobgkempaaDoor
variable {w0 w:World} {L:List Pr}
open Go.RowKit

theorem Sp.swapAt {x y:Pr} {l:List Pr} (K:List Pr) (H:Sp w0 (K++y::x::l) w):Sp w0 (K++x::y::l) w:=by
 obtain⟨g,j,k,own,h⟩:=H;refine⟨g,j,k,fun b=>if own b=K.length then K.length+1 else if own b=K.length+1 then K.length else own b,fun i A hi=>?_⟩;by_cases n:i<K.length
 ·have a : (K++y::x::l)[i]?=some A:=by rw [List.getElem?_append_left n] at hi ⊢; exact hi
  refine cast (congrArg A (ZA fun b=>?_)) (h i A a);by_cases c:own b=K.length
  ·rw [if_pos c]; omega
  ·rw [if_neg c];by_cases d:own b=K.length+1
   ·rw [if_pos d]; omega
   ·rw [if_neg d]
 ·rw [List.getElem?_append_right (by omega)] at hi;by_cases o:i=K.length
  ·subst o;have e:x=A:=by simpa using hi
   have a : (K++y::x::l)[K.length+1]?=some A:=by rw [List.getElem?_append_right (by omega),<- e]; simp
   refine cast (congrArg A (ZA fun b=>?_)) (h _ A a);by_cases c:own b=K.length
   ·rw [if_pos c]; omega
   ·rw [if_neg c];by_cases d:own b=K.length+1
    ·rw [if_pos d]; omega
    ·rw [if_neg d]; omega
  ·by_cases p:i=K.length+1
   ·subst p;have e:y=A:=by
     rw [show K.length+1 - K.length=1 by omega] at hi;simpa using hi
    have a : (K++y::x::l)[K.length]?=some A:=by rw [List.getElem?_append_right (by omega),<- e]; simp
    refine cast (congrArg A (ZA fun b=>?_)) (h _ A a);by_cases c:own b=K.length
    ·rw [if_pos c]; omega
    ·rw [if_neg c];by_cases d:own b=K.length+1
     ·rw [if_pos d]; omega
     ·rw [if_neg d]; omega
   ·obtain⟨m,f⟩:∃m,i - K.length=m+2:=⟨i - K.length - 2,by omega⟩;have a : (K++y::x::l)[i]?=some A:=by
     rw [List.getElem?_append_right (by omega),f];rw [f] at hi;simpa using hi
    refine cast (congrArg A (ZA fun b=>?_)) (h _ A a);by_cases c:own b=K.length
    ·rw [if_pos c]; omega
    ·rw [if_neg c];by_cases d:own b=K.length+1
     ·rw [if_pos d]; omega
     ·rw [if_neg d]
theorem Sp.perm_at {L L' : List Pr} (p:L.Perm L'):∀K:List Pr,Sp w0 (K++L) w->Sp w0 (K++L') w:=by
 induction p with
 | nil=>exact fun _ H=>H
 | cons x _ ih =>
  intro K H;have:=ih (K++[x]) (by simpa using H);simpa using this
 | swap x y l=>exact fun K H=>H.swapAt K
 | trans _ _ ih1 ih2=>exact fun K H=>ih2 K (ih1 K H)
theorem Sp.perm {L L' : List Pr} (H:Sp w0 L w) (p:L.Perm L'):Sp w0 L' w:=Sp.perm_at p [] H
theorem Yu (n:Nat) (σ:List Nat) (hnd:σ.Nodup) (hlt:∀i ∈ σ,i<n):(List.range n).Perm (σ++(List.range n).filter (fun k=>decide (k ∉ σ))):=by
 refine(List.perm_ext_iff_of_nodup List.nodup_range ?_).2 fun a=>?_
 ·refine List.nodup_append.2 ⟨hnd,List.Pairwise.filter _ List.nodup_range,fun a ha b hb e=>?_⟩;subst e;have:=(List.mem_filter.1 hb).2;simp at this;exact this ha
 ·simp only [List.mem_append,List.mem_filter,List.mem_range,decide_eq_true_eq];constructor
  ·intro h;by_cases e:a ∈ σ
   ·exact .inl e
   ·exact .inr ⟨h,e⟩
  ·rintro(h | h)
   ·exact hlt a h
   ·exact h.1

theorem Ze {α β:Type _} {l:List α} {f g:α->List β} (h:∀a ∈ l,f a=g a):l.flatMap f=l.flatMap g:=by
 induction l with
 | nil=>rfl
 | cons a l ih=>rw [List.flatMap_cons,List.flatMap_cons,h a (List.mem_cons_self ..),ih fun b hb=>h b (List.mem_cons_of_mem _ hb)]
noncomputable def tok (R:Nat->Value->List Pr) (I:Nat->List Pr) (use:List (List Nat)) (listed:Array Bool) (x:Nat->Value) (i:Nat):List Pr :=
 if listed.getD i false=true then (if (List.range use.length).any (fun k=>listed.getD k false && (use.getD k []).contains i) then [] else R i (x i)) else I i
theorem Xk (listed:Array Bool) (i j:Nat) (hi:i<listed.size):(listed.setIfInBounds i true).getD j false=if j=i then true else listed.getD j false:=by
 rw [Array.getD_eq_getD_getElem?,Array.getD_eq_getD_getElem?,Array.getElem?_setIfInBounds];by_cases a:i=j
 ·subst a; simp [hi]
 ·rw [if_neg a,if_neg (Ne.symm a)]
def ancOk (pre anc:List (List Nat)):Bool :=
 (List.range pre.length).all fun i =>
  (pre.getD i []).all (fun j=>decide (j<i) && (anc.getD i []).contains j && (anc.getD j []).all fun k=>(anc.getD i []).contains k) &&
  (anc.getD i []).all fun k=>decide (k<i) && ((pre.getD i []).contains k || (pre.getD i []).any fun j=>(anc.getD j []).contains k)
def flowOk (n:Nat) (anc use see:List (List Nat)):Bool :=
 decide (use.length=n) && (List.range n).all (fun i =>
  (use.getD i []).all (fun j=>(anc.getD i []).contains j && (List.range n).all fun k=>decide (k=i) || !(use.getD k []).contains j) &&
  (see.getD i []).all (fun k=>decide (k<n) && (anc.getD k []).contains i) && decide (use.getD i []).Nodup && decide (see.getD i []).Nodup)
section
variable {P:Program} {Q:Exit->Act->World->Prop}
def Gave (w0:World) (S:Nat->Value->Prop) (R:Nat->Value->List Pr) (i:Nat) (A:Act) (d:Option Tmp) (rest:List Pr) (a' : Act) (w' : World):Prop:=∃v,a'=A.put d v/\S i v/\Sp w0 (R i v++rest) w'
theorem wp_region_sp0 {rid:Nat} {l:List Oper} {a0:Act} {w w0:World}
    (S:Nat->Value->Prop) (R:Nat->Value->List Pr) (I:Nat->List Pr) (n:Nat)
    (ds:List (Option Tmp)) (pre anc use see:List (List Nat)) (hm:P.follows .mixedOrders=true)
    (hds:l.map (·.dst)=ds) (hdist:Distinct ds)
    (hpre:(l.map fun o=>(o.after.toList.filter (Region.binds .any ·)).map (·.on))=pre)
    (hn:pre.length=n) (hanc:ancOk pre anc=true) (hflow:flowOk n anc use see=true)
    (H:Sp w0 ((List.range n).flatMap I++L) w)
    (hstep:∀(i:Nat) (o:Oper),l[i]?=some o->∀(x:Nat->Value) (w:World) (A:Act) (rest:List Pr),A=putAll a0 ds 0 x ->
      (∀j ∈ anc.getD i [],S j (x j))->(∀j,i ∈ anc.getD j []->x j=base a0 ds j)->(∀φ,Ent L φ->Ent rest φ) ->
      Sp w0 (I i++((use.getD i []).flatMap (fun j=>R j (x j))++((see.getD i []).flatMap I++rest))) w ->
      wpList P l.toArray (Exit.then (Gave w0 S R i A o.dst ((see.getD i []).flatMap I++rest)) Q) [o] A w)
    (hend:∀(x:Nat->Value) (w:World) (A:Act),A=putAll a0 ds 0 x->(∀i,i<n->S i (x i)) ->
      Sp w0 ((List.range n).flatMap (fun i=>if (List.range n).any (fun k=>(use.getD k []).contains i) then [] else R i (x i))++L) w->Q .normal A w) :
    (Code.region rid l.toArray true).wp P Q a0 w:=by
  have b6:ds.length=l.length:=by rw [<- hds]; simp
  have b1:pre.length=l.length:=by rw [<- hpre]; simp
  have b7:l.toArray.size=l.length:=by simp
  have N:use.length=n:=by
    unfold flowOk at hflow;simp only [Bool.and_eq_true,decide_eq_true_eq] at hflow;exact hflow.1
  have b2:∀i o,l[i]?=some o->∀e ∈ o.after,Region.binds .any e=true->e.on ∈ pre.getD i []:=by
    intro i o Y e O D;rw [<- hpre,List.getD_eq_getElem?_getD,List.getElem?_map,Y];simp only [Option.map_some,Option.getD_some,List.mem_map,List.mem_filter];exact⟨e,⟨by simpa using O,D⟩,rfl⟩
  have a1 : ∀i o,l[i]?=some o->∀j ∈ pre.getD i [],∃e ∈ o.after,Region.binds .any e=true/\e.on=j:=by
    intro i o Y j c;rw [<- hpre,List.getD_eq_getElem?_getD,List.getElem?_map,Y] at c;simp only [Option.map_some,Option.getD_some,List.mem_map,List.mem_filter] at c;obtain⟨e,⟨O,D⟩,c⟩:=c;exact⟨e,by simpa using O,D,c⟩
  have a2:∀i,i<n->∀j ∈ pre.getD i [],j<i/\j ∈ anc.getD i []/\∀k ∈ anc.getD j [],k ∈ anc.getD i []:=by
    intro i u j c;have h:=List.all_eq_true.1 hanc i (by simp; omega);simp only [Bool.and_eq_true] at h;have:=List.all_eq_true.1 h.1 j c;simp only [Bool.and_eq_true,decide_eq_true_eq,List.contains_iff_mem] at this;refine⟨this.1.1,this.1.2,fun k hk=>?_⟩;have:=List.all_eq_true.1 this.2 k hk;simpa using this
  have s:∀i,i<n->∀k ∈ anc.getD i [],k<i/\(k ∈ pre.getD i []∨∃j ∈ pre.getD i [],k ∈ anc.getD j []):=by
    intro i u k hk;have h:=List.all_eq_true.1 hanc i (by simp; omega);simp only [Bool.and_eq_true] at h;have:=List.all_eq_true.1 h.2 k hk;simp only [Bool.and_eq_true,decide_eq_true_eq,Bool.or_eq_true,List.contains_iff_mem,List.any_eq_true] at this;refine⟨this.1,this.2.imp id ?_⟩;rintro⟨j,c,hk⟩;exact⟨j,c,by simpa using hk⟩
  have hF:∀i,i<n->(∀j ∈ use.getD i [],j ∈ anc.getD i []/\∀k,k<n->j ∈ use.getD k []->k=i)/\(∀k ∈ see.getD i [],k<n/\i ∈ anc.getD k [])/\(use.getD i []).Nodup/\(see.getD i []).Nodup:=by
    intro i u;unfold flowOk at hflow;simp only [Bool.and_eq_true] at hflow;have h:=List.all_eq_true.1 hflow.2 i (by simp; omega);simp only [Bool.and_eq_true,decide_eq_true_eq] at h;obtain⟨⟨⟨h1,h2⟩,h3⟩,h4⟩:=h;refine⟨fun j c=>?_,fun k hk=>?_,h3,h4⟩
    · have:=List.all_eq_true.1 h1 j c;simp only [Bool.and_eq_true,List.contains_iff_mem] at this;refine⟨this.1,fun k hk hjk=>?_⟩;have:=List.all_eq_true.1 this.2 k (by simp; omega);simp only [Bool.or_eq_true,decide_eq_true_eq,Bool.not_eq_true'] at this;rcases this with h | h
      · exact h
      · have h' : (use.getD k []).contains j=true:=by simpa using hjk
        rw [h'] at h; cases h
    · have:=List.all_eq_true.1 h2 k hk;simpa using this
  refine wp_region_any hm ?_
  let Inv:Array Bool->Act->World->Prop:=fun listed a w=>∃x:Nat->Value,a=putAll a0 ds 0 x /\
    (∀i,i<n->listed.getD i false=true->S i (x i)/\∀j ∈ anc.getD i [],listed.getD j false=true)/\(∀i,listed.getD i false=false->x i=base a0 ds i) /\
    Sp w0 ((List.range n).flatMap (tok R I use listed x)++L) w
  refine Yd Inv ?_ ?_ _ _ _ _ (by simp) (by simp) ?_
  · rintro listed a w i hs ⟨x,rfl,g,T,U⟩ u;obtain⟨h1,h2,o,Y,a3⟩:=ZW u;have q:i<n:=by rw [<- hn,b1]; simpa using h1
    have J:i<listed.size:=by omega
    have y : l[i]?=some o:=by simpa using Y
    have V:listed.getD i false=false:=by
      rw [Array.getD_eq_getD_getElem?,Array.getElem?_eq_getElem J] at h2 ⊢;simpa using h2
    have a4:∀j ∈ pre.getD i [],listed.getD j false=true:=fun j c=>by
      obtain⟨e,O,D,rfl⟩:=a1 i o y j c;exact a3 e O D
    have z:∀j ∈ anc.getD i [],listed.getD j false=true:=fun j c=>by
      obtain⟨_,h | ⟨k,hk,hjk⟩⟩:=s i q j c
      · exact a4 j h
      · exact(g k (by have:=(a2 i q k hk).1; omega) (a4 k hk)).2 j hjk
    have r:∀k,i ∈ anc.getD k []->listed.getD k false=false:=fun k hk=>by
      cases hc:listed.getD k false with
      | false=>rfl
      | true =>
        by_cases b3:k<n
        · have:=(g k b3 hc).2 i hk;rw [V] at this; cases this
        · rw [Array.getD_eq_getD_getElem?,Array.getElem?_eq_none (by omega)] at hc;simp at hc
    obtain⟨Z,W,f3,f4⟩:=hF i q
    -- the pool, parted
    have b4:(i::(use.getD i []++see.getD i [])).Nodup:=by
      refine List.nodup_cons.2 ⟨fun h=>?_,List.nodup_append.2 ⟨f3,f4,fun a ha b D e=>?_⟩⟩
      · rcases List.mem_append.1 h with h | h
        · have:=(s i q i (Z i h).1).1; omega
        · have:=(s i q i (W i h).2).1; omega
      · subst e;have h5:=z a (Z a ha).1;have h6:=r a (W a D).2;rw [h5] at h6; cases h6
    have X:∀j ∈ i::(use.getD i []++see.getD i []),j<n:=fun j c=>by
      rcases List.mem_cons.1 c with rfl | c
      · exact q
      · rcases List.mem_append.1 c with h | h
        · have:=(s i q j (Z j h).1).1; omega
        · exact(W j h).1
    have hp:=Yu n _ b4 X;obtain⟨p,K⟩:∃p,p=(List.range n).filter (fun k=>decide (k ∉ i::(use.getD i []++see.getD i []))):=⟨_,rfl⟩;rw [<- K] at hp;have a5:∀f:Nat->List Pr,((List.range n).flatMap f++L).Perm (f i++((use.getD i []).flatMap f++((see.getD i []).flatMap f++(p.flatMap f++L)))):=fun f=>by
      have:=(hp.flatMap_right f).append_right L;simpa only [List.flatMap_append,List.flatMap_cons,List.append_assoc,List.cons_append] using this
    have hH:=U.perm (a5 _);have t0:tok R I use listed x i=I i:=by unfold tok; rw [V,if_neg (by simp)]
    have tu:∀j ∈ use.getD i [],tok R I use listed x j=R j (x j):=fun j c=>by
      unfold tok;rw [if_pos (z j (Z j c).1),if_neg];intro h;obtain⟨k,hk,h⟩:=List.any_eq_true.1 h;simp only [Bool.and_eq_true,List.contains_iff_mem] at h;have E : k<n:=by rw [<- N]; simpa using hk
      have:=(Z j c).2 k E (by simpa using h.2);subst this;rw [V] at h; exact absurd h.1 (by simp)
    have ts:∀k ∈ see.getD i [],tok R I use listed x k=I k:=fun k hk=>by
      unfold tok; rw [r k (W k hk).2,if_neg (by simp)]
    have eu:(use.getD i []).flatMap (tok R I use listed x)=(use.getD i []).flatMap (fun j=>R j (x j)):=Ze fun j c=>tu j c;have es:(see.getD i []).flatMap (tok R I use listed x)=(see.getD i []).flatMap I:=Ze fun j c=>ts j c;rw [t0,eu,es] at hH;have a6:∀φ,Ent L φ->Ent (p.flatMap (tok R I use listed x)++L) φ:=fun φ hφ w0' w' H'=>hφ _ _ (by
      have:=H'.pick (p.flatMap (tok R I use listed x)).length [] ⟨List.nodup_nil,fun _ h=>by cases h⟩;simpa using this)
    have F:=hstep i o y x w _ (p.flatMap (tok R I use listed x)++L) rfl (fun j c=>(g j (by have:=(s i q j c).1; omega) (z j c)).1) (fun j c=>T j (r j c)) a6 hH;have a7:∀a' w',Gave w0 S R i (putAll a0 ds 0 x) o.dst ((see.getD i []).flatMap I++(p.flatMap (tok R I use listed x)++L)) a' w'->Inv (listed.setIfInBounds i true) a' w':=by
      rintro a' w' ⟨v,rfl,hS,a8⟩;have d:=fun j=>Xk listed i j J;have B:∀j,j≠i->setX x i v j=x j:=fun j c=>by unfold setX; rw [if_neg c]
      have a9:setX x i v i=v:=by unfold setX; rw [if_pos rfl]
      refine⟨setX x i v,?_,fun j c hlj=>?_,fun j hlj=>?_,?_⟩
      · have hd:o.dst=ds.getD i none:=by
          rw [<- hds,List.getD_eq_getElem?_getD,List.getElem?_map,y]; rfl
        rw [hd,Z2 x v ds 0 a0 i hdist (by omega),Nat.zero_add]
      · by_cases t:j=i
        · subst t;refine⟨by rw [a9]; exact hS,fun k hk=>?_⟩;rw [d]; split
          · rfl
          · exact z k hk
        · rw [d,if_neg t] at hlj;obtain⟨q1,q2⟩:=g j c hlj;refine⟨by rw [B j t]; exact q1,fun k hk=>?_⟩;rw [d]; split
          · rfl
          · exact q2 k hk
      · rw [d] at hlj;by_cases t:j=i
        · rw [if_pos t] at hlj; cases hlj
        · rw [if_neg t] at hlj;rw [B j t]; exact T j hlj
      · refine Sp.perm ?_ (a5 _).symm;have n0:tok R I use (listed.setIfInBounds i true) (setX x i v) i=R i v:=by
          unfold tok;rw [d,if_pos rfl,if_pos rfl,a9,if_neg];intro h;obtain⟨k,hk,h⟩:=List.any_eq_true.1 h;simp only [Bool.and_eq_true,List.contains_iff_mem] at h;have E : k<n:=by rw [<- N]; simpa using hk
          have h5:=((hF k E).1 i (by simpa using h.2)).1;have h6:=(s k E i h5).1;have h7:=r k h5;rw [d,if_neg (by omega),h7] at h;exact absurd h.1 (by simp)
        have nu:(use.getD i []).flatMap (tok R I use (listed.setIfInBounds i true) (setX x i v))=[]:=by
          rw [List.flatMap_eq_nil_iff];intro j c;unfold tok;rw [d,if_pos,if_pos]
          · refine List.any_eq_true.2 ⟨i,by simp; omega,?_⟩;rw [d,if_pos rfl]; simpa using c
          · split
            · rfl
            · exact z j (Z j c).1
        have ns:(see.getD i []).flatMap (tok R I use (listed.setIfInBounds i true) (setX x i v))=(see.getD i []).flatMap I:=Ze fun k hk=>by
          unfold tok;have:=(s k (W k hk).1 i (W k hk).2).1;rw [d,if_neg (show ¬ k=i by omega),r k (W k hk).2,if_neg (by simp)]
        have no:p.flatMap (tok R I use (listed.setIfInBounds i true) (setX x i v))=p.flatMap (tok R I use listed x):=Ze fun k hk=>by
          have G:=(List.mem_filter.1 (K ▸ hk)).2;simp only [List.mem_cons,List.mem_append,not_or,decide_eq_true_eq] at G;unfold tok;rw [d,if_neg G.1,B k G.1];have e:((List.range use.length).any fun k_1=>(listed.setIfInBounds i true).getD k_1 false && (use.getD k_1 []).contains k)=((List.range use.length).any fun k_1=>listed.getD k_1 false && (use.getD k_1 []).contains k):=by
            congr 1;funext m;rw [d];by_cases b0:m=i
            · subst b0;have:(use.getD m []).contains k=false:=by simpa using G.2.1
              rw [this]; simp
            · rw [if_neg b0]
          rw [e]
        rw [n0,nu,ns,no,List.nil_append];exact a8
    unfold wpOp;simp only [Y];unfold wpList at F;split at F
    · rename_i hw
      rw [if_pos hw];rcases F with h | ⟨h,h'⟩
      · exact .inl (Oper.wp_mono (fun a' w' hh=>a7 a' w' hh) (Yt h))
      · exact .inr ⟨h,h'⟩
    · rename_i hw
      rw [if_neg hw];exact a7 _ _ F
  · rintro listed a w hs ⟨x,rfl,g,T,U⟩ hr;have C:∀i,i<n->listed.getD i false=true:=by
      intro i;induction i using Nat.strongRecOn with
      | _ i ih =>
        intro u;cases hc:listed.getD i false with
        | true=>rfl
        | false =>
          exfalso;have X:i<l.toArray.size:=by omega
          have:i ∈ Region.ready .any l.toArray listed:=by
            refine Xj X ?_ fun e O D=>?_
            · have:i<listed.size:=by omega
              rw [Array.getD_eq_getD_getElem?,Array.getElem?_eq_getElem this] at hc ⊢;simpa using hc
            · have y : l[i]?=some l.toArray[i]:=by simp
              have hm:=b2 i _ y e O D;have:=(a2 i u _ hm).1;exact ih _ this (by omega)
          rw [hr] at this;cases this
    refine hend x w _ rfl (fun i u=>(g i u (C i u)).1) ?_;refine cast (congrArg (fun M=>Sp w0 (M++L) w) (Ze fun i u=>?_)) U;have b5 : i<n:=by simpa using u
    unfold tok;rw [if_pos (C i b5),N];have e:((List.range n).any fun k=>listed.getD k false && (use.getD k []).contains i)=((List.range n).any fun k=>(use.getD k []).contains i):=by
      rw [Bool.eq_iff_iff,List.any_eq_true,List.any_eq_true];constructor
      · rintro⟨k,hk,h⟩;exact⟨k,hk,(Bool.and_eq_true _ _ ▸ h).2⟩
      · rintro⟨k,hk,h⟩;exact⟨k,hk,by rw [C k (by simpa using hk),h]; rfl⟩
    rw [e]
  · refine⟨base a0 ds,(ZU _ ds 0 a0 fun i _=>by rw [Nat.zero_add]).symm,fun i _ hc=>?_,fun i _=>rfl,?_⟩
    · exfalso;rw [Array.getD_eq_getD_getElem?] at hc;simp [Array.getElem?_replicate] at hc;split at hc <;> simp at hc
    · have:Sp w0 ((List.range n).flatMap I++L) { w with drawn:=w.drawn+1 }:=H.drew;refine cast (congrArg (fun M=>Sp w0 (M++L) _) (Ze fun i u=>?_)) this;unfold tok;rw [if_neg];rw [Array.getD_eq_getD_getElem?];simp only [Array.getElem?_replicate];split <;> simp
theorem upon_exits' {o:Oper} {a:Act} {w:World} {K K' : Act->World->Prop} (h:o.wp P a w K Q):o.wp P a w K (Exit.then K' Q):=by
 unfold Oper.wp at *
 revert h
 cases (execOp a.eval o).run P w with
 | ok n w'=>cases n <;> simp only [Oper.upon] <;> exact id
 | halt x w'=>cases x <;> simp only [Oper.upon] <;> exact id
theorem putAll_eval (x:Nat->Value):∀(ds:List (Option Tmp)) (k i t:Nat) (a:Act),Distinct ds->ds[i]?=some (some t)->t<a.tmps.size->(putAll a ds k x).tmps[t]?=some (x (k+i))
 | [],_,_,_,_,_,h,_=>by simp at h
 | d::ds,k,0,t,a,hd,h,ht=>by
  have:d=some t:=by simpa using h
  subst this;unfold putAll;have c:∀(ds:List (Option Tmp)) (k:Nat) (b:Act),some t ∉ ds->(putAll b ds k x).tmps[t]?=b.tmps[t]?:=by
   intro ds;induction ds with
   | nil=>intro k b _; rfl
   | cons e ds ih =>
    intro k b f;unfold putAll;rw [ih _ _ (fun h=>f (List.mem_cons_of_mem _ h))];cases e with
    | none=>rfl
    | some e =>
     simp only [Act.put];rw [Array.getElem?_setIfInBounds,if_neg];rintro rfl;exact f (List.mem_cons_self ..)
  rw [c _ _ _ (hd.1 t rfl)];simp [Act.put,ht]
 | d::ds,k,i+1,t,a,hd,h,ht=>by
  unfold putAll;rw [putAll_eval x ds (k+1) i t _ hd.2 (by simpa using h) (by cases d <;> simpa [Act.put] using ht)]
  rw [show k+1+i=k+(i+1) by omega]
theorem putAll_eval_far (x:Nat->Value) (t:Nat):∀(ds:List (Option Tmp)) (k:Nat) (a:Act),some t ∉ ds->(putAll a ds k x).tmps[t]?=a.tmps[t]?
 | [],_,_,_=>rfl
 | d::ds,k,a,h=>by
  unfold putAll;rw [putAll_eval_far x t ds (k+1) _ (fun hm=>h (List.mem_cons_of_mem _ hm))];cases d with
  | none=>rfl
  | some e =>
   simp only [Act.put];rw [Array.getElem?_setIfInBounds,if_neg];rintro rfl;exact h (List.mem_cons_self ..)
def yieldsV:Value->Option Bool
 | .bool b=>some b
 | _=>none
def StepOb (P:Program) (Q:Exit->Act->World->Prop) (o:Oper) (x:Nat->Value) (A:Act) (w:World) (K:Act->World->Prop):Prop :=
 match o.guard with
 | none=>o.wp P A w K Q
 | some (j,b)=>∃c,yieldsV (x j)=c/\if c=some b then o.wp P A w K Q else K (A.put o.dst undef) w
theorem tq {l:List Nat} {φ ψ:Nat->Prop} (h:∀j,j ∈ l->φ j/\ψ j) (j:Nat) {T V x:Value} (m:j ∈ l:=by decide) (a:φ j->x=V:=by exact fun q=>q) (b:ψ j->T=x:=by exact fun q=>q _ rfl):T=V:=(b (h j m).2).trans (a (h j m).1)
theorem so {P:Program} {Q:Exit->Act->World->Prop} {o:Oper} {x:Nat->Value} {A:Act} {w:World} {K:Act->World->Prop} (h:o.wp P A w K Q) (g:o.guard=none:=by rfl):StepOb P Q o x A w K:=by
 unfold StepOb;rw [g];exact h
theorem sgT {P:Program} {Q:Exit->Act->World->Prop} {o:Oper} {x:Nat->Value} {A:Act} {w:World} {K:Act->World->Prop} {j:Nat} (pg:x j=.bool true) (h:o.wp P A w K Q) (g:o.guard=some (j,true):=by rfl):StepOb P Q o x A w K:=by
 unfold StepOb;rw [g];exact⟨some true,by rw [pg]; rfl,by rw [if_pos rfl]; exact h⟩
theorem sgF {P:Program} {Q:Exit->Act->World->Prop} {o:Oper} {x:Nat->Value} {A:Act} {w:World} {K:Act->World->Prop} {j:Nat} (pg:x j=.bool false) (h:K (A.put o.dst undef) w) (g:o.guard=some (j,true):=by rfl):StepOb P Q o x A w K:=by
 unfold StepOb;rw [g];exact⟨some false,by rw [pg]; rfl,by rw [if_neg (by decide)]; exact h⟩
def StepsSp (P:Program) (Q:Exit->Act->World->Prop) (S:Nat->Value->Prop) (R:Nat->Value->List Pr) (I:Nat->List Pr) (ds:List (Option Tmp)) (env:List (Nat × Value)) (w0:World) (L:List Pr):Nat->List Oper->List (List Nat)->List (List Nat)->List (List Nat)->Prop
 | i,o::os,an::ans,us::uss,se::ses=>(∀(x:Nat->Value) (w:World) (A:Act) (rest:List Pr),
   (∀p,p ∈ env->A.tmps[p.1]?.getD undef=p.2)->(∀j,j ∈ an->S j (x j)/\∀t,ds.getD j none=some t->A.tmps[t]?.getD undef=x j)->(∀φ,Ent L φ->Ent rest φ) ->
   Sp w0 (I i++(us.flatMap (fun j=>R j (x j))++(se.flatMap I++rest))) w ->
   ∀K:Act->World->Prop,(∀v w',S i v->Sp w0 (R i v++(se.flatMap I++rest)) w'->K (A.put o.dst v) w') ->
   StepOb P Q o x A w K)/\StepsSp P Q S R I ds env w0 L (i+1) os ans uss ses
 | _,[],[],[],[]=>True
 | _,_,_,_,_=>False
theorem Ye {S:Nat->Value->Prop} {R:Nat->Value->List Pr} {I:Nat->List Pr} {ds:List (Option Tmp)} {env:List (Nat × Value)} {w0:World} :
  ∀(l:List Oper) (k i:Nat) (o:Oper) (ans uss ses:List (List Nat)),StepsSp P Q S R I ds env w0 L k l ans uss ses->l[i]?=some o ->
  ∀(x:Nat->Value) (w:World) (A:Act) (rest:List Pr),
   (∀p,p ∈ env->A.tmps[p.1]?.getD undef=p.2)->(∀j,j ∈ ans.getD i []->S j (x j)/\∀t,ds.getD j none=some t->A.tmps[t]?.getD undef=x j)->(∀φ,Ent L φ->Ent rest φ) ->
   Sp w0 (I (k+i)++((uss.getD i []).flatMap (fun j=>R j (x j))++((ses.getD i []).flatMap I++rest))) w ->
   ∀K:Act->World->Prop,(∀v w',S (k+i) v->Sp w0 (R (k+i) v++((ses.getD i []).flatMap I++rest)) w'->K (A.put o.dst v) w') ->
   StepOb P Q o x A w K
 | [],_,_,_,_,_,_,_,h=>by simp at h
 | o::os,k,i,o',[],uss,ses,hs,h=>by simp [StepsSp] at hs
 | o::os,k,i,o',an::ans,[],ses,hs,h=>by simp [StepsSp] at hs
 | o::os,k,i,o',an::ans,us::uss,[],hs,h=>by simp [StepsSp] at hs
 | o::os,k,0,o',an::ans,us::uss,se::ses,hs,h=>by
  have:o=o':=by simpa using h
  subst this;exact hs.1
 | o::os,k,i+1,o',an::ans,us::uss,se::ses,hs,h=>by
  have:=Ye os (k+1) i o' ans uss ses hs.2 (by simpa using h);rw [show k+1+i=k+(i+1) by omega] at this;exact this
def guardsOk (l:List Oper) (ds:List (Option Tmp)) (anc:List (List Nat)):Bool :=
 (l.zip anc).all fun p=>match p.1.guard with
  | none=>true
  | some (j,_)=>p.2.contains j && (ds.getD j none).isSome
def envOk (env:List (Nat × Value)) (ds:List (Option Tmp)):Bool:=env.all fun p=>!ds.contains (some p.1)
theorem Zg {rid:Nat} {l:List Oper} {a0:Act} {w w0:World}
  (S:Nat->Value->Prop) (R:Nat->Value->List Pr) (I:Nat->List Pr) (n sz:Nat)
  (ds:List (Option Tmp)) (pre anc use see:List (List Nat)) (env:List (Nat × Value)) (hm:P.follows .mixedOrders=true)
  (hds:l.map (·.dst)=ds) (hdist:Distinct ds)
  (hpre:(l.map fun o=>(o.after.toList.filter (Region.binds .any ·)).map (·.on))=pre)
  (hn:pre.length=n) (hanc:ancOk pre anc=true) (hflow:flowOk n anc use see=true) (hgu:guardsOk l ds anc=true) (hanl:anc.length=n)
  (hsz:a0.tmps.size=sz) (hlt:ds.all (fun d=>match d with | some t=>decide (t<sz) | none=>true)=true)
  (henv:∀p,p ∈ env->a0.tmps[p.1]?.getD undef=p.2) (henv2:envOk env ds=true)
  (H:Sp w0 ((List.range n).flatMap I++L) w)
  (hstep:StepsSp P Q S R I ds env w0 L 0 l anc use see)
  (hend:∀(x:Nat->Value) (w:World) (A:Act),A=putAll a0 ds 0 x->(∀i,i<n->S i (x i)) ->
   Sp w0 ((List.range n).flatMap (fun i=>if (List.range n).any (fun k=>(use.getD k []).contains i) then [] else R i (x i))++L) w->Q .normal A w) :
  (Code.region rid l.toArray true).wp P Q a0 w:=by
 have F:ds.length=l.length:=by rw [<- hds]; simp
 have G:pre.length=l.length:=by rw [<- hpre]; simp
 refine wp_region_sp0 S R I n ds pre anc use see hm hds hdist hpre hn hanc hflow H (fun i o ho x w A rest hA hS hu hE hH=>?_) hend;have J:i<l.length:=(List.getElem?_eq_some_iff.1 ho).1;have g:∀j,j<n->∀t,ds.getD j none=some t->A.tmps[t]?=some (x j):=fun j hj t ht=>by
  have f : j<ds.length:=by omega
  rw [List.getD_eq_getElem?_getD,List.getElem?_eq_getElem f] at ht;simp only [Option.getD_some] at ht;have q:=List.all_eq_true.1 hlt _ (List.getElem_mem f);rw [ht] at q;replace q:t<sz:=by simpa using q
  rw [hA,putAll_eval x ds 0 j t a0 hdist (by rw [List.getElem?_eq_getElem f,ht]) (Nat.lt_of_lt_of_eq q hsz.symm),Nat.zero_add]
 have m:∀j,j ∈ anc.getD i []->j<n:=fun j hj=>by
  have h:=List.all_eq_true.1 hanc i (by simp; omega);simp only [Bool.and_eq_true] at h;have:=List.all_eq_true.1 h.2 j hj;simp only [Bool.and_eq_true,decide_eq_true_eq] at this;omega
 have e:=Ye l 0 i o anc use see hstep ho x w A rest (fun p hp=>by
   have u:=List.all_eq_true.1 henv2 p hp;rw [hA,putAll_eval_far x p.1 ds 0 a0 (by simpa using u)];exact henv p hp) (fun j hj=>⟨hS j hj,fun t ht=>by rw [g j (m j hj) t ht]; rfl⟩) hE (by rw [Nat.zero_add]; exact hH)
  (Gave w0 S R i A o.dst ((see.getD i []).flatMap I++rest)) (fun v w' h1 u=>⟨v,rfl,by rwa [Nat.zero_add] at h1,by rwa [Nat.zero_add] at u⟩)
 unfold StepOb at e;unfold wpList;cases hg:o.guard with
 | none =>
  rw [hg] at e;have y:Region.wanted o (yielded l.toArray A.tmps)=true:=by simp [Region.wanted,hg]
  rw [if_pos y];refine .inl ?_;refine Oper.wp_mono (fun a w h=>?_) (upon_exits' e);exact h
 | some p =>
  obtain⟨j,b⟩:=p;rw [hg] at e;obtain⟨c,K,e⟩:=e;have s:=List.all_eq_true.1 hgu (o,anc.getD i []) (by
   rw [List.mem_iff_getElem?];refine⟨i,?_⟩;rw [List.getElem?_zip_eq_some];refine⟨ho,?_⟩;rw [List.getD_eq_getElem?_getD,List.getElem?_eq_getElem (by omega)]; rfl)
  simp only [hg,Bool.and_eq_true,List.contains_iff_mem] at s;obtain⟨z,B⟩:=s;have C:=m j z;obtain⟨t,ht⟩:=Option.isSome_iff_exists.1 B;have M:yielded l.toArray A.tmps j=c:=by
   unfold yielded;have D:(l.toArray[j]?).bind (·.dst)=some t:=by
    have f : j<ds.length:=by omega
    rw [List.getD_eq_getElem?_getD,List.getElem?_eq_getElem f] at ht;simp only [Option.getD_some] at ht;subst hds;have E:j<l.length:=by simpa using f
    rw [List.getElem_map] at ht;simp [E,ht]
   rw [D];simp only [Option.bind_some,g j C t ht];rw [<- K];cases x j <;> rfl
  have y:Region.wanted o (yielded l.toArray A.tmps)=(c == some b):=by simp [Region.wanted,hg,M]
  rw [y];by_cases r:c=some b
  ·rw [if_pos r] at e;rw [if_pos (by simp [r])];exact .inl (upon_exits' e)
  ·rw [if_neg r] at e;rw [if_neg (by simpa using r)];exact e
end
section
variable {P:Program} {Q:Exit->Act->World->Prop}
theorem putAll_defers (x:Nat->Value):∀(ds:List (Option Tmp)) (k:Nat) (a:Act),(putAll a ds k x).defers=a.defers
 | [],_,_=>rfl
 | d::ds,k,a=>by
  unfold putAll;rw [putAll_defers x ds (k+1) _];cases d <;> rfl
theorem Sp.sub {L rest:List Pr} (H:Sp w0 rest w) (hE:∀φ,Ent L φ->Ent rest φ):Sp w0 L w :=
 ⟨H.os,H.tape,H.output,hE (fun w=>∃own:Nat->Nat,∀(i:Nat) (A:Pr),L[i]?=some A->A (cut (hpOf w) own i)) (fun _ _ h=>h.own) _ _ H⟩
def freeAt4 (ds:List (Option Tmp)) (anc:List (List Nat)) (i t:Nat):Bool:=(List.range ds.length).all fun j=>if ds.getD j none=some t then (anc.getD j []).contains i else true
def StepsSr (P:Program) (Q:Exit->Act->World->Prop) (S:Nat->Value->Prop) (R:Nat->Value->List Pr) (I:Nat->List Pr) (ds:List (Option Tmp)) (ac:List (List Nat)) (env:List (Nat × Value)) (w0:World) (L:List Pr):Nat->List Oper->List (List Nat)->List (List Nat)->List (List Nat)->Prop
 | i,o::os,an::ans,us::uss,se::ses=>(∀(x:Nat->Value) (w:World) (A:Act) (rest:List Pr),
   A.defers=[]->(∀p,p ∈ env->freeAt4 ds ac i p.1=true->A.tmps[p.1]?.getD undef=p.2)->(∀j,j ∈ an->S j (x j)/\∀t,ds.getD j none=some t->A.tmps[t]?.getD undef=x j)->(∀φ,Ent L φ->Ent rest φ) ->
   Sp w0 (I i++(us.flatMap (fun j=>R j (x j))++(se.flatMap I++rest))) w ->
   ∀K:Act->World->Prop,(∀v w',S i v->Sp w0 (R i v++(se.flatMap I++rest)) w'->K (A.put o.dst v) w') ->
   StepOb P Q o x A w K)/\StepsSr P Q S R I ds ac env w0 L (i+1) os ans uss ses
 | _,[],[],[],[]=>True
 | _,_,_,_,_=>False
theorem stepsSr_get {S:Nat->Value->Prop} {R:Nat->Value->List Pr} {I:Nat->List Pr} {ds:List (Option Tmp)} {ac:List (List Nat)} {env:List (Nat × Value)} {w0:World} :
  ∀(l:List Oper) (k i:Nat) (o:Oper) (ans uss ses:List (List Nat)),StepsSr P Q S R I ds ac env w0 L k l ans uss ses->l[i]?=some o ->
  ∀(x:Nat->Value) (w:World) (A:Act) (rest:List Pr),
   A.defers=[]->(∀p,p ∈ env->freeAt4 ds ac (k+i) p.1=true->A.tmps[p.1]?.getD undef=p.2)->(∀j,j ∈ ans.getD i []->S j (x j)/\∀t,ds.getD j none=some t->A.tmps[t]?.getD undef=x j)->(∀φ,Ent L φ->Ent rest φ) ->
   Sp w0 (I (k+i)++((uss.getD i []).flatMap (fun j=>R j (x j))++((ses.getD i []).flatMap I++rest))) w ->
   ∀K:Act->World->Prop,(∀v w',S (k+i) v->Sp w0 (R (k+i) v++((ses.getD i []).flatMap I++rest)) w'->K (A.put o.dst v) w') ->
   StepOb P Q o x A w K
 | [],_,_,_,_,_,_,_,h=>by simp at h
 | o::os,k,i,o',[],uss,ses,hs,h=>by simp [StepsSr] at hs
 | o::os,k,i,o',an::ans,[],ses,hs,h=>by simp [StepsSr] at hs
 | o::os,k,i,o',an::ans,us::uss,[],hs,h=>by simp [StepsSr] at hs
 | o::os,k,0,o',an::ans,us::uss,se::ses,hs,h=>by
  have:o=o':=by simpa using h
  subst this;exact hs.1
 | o::os,k,i+1,o',an::ans,us::uss,se::ses,hs,h=>by
  have:=stepsSr_get os (k+1) i o' ans uss ses hs.2 (by simpa using h);rw [show k+1+i=k+(i+1) by omega] at this;exact this
theorem wp_region_sr {rid:Nat} {l:List Oper} {a0:Act} {w w0:World} {L:List Pr}
    (S:Nat->Value->Prop) (R:Nat->Value->List Pr) (I:Nat->List Pr) (n sz:Nat)
    (ds:List (Option Tmp)) (pre anc use see:List (List Nat)) (env:List (Nat × Value)) (hm:P.follows .mixedOrders=true)
    (hds:l.map (·.dst)=ds) (hdist:Distinct ds)
    (hpre:(l.map fun o=>(o.after.toList.filter (Region.binds .any ·)).map (·.on))=pre)
    (hn:pre.length=n) (hanc:ancOk pre anc=true) (hflow:flowOk n anc use see=true) (hgu:guardsOk l ds anc=true) (hanl:anc.length=n)
    (hdv:a0.defers=[]) (hsz:a0.tmps.size=sz) (hlt:ds.all (fun d=>match d with | some t=>decide (t<sz) | none=>true)=true)
    (henv:∀p,p ∈ env->a0.tmps[p.1]?.getD undef=p.2)
    (H:Sp w0 ((List.range n).flatMap I++L) w)
    (hstep:StepsSr P Q S R I ds anc env w0 L 0 l anc use see)
    (hend:∀(x:Nat->Value) (w:World) (A:Act),A=putAll a0 ds 0 x->(∀i,i<n->S i (x i)) ->
      Sp w0 ((List.range n).flatMap (fun i=>if (List.range n).any (fun k=>(use.getD k []).contains i) then [] else R i (x i))++L) w->Q .normal A w) :
    (Code.region rid l.toArray true).wp P Q a0 w:=by
  have hdl:ds.length=l.length:=by rw [<- hds]; simp
  have hpl:pre.length=l.length:=by rw [<- hpre]; simp
  refine wp_region_sp0 S R I n ds pre anc use see hm hds hdist hpre hn hanc hflow H (fun i o ho x w A rest hA hS hu hE hH=>?_) hend
  have hil:i<l.length:=(List.getElem?_eq_some_iff.1 ho).1
  have hslot:∀j,j<n->∀t,ds.getD j none=some t->A.tmps[t]?=some (x j):=fun j hj t ht=>by
    have hj' : j<ds.length:=by omega
    rw [List.getD_eq_getElem?_getD,List.getElem?_eq_getElem hj'] at ht
    simp only [Option.getD_some] at ht
    have htl:=List.all_eq_true.1 hlt _ (List.getElem_mem hj')
    rw [ht] at htl
    replace htl:t<sz:=by simpa using htl
    rw [hA,putAll_eval x ds 0 j t a0 hdist (by rw [List.getElem?_eq_getElem hj',ht]) (Nat.lt_of_lt_of_eq htl hsz.symm),Nat.zero_add]
  have hanlt:∀j,j ∈ anc.getD i []->j<n:=fun j hj=>by
    have h:=List.all_eq_true.1 hanc i (by simp; omega)
    simp only [Bool.and_eq_true] at h
    have:=List.all_eq_true.1 h.2 j hj
    simp only [Bool.and_eq_true,decide_eq_true_eq] at this
    omega
  have hob:=stepsSr_get l 0 i o anc use see hstep ho x w A rest (by rw [hA,putAll_defers]; exact hdv) (fun p hp hfr=>by
      rw [Nat.zero_add] at hfr
      rw [<- henv p hp,hA]
      by_cases hm:some p.1 ∈ ds
      · obtain⟨j,hj,hjt⟩:=List.getElem_of_mem hm
        have hfj:=List.all_eq_true.1 hfr j (by simpa using hj)
        have hdj:ds.getD j none=some p.1:=by rw [List.getD_eq_getElem?_getD,List.getElem?_eq_getElem hj,hjt]; rfl
        rw [if_pos hdj] at hfj
        have hb:=hu j (by simpa using hfj)
        have hpt:p.1<a0.tmps.size:=by
          have htl:=List.all_eq_true.1 hlt _ (List.getElem_mem hj)
          rw [hjt] at htl
          replace htl:p.1<sz:=by simpa using htl
          omega
        rw [putAll_eval x ds 0 j p.1 a0 hdist (by rw [List.getElem?_eq_getElem hj,hjt]) hpt,Nat.zero_add,hb]
        unfold base
        rw [hdj]
        show(some (a0.tmps.getD p.1 undef)).getD undef=_
        rw [Array.getD_eq_getD_getElem?]; rfl
      · rw [putAll_eval_far x p.1 ds 0 a0 hm]) (fun j hj=>⟨hS j hj,fun t ht=>by rw [hslot j (hanlt j hj) t ht]; rfl⟩) hE (by rw [Nat.zero_add]; exact hH)
    (Gave w0 S R i A o.dst ((see.getD i []).flatMap I++rest)) (fun v w' h1 h2=>⟨v,rfl,by rwa [Nat.zero_add] at h1,by rwa [Nat.zero_add] at h2⟩)
  unfold StepOb at hob
  unfold wpList
  cases hg:o.guard with
  | none =>
    rw [hg] at hob
    have hw:Region.wanted o (yielded l.toArray A.tmps)=true:=by simp [Region.wanted,hg]
    rw [if_pos hw]
    refine .inl ?_
    refine Oper.wp_mono (fun a w h=>?_) (upon_exits' hob)
    exact h
  | some p =>
    obtain⟨j,b⟩:=p
    rw [hg] at hob
    obtain⟨c,hc,hob⟩:=hob
    have hg2:=List.all_eq_true.1 hgu (o,anc.getD i []) (by
      rw [List.mem_iff_getElem?]
      refine⟨i,?_⟩
      rw [List.getElem?_zip_eq_some]
      refine⟨ho,?_⟩
      rw [List.getD_eq_getElem?_getD,List.getElem?_eq_getElem (by omega)]; rfl)
    simp only [hg,Bool.and_eq_true,List.contains_iff_mem] at hg2
    obtain⟨hja,hjs⟩:=hg2
    have hjn:=hanlt j hja
    obtain⟨t,ht⟩:=Option.isSome_iff_exists.1 hjs
    have hy:yielded l.toArray A.tmps j=c:=by
      unfold yielded
      have hdj:(l.toArray[j]?).bind (·.dst)=some t:=by
        have hj' : j<ds.length:=by omega
        rw [List.getD_eq_getElem?_getD,List.getElem?_eq_getElem hj'] at ht
        simp only [Option.getD_some] at ht
        subst hds
        have hj2:j<l.length:=by simpa using hj'
        rw [List.getElem_map] at ht
        simp [hj2,ht]
      rw [hdj]
      simp only [Option.bind_some,hslot j hjn t ht]
      rw [<- hc]
      cases x j <;> rfl
    have hw:Region.wanted o (yielded l.toArray A.tmps)=(c == some b):=by simp [Region.wanted,hg,hy]
    rw [hw]
    by_cases hcb:c=some b
    · rw [if_pos hcb] at hob
      rw [if_pos (by simp [hcb])]
      exact .inl (upon_exits' hob)
    · rw [if_neg hcb] at hob
      rw [if_neg (by simpa using hcb)]
      exact hob
end
end Go.Proofs.YteajimobgkempaaDoor

