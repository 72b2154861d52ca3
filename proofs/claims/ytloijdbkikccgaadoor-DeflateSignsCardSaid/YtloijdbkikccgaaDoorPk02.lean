/- A pack of texts: SepRegion SepRegion4 SepRegionC SepOps Bytes Lib1. -/
import Derived.Lib.LazyBuf
import Derived.StillTailTactics
import Derived.Test.YtloijdbkikccgaaDoorProg
import Derived.Test.YtloijdbkikccgaaDoorPk01
namespace Go.Proofs.YtloijdbkikccgaaDoor
open Go.RowKit

theorem Sp.swapAt {w0 w:World} {x y:Pr} {l:List Pr} (K:List Pr) (H:Sp w0 (K++y::x::l) w):Sp w0 (K++x::y::l) w:=by
 obtain⟨h1,h2,h3,own,h⟩:=H
 refine⟨h1,h2,h3,fun b=>if own b=K.length then K.length+1 else if own b=K.length+1 then K.length else own b,fun i A hi=>?_⟩
 by_cases e0:i<K.length
 ·have hi' : (K++y::x::l)[i]?=some A:=by rw [List.getElem?_append_left e0] at hi ⊢; exact hi
  refine cast (congrArg A (cut_iff fun b=>?_)) (h i A hi')
  by_cases k1:own b=K.length
  ·rw [if_pos k1]; omega
  ·rw [if_neg k1]
   by_cases k2:own b=K.length+1
   ·rw [if_pos k2]; omega
   ·rw [if_neg k2]
 ·rw [List.getElem?_append_right (by omega)] at hi
  by_cases e1:i=K.length
  ·subst e1
   have hA:x=A:=by simpa using hi
   have hi' : (K++y::x::l)[K.length+1]?=some A:=by rw [List.getElem?_append_right (by omega),<- hA]; simp
   refine cast (congrArg A (cut_iff fun b=>?_)) (h _ A hi')
   by_cases k1:own b=K.length
   ·rw [if_pos k1]; omega
   ·rw [if_neg k1]
    by_cases k2:own b=K.length+1
    ·rw [if_pos k2]; omega
    ·rw [if_neg k2]; omega
  ·by_cases e2:i=K.length+1
   ·subst e2
    have hA:y=A:=by
     rw [show K.length+1 - K.length=1 by omega] at hi
     simpa using hi
    have hi' : (K++y::x::l)[K.length]?=some A:=by rw [List.getElem?_append_right (by omega),<- hA]; simp
    refine cast (congrArg A (cut_iff fun b=>?_)) (h _ A hi')
    by_cases k1:own b=K.length
    ·rw [if_pos k1]; omega
    ·rw [if_neg k1]
     by_cases k2:own b=K.length+1
     ·rw [if_pos k2]; omega
     ·rw [if_neg k2]; omega
   ·obtain⟨m,hm⟩:∃m,i - K.length=m+2:=⟨i - K.length - 2,by omega⟩
    have hi' : (K++y::x::l)[i]?=some A:=by
     rw [List.getElem?_append_right (by omega),hm]
     rw [hm] at hi
     simpa using hi
    refine cast (congrArg A (cut_iff fun b=>?_)) (h _ A hi')
    by_cases k1:own b=K.length
    ·rw [if_pos k1]; omega
    ·rw [if_neg k1]
     by_cases k2:own b=K.length+1
     ·rw [if_pos k2]; omega
     ·rw [if_neg k2]
theorem Sp.perm_at {w0 w:World} {L L' : List Pr} (p:L.Perm L'):∀K:List Pr,Sp w0 (K++L) w->Sp w0 (K++L') w:=by
 induction p with
 | nil=>exact fun _ H=>H
 | cons x _ ih =>
  intro K H
  have:=ih (K++[x]) (by simpa using H)
  simpa using this
 | swap x y l=>exact fun K H=>H.swapAt K
 | trans _ _ ih1 ih2=>exact fun K H=>ih2 K (ih1 K H)
theorem Sp.perm {w0 w:World} {L L' : List Pr} (H:Sp w0 L w) (p:L.Perm L'):Sp w0 L' w:=Sp.perm_at p [] H
theorem perm_split (n:Nat) (σ:List Nat) (hnd:σ.Nodup) (hlt:∀i ∈ σ,i<n):(List.range n).Perm (σ++(List.range n).filter (fun k=>decide (k ∉ σ))):=by
 refine(List.perm_ext_iff_of_nodup List.nodup_range ?_).2 fun a=>?_
 ·refine List.nodup_append.2 ⟨hnd,List.Pairwise.filter _ List.nodup_range,fun a ha b hb e=>?_⟩
  subst e
  have:=(List.mem_filter.1 hb).2
  simp at this
  exact this ha
 ·simp only [List.mem_append,List.mem_filter,List.mem_range,decide_eq_true_eq]
  constructor
  ·intro h
   by_cases e:a ∈ σ
   ·exact .inl e
   ·exact .inr ⟨h,e⟩
  ·rintro(h | h)
   ·exact hlt a h
   ·exact h.1

theorem flatMap_same {α β:Type _} {l:List α} {f g:α->List β} (h:∀a ∈ l,f a=g a):l.flatMap f=l.flatMap g:=by
 induction l with
 | nil=>rfl
 | cons a l ih=>rw [List.flatMap_cons,List.flatMap_cons,h a (List.mem_cons_self ..),ih fun b hb=>h b (List.mem_cons_of_mem _ hb)]
noncomputable def tok (R:Nat->Value->List Pr) (I:Nat->List Pr) (use:List (List Nat)) (listed:Array Bool) (x:Nat->Value) (i:Nat):List Pr :=
 if listed.getD i false=true then (if (List.range use.length).any (fun k=>listed.getD k false && (use.getD k []).contains i) then [] else R i (x i)) else I i
theorem getD_set (listed:Array Bool) (i j:Nat) (hi:i<listed.size):(listed.setIfInBounds i true).getD j false=if j=i then true else listed.getD j false:=by
 rw [Array.getD_eq_getD_getElem?,Array.getD_eq_getD_getElem?,Array.getElem?_setIfInBounds]
 by_cases hji:i=j
 ·subst hji; simp [hi]
 ·rw [if_neg hji,if_neg (Ne.symm hji)]
def ancOk (pre anc:List (List Nat)):Bool :=
 (List.range pre.length).all fun i =>
  (pre.getD i []).all (fun j=>decide (j<i) && (anc.getD i []).contains j && (anc.getD j []).all fun k=>(anc.getD i []).contains k) &&
  (anc.getD i []).all fun k=>decide (k<i) && ((pre.getD i []).contains k || (pre.getD i []).any fun j=>(anc.getD j []).contains k)
def flowOk (n:Nat) (anc use see:List (List Nat)):Bool :=
 decide (use.length=n) && (List.range n).all (fun i =>
  (use.getD i []).all (fun j=>(anc.getD i []).contains j && (List.range n).all fun k=>decide (k=i) || !(use.getD k []).contains j) &&
  (see.getD i []).all (fun k=>decide (k<n) && (anc.getD k []).contains i) && decide (use.getD i []).Nodup && decide (see.getD i []).Nodup)
section
variable {P:Program} {Q:Exit->Act->World->Prop}
def Gave (w0:World) (S:Nat->Value->Prop) (R:Nat->Value->List Pr) (i:Nat) (A:Act) (d:Option Tmp) (rest:List Pr) (a' : Act) (w' : World):Prop:=∃v,a'=A.put d v/\S i v/\Sp w0 (R i v++rest) w'
theorem wp_region_sp0 {rid:Nat} {l:List Oper} {a0:Act} {w w0:World} {L:List Pr}
    (S:Nat->Value->Prop) (R:Nat->Value->List Pr) (I:Nat->List Pr) (n:Nat)
    (ds:List (Option Tmp)) (pre anc use see:List (List Nat)) (hm:P.follows .mixedOrders=true)
    (hds:l.map (·.dst)=ds) (hdist:Distinct ds)
    (hpre:(l.map fun o=>(o.after.toList.filter (Region.binds .any ·)).map (·.on))=pre)
    (hn:pre.length=n) (hanc:ancOk pre anc=true) (hflow:flowOk n anc use see=true)
    (H:Sp w0 ((List.range n).flatMap I++L) w)
    (hstep:∀(i:Nat) (o:Oper),l[i]?=some o->∀(x:Nat->Value) (w:World) (A:Act) (rest:List Pr),A=putAll a0 ds 0 x ->
      (∀j ∈ anc.getD i [],S j (x j))->(∀j,i ∈ anc.getD j []->x j=base a0 ds j)->(∀φ,Ent L φ->Ent rest φ) ->
      Sp w0 (I i++((use.getD i []).flatMap (fun j=>R j (x j))++((see.getD i []).flatMap I++rest))) w ->
      wpList P l.toArray (Exit.then (Gave w0 S R i A o.dst ((see.getD i []).flatMap I++rest)) Q) [o] A w)
    (hend:∀(x:Nat->Value) (w:World) (A:Act),A=putAll a0 ds 0 x->(∀i,i<n->S i (x i)) ->
      Sp w0 ((List.range n).flatMap (fun i=>if (List.range n).any (fun k=>(use.getD k []).contains i) then [] else R i (x i))++L) w->Q .normal A w) :
    (Code.region rid l.toArray true).wp P Q a0 w:=by
  have hdl:ds.length=l.length:=by rw [<- hds]; simp
  have hpl:pre.length=l.length:=by rw [<- hpre]; simp
  have hsz:l.toArray.size=l.length:=by simp
  have hul:use.length=n:=by
    unfold flowOk at hflow
    simp only [Bool.and_eq_true,decide_eq_true_eq] at hflow
    exact hflow.1
  have hpe:∀i o,l[i]?=some o->∀e ∈ o.after,Region.binds .any e=true->e.on ∈ pre.getD i []:=by
    intro i o ho e he hb
    rw [<- hpre,List.getD_eq_getElem?_getD,List.getElem?_map,ho]
    simp only [Option.map_some,Option.getD_some,List.mem_map,List.mem_filter]
    exact⟨e,⟨by simpa using he,hb⟩,rfl⟩
  have hpe' : ∀i o,l[i]?=some o->∀j ∈ pre.getD i [],∃e ∈ o.after,Region.binds .any e=true/\e.on=j:=by
    intro i o ho j hj
    rw [<- hpre,List.getD_eq_getElem?_getD,List.getElem?_map,ho] at hj
    simp only [Option.map_some,Option.getD_some,List.mem_map,List.mem_filter] at hj
    obtain⟨e,⟨he,hb⟩,hj⟩:=hj
    exact⟨e,by simpa using he,hb,hj⟩
  have hA1:∀i,i<n->∀j ∈ pre.getD i [],j<i/\j ∈ anc.getD i []/\∀k ∈ anc.getD j [],k ∈ anc.getD i []:=by
    intro i hi j hj
    have h:=List.all_eq_true.1 hanc i (by simp; omega)
    simp only [Bool.and_eq_true] at h
    have:=List.all_eq_true.1 h.1 j hj
    simp only [Bool.and_eq_true,decide_eq_true_eq,List.contains_iff_mem] at this
    refine⟨this.1.1,this.1.2,fun k hk=>?_⟩
    have:=List.all_eq_true.1 this.2 k hk
    simpa using this
  have hA2:∀i,i<n->∀k ∈ anc.getD i [],k<i/\(k ∈ pre.getD i []∨∃j ∈ pre.getD i [],k ∈ anc.getD j []):=by
    intro i hi k hk
    have h:=List.all_eq_true.1 hanc i (by simp; omega)
    simp only [Bool.and_eq_true] at h
    have:=List.all_eq_true.1 h.2 k hk
    simp only [Bool.and_eq_true,decide_eq_true_eq,Bool.or_eq_true,List.contains_iff_mem,List.any_eq_true] at this
    refine⟨this.1,this.2.imp id ?_⟩
    rintro⟨j,hj,hk⟩
    exact⟨j,hj,by simpa using hk⟩
  have hF:∀i,i<n->(∀j ∈ use.getD i [],j ∈ anc.getD i []/\∀k,k<n->j ∈ use.getD k []->k=i)/\(∀k ∈ see.getD i [],k<n/\i ∈ anc.getD k [])/\(use.getD i []).Nodup/\(see.getD i []).Nodup:=by
    intro i hi
    unfold flowOk at hflow
    simp only [Bool.and_eq_true] at hflow
    have h:=List.all_eq_true.1 hflow.2 i (by simp; omega)
    simp only [Bool.and_eq_true,decide_eq_true_eq] at h
    obtain⟨⟨⟨h1,h2⟩,h3⟩,h4⟩:=h
    refine⟨fun j hj=>?_,fun k hk=>?_,h3,h4⟩
    · have:=List.all_eq_true.1 h1 j hj
      simp only [Bool.and_eq_true,List.contains_iff_mem] at this
      refine⟨this.1,fun k hk hjk=>?_⟩
      have:=List.all_eq_true.1 this.2 k (by simp; omega)
      simp only [Bool.or_eq_true,decide_eq_true_eq,Bool.not_eq_true'] at this
      rcases this with h | h
      · exact h
      · have h' : (use.getD k []).contains j=true:=by simpa using hjk
        rw [h'] at h; cases h
    · have:=List.all_eq_true.1 h2 k hk
      simpa using this
  refine wp_region_any hm ?_
  let Inv:Array Bool->Act->World->Prop:=fun listed a w=>∃x:Nat->Value,a=putAll a0 ds 0 x /\
    (∀i,i<n->listed.getD i false=true->S i (x i)/\∀j ∈ anc.getD i [],listed.getD j false=true)/\(∀i,listed.getD i false=false->x i=base a0 ds i) /\
    Sp w0 ((List.range n).flatMap (tok R I use listed x)++L) w
  refine wpAny_inv Inv ?_ ?_ _ _ _ _ (by simp) (by simp) ?_
  · rintro listed a w i hs ⟨x,rfl,hdone,hun,hSp⟩ hi
    obtain⟨h1,h2,o,ho,haft⟩:=ready_mem hi
    have hil:i<n:=by rw [<- hn,hpl]; simpa using h1
    have hisz:i<listed.size:=by omega
    have ho' : l[i]?=some o:=by simpa using ho
    have hli:listed.getD i false=false:=by
      rw [Array.getD_eq_getD_getElem?,Array.getElem?_eq_getElem hisz] at h2 ⊢
      simpa using h2
    have hpd:∀j ∈ pre.getD i [],listed.getD j false=true:=fun j hj=>by
      obtain⟨e,he,hb,rfl⟩:=hpe' i o ho' j hj
      exact haft e he hb
    have had:∀j ∈ anc.getD i [],listed.getD j false=true:=fun j hj=>by
      obtain⟨_,h | ⟨k,hk,hjk⟩⟩:=hA2 i hil j hj
      · exact hpd j h
      · exact(hdone k (by have:=(hA1 i hil k hk).1; omega) (hpd k hk)).2 j hjk
    have hbeh:∀k,i ∈ anc.getD k []->listed.getD k false=false:=fun k hk=>by
      cases hc:listed.getD k false with
      | false=>rfl
      | true =>
        by_cases hkn:k<n
        · have:=(hdone k hkn hc).2 i hk
          rw [hli] at this; cases this
        · rw [Array.getD_eq_getD_getElem?,Array.getElem?_eq_none (by omega)] at hc
          simp at hc
    obtain⟨f1,f2,f3,f4⟩:=hF i hil
    -- the pool, parted
    have hnd:(i::(use.getD i []++see.getD i [])).Nodup:=by
      refine List.nodup_cons.2 ⟨fun h=>?_,List.nodup_append.2 ⟨f3,f4,fun a ha b hb e=>?_⟩⟩
      · rcases List.mem_append.1 h with h | h
        · have:=(hA2 i hil i (f1 i h).1).1; omega
        · have:=(hA2 i hil i (f2 i h).2).1; omega
      · subst e
        have h5:=had a (f1 a ha).1
        have h6:=hbeh a (f2 a hb).2
        rw [h5] at h6; cases h6
    have hlt:∀j ∈ i::(use.getD i []++see.getD i []),j<n:=fun j hj=>by
      rcases List.mem_cons.1 hj with rfl | hj
      · exact hil
      · rcases List.mem_append.1 hj with h | h
        · have:=(hA2 i hil j (f1 j h).1).1; omega
        · exact(f2 j h).1
    have hp:=perm_split n _ hnd hlt
    obtain⟨oth,hoth⟩:∃oth,oth=(List.range n).filter (fun k=>decide (k ∉ i::(use.getD i []++see.getD i []))):=⟨_,rfl⟩
    rw [<- hoth] at hp
    have hp1:∀f:Nat->List Pr,((List.range n).flatMap f++L).Perm (f i++((use.getD i []).flatMap f++((see.getD i []).flatMap f++(oth.flatMap f++L)))):=fun f=>by
      have:=(hp.flatMap_right f).append_right L
      simpa only [List.flatMap_append,List.flatMap_cons,List.append_assoc,List.cons_append] using this
    have hH:=hSp.perm (hp1 _)
    have t0:tok R I use listed x i=I i:=by unfold tok; rw [hli,if_neg (by simp)]
    have tu:∀j ∈ use.getD i [],tok R I use listed x j=R j (x j):=fun j hj=>by
      unfold tok
      rw [if_pos (had j (f1 j hj).1),if_neg]
      intro h
      obtain⟨k,hk,h⟩:=List.any_eq_true.1 h
      simp only [Bool.and_eq_true,List.contains_iff_mem] at h
      have hk' : k<n:=by rw [<- hul]; simpa using hk
      have:=(f1 j hj).2 k hk' (by simpa using h.2)
      subst this
      rw [hli] at h; exact absurd h.1 (by simp)
    have ts:∀k ∈ see.getD i [],tok R I use listed x k=I k:=fun k hk=>by
      unfold tok; rw [hbeh k (f2 k hk).2,if_neg (by simp)]
    have eu:(use.getD i []).flatMap (tok R I use listed x)=(use.getD i []).flatMap (fun j=>R j (x j)):=flatMap_same fun j hj=>tu j hj
    have es:(see.getD i []).flatMap (tok R I use listed x)=(see.getD i []).flatMap I:=flatMap_same fun j hj=>ts j hj
    rw [t0,eu,es] at hH
    have hent:∀φ,Ent L φ->Ent (oth.flatMap (tok R I use listed x)++L) φ:=fun φ hφ w0' w' H'=>hφ _ _ (by
      have:=H'.pick (oth.flatMap (tok R I use listed x)).length [] ⟨List.nodup_nil,fun _ h=>by cases h⟩
      simpa using this)
    have hs1:=hstep i o ho' x w _ (oth.flatMap (tok R I use listed x)++L) rfl (fun j hj=>(hdone j (by have:=(hA2 i hil j hj).1; omega) (had j hj)).1) (fun j hj=>hun j (hbeh j hj)) hent hH
    have key:∀a' w',Gave w0 S R i (putAll a0 ds 0 x) o.dst ((see.getD i []).flatMap I++(oth.flatMap (tok R I use listed x)++L)) a' w'->Inv (listed.setIfInBounds i true) a' w':=by
      rintro a' w' ⟨v,rfl,hS,hSp'⟩
      have hset:=fun j=>getD_set listed i j hisz
      have hget:∀j,j≠i->setX x i v j=x j:=fun j hj=>by unfold setX; rw [if_neg hj]
      have hgi:setX x i v i=v:=by unfold setX; rw [if_pos rfl]
      refine⟨setX x i v,?_,fun j hj hlj=>?_,fun j hlj=>?_,?_⟩
      · have hd:o.dst=ds.getD i none:=by
          rw [<- hds,List.getD_eq_getElem?_getD,List.getElem?_map,ho']; rfl
        rw [hd,putAll_set x v ds 0 a0 i hdist (by omega),Nat.zero_add]
      · by_cases hji:j=i
        · subst hji
          refine⟨by rw [hgi]; exact hS,fun k hk=>?_⟩
          rw [hset]; split
          · rfl
          · exact had k hk
        · rw [hset,if_neg hji] at hlj
          obtain⟨q1,q2⟩:=hdone j hj hlj
          refine⟨by rw [hget j hji]; exact q1,fun k hk=>?_⟩
          rw [hset]; split
          · rfl
          · exact q2 k hk
      · rw [hset] at hlj
        by_cases hji:j=i
        · rw [if_pos hji] at hlj; cases hlj
        · rw [if_neg hji] at hlj
          rw [hget j hji]; exact hun j hlj
      · refine Sp.perm ?_ (hp1 _).symm
        have n0:tok R I use (listed.setIfInBounds i true) (setX x i v) i=R i v:=by
          unfold tok
          rw [hset,if_pos rfl,if_pos rfl,hgi,if_neg]
          intro h
          obtain⟨k,hk,h⟩:=List.any_eq_true.1 h
          simp only [Bool.and_eq_true,List.contains_iff_mem] at h
          have hk' : k<n:=by rw [<- hul]; simpa using hk
          have h5:=((hF k hk').1 i (by simpa using h.2)).1
          have h6:=(hA2 k hk' i h5).1
          have h7:=hbeh k h5
          rw [hset,if_neg (by omega),h7] at h
          exact absurd h.1 (by simp)
        have nu:(use.getD i []).flatMap (tok R I use (listed.setIfInBounds i true) (setX x i v))=[]:=by
          rw [List.flatMap_eq_nil_iff]
          intro j hj
          unfold tok
          rw [hset,if_pos,if_pos]
          · refine List.any_eq_true.2 ⟨i,by simp; omega,?_⟩
            rw [hset,if_pos rfl]; simpa using hj
          · split
            · rfl
            · exact had j (f1 j hj).1
        have ns:(see.getD i []).flatMap (tok R I use (listed.setIfInBounds i true) (setX x i v))=(see.getD i []).flatMap I:=flatMap_same fun k hk=>by
          unfold tok
          have:=(hA2 k (f2 k hk).1 i (f2 k hk).2).1
          rw [hset,if_neg (show ¬ k=i by omega),hbeh k (f2 k hk).2,if_neg (by simp)]
        have no:oth.flatMap (tok R I use (listed.setIfInBounds i true) (setX x i v))=oth.flatMap (tok R I use listed x):=flatMap_same fun k hk=>by
          have hk2:=(List.mem_filter.1 (hoth ▸ hk)).2
          simp only [List.mem_cons,List.mem_append,not_or,decide_eq_true_eq] at hk2
          unfold tok
          rw [hset,if_neg hk2.1,hget k hk2.1]
          have e:((List.range use.length).any fun k_1=>(listed.setIfInBounds i true).getD k_1 false && (use.getD k_1 []).contains k)=((List.range use.length).any fun k_1=>listed.getD k_1 false && (use.getD k_1 []).contains k):=by
            congr 1
            funext m
            rw [hset]
            by_cases hmi:m=i
            · subst hmi
              have:(use.getD m []).contains k=false:=by simpa using hk2.2.1
              rw [this]; simp
            · rw [if_neg hmi]
          rw [e]
        rw [n0,nu,ns,no,List.nil_append]
        exact hSp'
    unfold wpOp
    simp only [ho]
    unfold wpList at hs1
    split at hs1
    · rename_i hw
      rw [if_pos hw]
      rcases hs1 with h | ⟨h,h'⟩
      · exact .inl (Oper.wp_mono (fun a' w' hh=>key a' w' hh) (upon_exits h))
      · exact .inr ⟨h,h'⟩
    · rename_i hw
      rw [if_neg hw]
      exact key _ _ hs1
  · rintro listed a w hs ⟨x,rfl,hdone,hun,hSp⟩ hr
    have hall:∀i,i<n->listed.getD i false=true:=by
      intro i
      induction i using Nat.strongRecOn with
      | _ i ih =>
        intro hi
        cases hc:listed.getD i false with
        | true=>rfl
        | false =>
          exfalso
          have hlt:i<l.toArray.size:=by omega
          have:i ∈ Region.ready .any l.toArray listed:=by
            refine ready_of hlt ?_ fun e he hb=>?_
            · have:i<listed.size:=by omega
              rw [Array.getD_eq_getD_getElem?,Array.getElem?_eq_getElem this] at hc ⊢
              simpa using hc
            · have ho' : l[i]?=some l.toArray[i]:=by simp
              have hm:=hpe i _ ho' e he hb
              have:=(hA1 i hi _ hm).1
              exact ih _ this (by omega)
          rw [hr] at this
          cases this
    refine hend x w _ rfl (fun i hi=>(hdone i hi (hall i hi)).1) ?_
    refine cast (congrArg (fun M=>Sp w0 (M++L) w) (flatMap_same fun i hi=>?_)) hSp
    have hi' : i<n:=by simpa using hi
    unfold tok
    rw [if_pos (hall i hi'),hul]
    have e:((List.range n).any fun k=>listed.getD k false && (use.getD k []).contains i)=((List.range n).any fun k=>(use.getD k []).contains i):=by
      rw [Bool.eq_iff_iff,List.any_eq_true,List.any_eq_true]
      constructor
      · rintro⟨k,hk,h⟩
        exact⟨k,hk,(Bool.and_eq_true _ _ ▸ h).2⟩
      · rintro⟨k,hk,h⟩
        exact⟨k,hk,by rw [hall k (by simpa using hk),h]; rfl⟩
    rw [e]
  · refine⟨base a0 ds,(putAll_self _ ds 0 a0 fun i _=>by rw [Nat.zero_add]).symm,fun i _ hc=>?_,fun i _=>rfl,?_⟩
    · exfalso
      rw [Array.getD_eq_getD_getElem?] at hc
      simp [Array.getElem?_replicate] at hc
      split at hc <;> simp at hc
    · have:Sp w0 ((List.range n).flatMap I++L) { w with drawn:=w.drawn+1 }:=H.drew
      refine cast (congrArg (fun M=>Sp w0 (M++L) _) (flatMap_same fun i hi=>?_)) this
      unfold tok
      rw [if_neg]
      rw [Array.getD_eq_getD_getElem?]
      simp only [Array.getElem?_replicate]
      split <;> simp
theorem upon_exits' {o:Oper} {a:Act} {w:World} {K K' : Act->World->Prop} (h:o.wp P a w K Q):o.wp P a w K (Exit.then K' Q):=by
 unfold Oper.wp at *
 revert h
 cases (execOp a.eval o).run P w with
 | ok n w'=>cases n <;> simp only [Oper.upon] <;> exact id
 | halt x w'=>cases x <;> simp only [Oper.upon] <;> exact id
theorem putAll_eval (x:Nat->Value):∀(ds:List (Option Tmp)) (k i t:Nat) (a:Act),Distinct ds->ds[i]?=some (some t)->t<a.tmps.size->(putAll a ds k x).tmps[t]?=some (x (k+i))
 | [],_,_,_,_,_,h,_=>by simp at h
 | d::ds,k,0,t,a,hd,h,ht=>by
  have:d=some t:=by simpa using h
  subst this
  unfold putAll
  have key:∀(ds:List (Option Tmp)) (k:Nat) (b:Act),some t ∉ ds->(putAll b ds k x).tmps[t]?=b.tmps[t]?:=by
   intro ds
   induction ds with
   | nil=>intro k b _; rfl
   | cons e ds ih =>
    intro k b hb
    unfold putAll
    rw [ih _ _ (fun h=>hb (List.mem_cons_of_mem _ h))]
    cases e with
    | none=>rfl
    | some e =>
     simp only [Act.put]
     rw [Array.getElem?_setIfInBounds,if_neg]
     rintro rfl
     exact hb (List.mem_cons_self ..)
  rw [key _ _ _ (hd.1 t rfl)]
  simp [Act.put,ht]
 | d::ds,k,i+1,t,a,hd,h,ht=>by
  unfold putAll
  rw [putAll_eval x ds (k+1) i t _ hd.2 (by simpa using h) (by cases d <;> simpa [Act.put] using ht)]
  rw [show k+1+i=k+(i+1) by omega]
theorem putAll_eval_far (x:Nat->Value) (t:Nat):∀(ds:List (Option Tmp)) (k:Nat) (a:Act),some t ∉ ds->(putAll a ds k x).tmps[t]?=a.tmps[t]?
 | [],_,_,_=>rfl
 | d::ds,k,a,h=>by
  unfold putAll
  rw [putAll_eval_far x t ds (k+1) _ (fun hm=>h (List.mem_cons_of_mem _ hm))]
  cases d with
  | none=>rfl
  | some e =>
   simp only [Act.put]
   rw [Array.getElem?_setIfInBounds,if_neg]
   rintro rfl
   exact h (List.mem_cons_self ..)
def yieldsV:Value->Option Bool
 | .bool b=>some b
 | _=>none
def StepOb (P:Program) (Q:Exit->Act->World->Prop) (o:Oper) (x:Nat->Value) (A:Act) (w:World) (K:Act->World->Prop):Prop :=
 match o.guard with
 | none=>o.wp P A w K Q
 | some (j,b)=>∃c,yieldsV (x j)=c/\if c=some b then o.wp P A w K Q else K (A.put o.dst undef) w
def StepsSp (P:Program) (Q:Exit->Act->World->Prop) (S:Nat->Value->Prop) (R:Nat->Value->List Pr) (I:Nat->List Pr) (ds:List (Option Tmp)) (env:List (Nat × Value)) (w0:World) (L:List Pr):Nat->List Oper->List (List Nat)->List (List Nat)->List (List Nat)->Prop
 | i,o::os,an::ans,us::uss,se::ses=>(∀(x:Nat->Value) (w:World) (A:Act) (rest:List Pr),
   (∀p,p ∈ env->A.tmps[p.1]?.getD undef=p.2)->(∀j,j ∈ an->S j (x j)/\∀t,ds.getD j none=some t->A.tmps[t]?.getD undef=x j)->(∀φ,Ent L φ->Ent rest φ) ->
   Sp w0 (I i++(us.flatMap (fun j=>R j (x j))++(se.flatMap I++rest))) w ->
   ∀K:Act->World->Prop,(∀v w',S i v->Sp w0 (R i v++(se.flatMap I++rest)) w'->K (A.put o.dst v) w') ->
   StepOb P Q o x A w K)/\StepsSp P Q S R I ds env w0 L (i+1) os ans uss ses
 | _,[],[],[],[]=>True
 | _,_,_,_,_=>False
theorem stepsSp_get {S:Nat->Value->Prop} {R:Nat->Value->List Pr} {I:Nat->List Pr} {ds:List (Option Tmp)} {env:List (Nat × Value)} {w0:World} {L:List Pr} :
  ∀(l:List Oper) (k i:Nat) (o:Oper) (ans uss ses:List (List Nat)),StepsSp P Q S R I ds env w0 L k l ans uss ses->l[i]?=some o ->
  ∀(x:Nat->Value) (w:World) (A:Act) (rest:List Pr),
   (∀p,p ∈ env->A.tmps[p.1]?.getD undef=p.2)->(∀j,j ∈ ans.getD i []->S j (x j)/\∀t,ds.getD j none=some t->A.tmps[t]?.getD undef=x j)->(∀φ,Ent L φ->Ent rest φ) ->
   Sp w0 (I (k+i)++((uss.getD i []).flatMap (fun j=>R j (x j))++((ses.getD i []).flatMap I++rest))) w ->
   ∀K:Act->World->Prop,(∀v w',S (k+i) v->Sp w0 (R (k+i) v++((ses.getD i []).flatMap I++rest)) w'->K (A.put o.dst v) w') ->
   StepOb P Q o x A w K
 | [],_,_,_,_,_,_,_,h=>by simp at h
 | o::os,k,i,o',[],uss,ses,hs,h=>by simp [StepsSp] at hs
 | o::os,k,i,o',an::ans,[],ses,hs,h=>by simp [StepsSp] at hs
 | o::os,k,i,o',an::ans,us::uss,[],hs,h=>by simp [StepsSp] at hs
 | o::os,k,0,o',an::ans,us::uss,se::ses,hs,h=>by
  have:o=o':=by simpa using h
  subst this
  exact hs.1
 | o::os,k,i+1,o',an::ans,us::uss,se::ses,hs,h=>by
  have:=stepsSp_get os (k+1) i o' ans uss ses hs.2 (by simpa using h)
  rw [show k+1+i=k+(i+1) by omega] at this
  exact this
def guardsOk (l:List Oper) (ds:List (Option Tmp)) (anc:List (List Nat)):Bool :=
 (l.zip anc).all fun p=>match p.1.guard with
  | none=>true
  | some (j,_)=>p.2.contains j && (ds.getD j none).isSome
def envOk (env:List (Nat × Value)) (ds:List (Option Tmp)):Bool:=env.all fun p=>!ds.contains (some p.1)
theorem wp_region_sp {rid:Nat} {l:List Oper} {a0:Act} {w w0:World} {L:List Pr}
  (S:Nat->Value->Prop) (R:Nat->Value->List Pr) (I:Nat->List Pr) (n sz:Nat)
  (ds:List (Option Tmp)) (pre anc use see:List (List Nat)) (env:List (Nat × Value)) (hm:P.follows .mixedOrders=true)
  (hds:l.map (·.dst)=ds) (hdist:Distinct ds)
  (hpre:(l.map fun o=>(o.after.toList.filter (Region.binds .any ·)).map (·.on))=pre)
  (hn:pre.length=n) (hanc:ancOk pre anc=true) (hflow:flowOk n anc use see=true) (hgu:guardsOk l ds anc=true) (hanl:anc.length=n)
  (hsz:a0.tmps.size=sz) (hlt:ds.all (fun d=>match d with | some t=>decide (t<sz) | none=>true)=true)
  (henv:∀p,p ∈ env->a0.tmps[p.1]?.getD undef=p.2) (henv2:envOk env ds=true)
  (H:Sp w0 ((List.range n).flatMap I++L) w)
  (hstep:StepsSp P Q S R I ds env w0 L 0 l anc use see)
  (hend:∀(x:Nat->Value) (w:World) (A:Act),A=putAll a0 ds 0 x->(∀i,i<n->S i (x i)) ->
   Sp w0 ((List.range n).flatMap (fun i=>if (List.range n).any (fun k=>(use.getD k []).contains i) then [] else R i (x i))++L) w->Q .normal A w) :
  (Code.region rid l.toArray true).wp P Q a0 w:=by
 have hdl:ds.length=l.length:=by rw [<- hds]; simp
 have hpl:pre.length=l.length:=by rw [<- hpre]; simp
 refine wp_region_sp0 S R I n ds pre anc use see hm hds hdist hpre hn hanc hflow H (fun i o ho x w A rest hA hS hu hE hH=>?_) hend
 have hil:i<l.length:=(List.getElem?_eq_some_iff.1 ho).1
 have hslot:∀j,j<n->∀t,ds.getD j none=some t->A.tmps[t]?=some (x j):=fun j hj t ht=>by
  have hj' : j<ds.length:=by omega
  rw [List.getD_eq_getElem?_getD,List.getElem?_eq_getElem hj'] at ht
  simp only [Option.getD_some] at ht
  have htl:=List.all_eq_true.1 hlt _ (List.getElem_mem hj')
  rw [ht] at htl
  replace htl:t<sz:=by simpa using htl
  rw [hA,putAll_eval x ds 0 j t a0 hdist (by rw [List.getElem?_eq_getElem hj',ht]) (Nat.lt_of_lt_of_eq htl hsz.symm),Nat.zero_add]
 have hanlt:∀j,j ∈ anc.getD i []->j<n:=fun j hj=>by
  have h:=List.all_eq_true.1 hanc i (by simp; omega)
  simp only [Bool.and_eq_true] at h
  have:=List.all_eq_true.1 h.2 j hj
  simp only [Bool.and_eq_true,decide_eq_true_eq] at this
  omega
 have hob:=stepsSp_get l 0 i o anc use see hstep ho x w A rest (fun p hp=>by
   have h2:=List.all_eq_true.1 henv2 p hp
   rw [hA,putAll_eval_far x p.1 ds 0 a0 (by simpa using h2)]
   exact henv p hp) (fun j hj=>⟨hS j hj,fun t ht=>by rw [hslot j (hanlt j hj) t ht]; rfl⟩) hE (by rw [Nat.zero_add]; exact hH)
  (Gave w0 S R i A o.dst ((see.getD i []).flatMap I++rest)) (fun v w' h1 h2=>⟨v,rfl,by rwa [Nat.zero_add] at h1,by rwa [Nat.zero_add] at h2⟩)
 unfold StepOb at hob
 unfold wpList
 cases hg:o.guard with
 | none =>
  rw [hg] at hob
  have hw:Region.wanted o (yielded l.toArray A.tmps)=true:=by simp [Region.wanted,hg]
  rw [if_pos hw]
  refine .inl ?_
  refine Oper.wp_mono (fun a w h=>?_) (upon_exits' hob)
  exact h
 | some p =>
  obtain⟨j,b⟩:=p
  rw [hg] at hob
  obtain⟨c,hc,hob⟩:=hob
  have hg2:=List.all_eq_true.1 hgu (o,anc.getD i []) (by
   rw [List.mem_iff_getElem?]
   refine⟨i,?_⟩
   rw [List.getElem?_zip_eq_some]
   refine⟨ho,?_⟩
   rw [List.getD_eq_getElem?_getD,List.getElem?_eq_getElem (by omega)]; rfl)
  simp only [hg,Bool.and_eq_true,List.contains_iff_mem] at hg2
  obtain⟨hja,hjs⟩:=hg2
  have hjn:=hanlt j hja
  obtain⟨t,ht⟩:=Option.isSome_iff_exists.1 hjs
  have hy:yielded l.toArray A.tmps j=c:=by
   unfold yielded
   have hdj:(l.toArray[j]?).bind (·.dst)=some t:=by
    have hj' : j<ds.length:=by omega
    rw [List.getD_eq_getElem?_getD,List.getElem?_eq_getElem hj'] at ht
    simp only [Option.getD_some] at ht
    subst hds
    have hj2:j<l.length:=by simpa using hj'
    rw [List.getElem_map] at ht
    simp [hj2,ht]
   rw [hdj]
   simp only [Option.bind_some,hslot j hjn t ht]
   rw [<- hc]
   cases x j <;> rfl
  have hw:Region.wanted o (yielded l.toArray A.tmps)=(c == some b):=by simp [Region.wanted,hg,hy]
  rw [hw]
  by_cases hcb:c=some b
  ·rw [if_pos hcb] at hob
   rw [if_pos (by simp [hcb])]
   exact .inl (upon_exits' hob)
  ·rw [if_neg hcb] at hob
   rw [if_neg (by simpa using hcb)]
   exact hob
end
section
variable {P:Program} {Q:Exit->Act->World->Prop}
theorem putAll_defers (x:Nat->Value):∀(ds:List (Option Tmp)) (k:Nat) (a:Act),(putAll a ds k x).defers=a.defers
 | [],_,_=>rfl
 | d::ds,k,a=>by
  unfold putAll
  rw [putAll_defers x ds (k+1) _]
  cases d <;> rfl
def freeAt4 (ds:List (Option Tmp)) (anc:List (List Nat)) (i t:Nat):Bool:=(List.range ds.length).all fun j=>if ds.getD j none=some t then (anc.getD j []).contains i else true
def StepsSr (P:Program) (Q:Exit->Act->World->Prop) (S:Nat->Value->Prop) (R:Nat->Value->List Pr) (I:Nat->List Pr) (ds:List (Option Tmp)) (ac:List (List Nat)) (env:List (Nat × Value)) (w0:World) (L:List Pr):Nat->List Oper->List (List Nat)->List (List Nat)->List (List Nat)->Prop
 | i,o::os,an::ans,us::uss,se::ses=>(∀(x:Nat->Value) (w:World) (A:Act) (rest:List Pr),
   A.defers=[]->(∀p,p ∈ env->freeAt4 ds ac i p.1=true->A.tmps[p.1]?.getD undef=p.2)->(∀j,j ∈ an->S j (x j)/\∀t,ds.getD j none=some t->A.tmps[t]?.getD undef=x j)->(∀φ,Ent L φ->Ent rest φ) ->
   Sp w0 (I i++(us.flatMap (fun j=>R j (x j))++(se.flatMap I++rest))) w ->
   ∀K:Act->World->Prop,(∀v w',S i v->Sp w0 (R i v++(se.flatMap I++rest)) w'->K (A.put o.dst v) w') ->
   StepOb P Q o x A w K)/\StepsSr P Q S R I ds ac env w0 L (i+1) os ans uss ses
 | _,[],[],[],[]=>True
 | _,_,_,_,_=>False
theorem stepsSr_get {S:Nat->Value->Prop} {R:Nat->Value->List Pr} {I:Nat->List Pr} {ds:List (Option Tmp)} {ac:List (List Nat)} {env:List (Nat × Value)} {w0:World} {L:List Pr} :
  ∀(l:List Oper) (k i:Nat) (o:Oper) (ans uss ses:List (List Nat)),StepsSr P Q S R I ds ac env w0 L k l ans uss ses->l[i]?=some o ->
  ∀(x:Nat->Value) (w:World) (A:Act) (rest:List Pr),
   A.defers=[]->(∀p,p ∈ env->freeAt4 ds ac (k+i) p.1=true->A.tmps[p.1]?.getD undef=p.2)->(∀j,j ∈ ans.getD i []->S j (x j)/\∀t,ds.getD j none=some t->A.tmps[t]?.getD undef=x j)->(∀φ,Ent L φ->Ent rest φ) ->
   Sp w0 (I (k+i)++((uss.getD i []).flatMap (fun j=>R j (x j))++((ses.getD i []).flatMap I++rest))) w ->
   ∀K:Act->World->Prop,(∀v w',S (k+i) v->Sp w0 (R (k+i) v++((ses.getD i []).flatMap I++rest)) w'->K (A.put o.dst v) w') ->
   StepOb P Q o x A w K
 | [],_,_,_,_,_,_,_,h=>by simp at h
 | o::os,k,i,o',[],uss,ses,hs,h=>by simp [StepsSr] at hs
 | o::os,k,i,o',an::ans,[],ses,hs,h=>by simp [StepsSr] at hs
 | o::os,k,i,o',an::ans,us::uss,[],hs,h=>by simp [StepsSr] at hs
 | o::os,k,0,o',an::ans,us::uss,se::ses,hs,h=>by
  have:o=o':=by simpa using h
  subst this
  exact hs.1
 | o::os,k,i+1,o',an::ans,us::uss,se::ses,hs,h=>by
  have:=stepsSr_get os (k+1) i o' ans uss ses hs.2 (by simpa using h)
  rw [show k+1+i=k+(i+1) by omega] at this
  exact this
theorem wp_region_sr {rid:Nat} {l:List Oper} {a0:Act} {w w0:World} {L:List Pr}
    (S:Nat->Value->Prop) (R:Nat->Value->List Pr) (I:Nat->List Pr) (n sz:Nat)
    (ds:List (Option Tmp)) (pre anc use see:List (List Nat)) (env:List (Nat × Value)) (hm:P.follows .mixedOrders=true)
    (hds:l.map (·.dst)=ds) (hdist:Distinct ds)
    (hpre:(l.map fun o=>(o.after.toList.filter (Region.binds .any ·)).map (·.on))=pre)
    (hn:pre.length=n) (hanc:ancOk pre anc=true) (hflow:flowOk n anc use see=true) (hgu:guardsOk l ds anc=true) (hanl:anc.length=n)
    (hdv:a0.defers=[]) (hsz:a0.tmps.size=sz) (hlt:ds.all (fun d=>match d with | some t=>decide (t<sz) | none=>true)=true)
    (henv:∀p,p ∈ env->a0.tmps[p.1]?.getD undef=p.2)
    (H:Sp w0 ((List.range n).flatMap I++L) w)
    (hstep:StepsSr P Q S R I ds anc env w0 L 0 l anc use see)
    (hend:∀(x:Nat->Value) (w:World) (A:Act),A=putAll a0 ds 0 x->(∀i,i<n->S i (x i)) ->
      Sp w0 ((List.range n).flatMap (fun i=>if (List.range n).any (fun k=>(use.getD k []).contains i) then [] else R i (x i))++L) w->Q .normal A w) :
    (Code.region rid l.toArray true).wp P Q a0 w:=by
  have hdl:ds.length=l.length:=by rw [<- hds]; simp
  have hpl:pre.length=l.length:=by rw [<- hpre]; simp
  refine wp_region_sp0 S R I n ds pre anc use see hm hds hdist hpre hn hanc hflow H (fun i o ho x w A rest hA hS hu hE hH=>?_) hend
  have hil:i<l.length:=(List.getElem?_eq_some_iff.1 ho).1
  have hslot:∀j,j<n->∀t,ds.getD j none=some t->A.tmps[t]?=some (x j):=fun j hj t ht=>by
    have hj' : j<ds.length:=by omega
    rw [List.getD_eq_getElem?_getD,List.getElem?_eq_getElem hj'] at ht
    simp only [Option.getD_some] at ht
    have htl:=List.all_eq_true.1 hlt _ (List.getElem_mem hj')
    rw [ht] at htl
    replace htl:t<sz:=by simpa using htl
    rw [hA,putAll_eval x ds 0 j t a0 hdist (by rw [List.getElem?_eq_getElem hj',ht]) (Nat.lt_of_lt_of_eq htl hsz.symm),Nat.zero_add]
  have hanlt:∀j,j ∈ anc.getD i []->j<n:=fun j hj=>by
    have h:=List.all_eq_true.1 hanc i (by simp; omega)
    simp only [Bool.and_eq_true] at h
    have:=List.all_eq_true.1 h.2 j hj
    simp only [Bool.and_eq_true,decide_eq_true_eq] at this
    omega
  have hob:=stepsSr_get l 0 i o anc use see hstep ho x w A rest (by rw [hA,putAll_defers]; exact hdv) (fun p hp hfr=>by
      rw [Nat.zero_add] at hfr
      rw [<- henv p hp,hA]
      by_cases hm:some p.1 ∈ ds
      · obtain⟨j,hj,hjt⟩:=List.getElem_of_mem hm
        have hfj:=List.all_eq_true.1 hfr j (by simpa using hj)
        have hdj:ds.getD j none=some p.1:=by rw [List.getD_eq_getElem?_getD,List.getElem?_eq_getElem hj,hjt]; rfl
        rw [if_pos hdj] at hfj
        have hb:=hu j (by simpa using hfj)
        have hpt:p.1<a0.tmps.size:=by
          have htl:=List.all_eq_true.1 hlt _ (List.getElem_mem hj)
          rw [hjt] at htl
          replace htl:p.1<sz:=by simpa using htl
          omega
        rw [putAll_eval x ds 0 j p.1 a0 hdist (by rw [List.getElem?_eq_getElem hj,hjt]) hpt,Nat.zero_add,hb]
        unfold base
        rw [hdj]
        show(some (a0.tmps.getD p.1 undef)).getD undef=_
        rw [Array.getD_eq_getD_getElem?]; rfl
      · rw [putAll_eval_far x p.1 ds 0 a0 hm]) (fun j hj=>⟨hS j hj,fun t ht=>by rw [hslot j (hanlt j hj) t ht]; rfl⟩) hE (by rw [Nat.zero_add]; exact hH)
    (Gave w0 S R i A o.dst ((see.getD i []).flatMap I++rest)) (fun v w' h1 h2=>⟨v,rfl,by rwa [Nat.zero_add] at h1,by rwa [Nat.zero_add] at h2⟩)
  unfold StepOb at hob
  unfold wpList
  cases hg:o.guard with
  | none =>
    rw [hg] at hob
    have hw:Region.wanted o (yielded l.toArray A.tmps)=true:=by simp [Region.wanted,hg]
    rw [if_pos hw]
    refine .inl ?_
    refine Oper.wp_mono (fun a w h=>?_) (upon_exits' hob)
    exact h
  | some p =>
    obtain⟨j,b⟩:=p
    rw [hg] at hob
    obtain⟨c,hc,hob⟩:=hob
    have hg2:=List.all_eq_true.1 hgu (o,anc.getD i []) (by
      rw [List.mem_iff_getElem?]
      refine⟨i,?_⟩
      rw [List.getElem?_zip_eq_some]
      refine⟨ho,?_⟩
      rw [List.getD_eq_getElem?_getD,List.getElem?_eq_getElem (by omega)]; rfl)
    simp only [hg,Bool.and_eq_true,List.contains_iff_mem] at hg2
    obtain⟨hja,hjs⟩:=hg2
    have hjn:=hanlt j hja
    obtain⟨t,ht⟩:=Option.isSome_iff_exists.1 hjs
    have hy:yielded l.toArray A.tmps j=c:=by
      unfold yielded
      have hdj:(l.toArray[j]?).bind (·.dst)=some t:=by
        have hj' : j<ds.length:=by omega
        rw [List.getD_eq_getElem?_getD,List.getElem?_eq_getElem hj'] at ht
        simp only [Option.getD_some] at ht
        subst hds
        have hj2:j<l.length:=by simpa using hj'
        rw [List.getElem_map] at ht
        simp [hj2,ht]
      rw [hdj]
      simp only [Option.bind_some,hslot j hjn t ht]
      rw [<- hc]
      cases x j <;> rfl
    have hw:Region.wanted o (yielded l.toArray A.tmps)=(c == some b):=by simp [Region.wanted,hg,hy]
    rw [hw]
    by_cases hcb:c=some b
    · rw [if_pos hcb] at hob
      rw [if_pos (by simp [hcb])]
      exact .inl (upon_exits' hob)
    · rw [if_neg hcb] at hob
      rw [if_neg (by simpa using hcb)]
      exact hob
end
section
variable {P:Program} {Q:Exit->Act->World->Prop}
def Sc (vals:List (Option Value)) (Sx:Nat->Value->Prop) (i:Nat) (v:Value):Prop:=match vals.getD i none with
 | some u=>v=u
 | none=>Sx i v
def FactsE (A:Act) (ds:List (Option Tmp)) (ac:List (List Nat)) (i:Nat):List (Nat × Value)->Prop->Prop
 | [],p=>p
 | (t,v)::r,p=>match freeAt4 ds ac i t with
  | true=>A.tmps[t]?.getD undef=v/\FactsE A ds ac i r p
  | false=>FactsE A ds ac i r p
def FactsA (A:Act) (an:List Nat):List (Option Tmp)->List (Option Value)->Nat->Prop
 | some t::ds,some v::vs,k=>match an.contains k with
  | true=>A.tmps[t]?.getD undef=v/\FactsA A an ds vs (k+1)
  | false=>FactsA A an ds vs (k+1)
 | none::ds,_::vs,k=>FactsA A an ds vs (k+1)
 | some _::ds,none::vs,k=>FactsA A an ds vs (k+1)
 | _,_,_=>True
theorem factsE_of {A:Act} {ds:List (Option Tmp)} {ac:List (List Nat)} {i:Nat} : ∀(env:List (Nat × Value)) (p:Prop),p ->
  (∀q,q ∈ env->freeAt4 ds ac i q.1=true->A.tmps[q.1]?.getD undef=q.2)->FactsE A ds ac i env p
 | [],p,hp,_=>hp
 | (t,v)::r,p,hp,h=>by
  unfold FactsE
  split
  ·rename_i hf
   exact⟨h (t,v) (List.mem_cons_self ..) hf,factsE_of r p hp fun q hq=>h q (List.mem_cons_of_mem _ hq)⟩
  ·exact factsE_of r p hp fun q hq=>h q (List.mem_cons_of_mem _ hq)
theorem factsA_of {A:Act} {an:List Nat} : ∀(ds:List (Option Tmp)) (vs:List (Option Value)) (k:Nat),
  (∀j t v,j ∈ an->k<=j->ds[j - k]?=some (some t)->vs[j - k]?=some (some v)->A.tmps[t]?.getD undef=v)->FactsA A an ds vs k
 | [],vs,k,_=>by unfold FactsA; trivial
 | none::ds,[],k,_=>by unfold FactsA; trivial
 | some t::ds,[],k,_=>by unfold FactsA; trivial
 | none::ds,v::vs,k,h=>by
  unfold FactsA
  exact factsA_of ds vs (k+1) fun j t u hj hk h1 h2=>h j t u hj (by omega) (by rw [show j - k=(j - (k+1))+1 by omega]; simpa using h1) (by rw [show j - k=(j - (k+1))+1 by omega]; simpa using h2)
 | some t::ds,none::vs,k,h=>by
  unfold FactsA
  exact factsA_of ds vs (k+1) fun j t u hj hk h1 h2=>h j t u hj (by omega) (by rw [show j - k=(j - (k+1))+1 by omega]; simpa using h1) (by rw [show j - k=(j - (k+1))+1 by omega]; simpa using h2)
 | some t::ds,some v::vs,k,h=>by
  have hr:FactsA A an ds vs (k+1):=factsA_of ds vs (k+1) fun j t u hj hk h1 h2=>h j t u hj (by omega) (by rw [show j - k=(j - (k+1))+1 by omega]; simpa using h1) (by rw [show j - k=(j - (k+1))+1 by omega]; simpa using h2)
  unfold FactsA
  split
  ·rename_i hf
   exact⟨h k t v (by simpa using hf) (Nat.le_refl _) (by simp) (by simp),hr⟩
  ·exact hr
theorem factsE_get {A:Act} {ds:List (Option Tmp)} {ac:List (List Nat)} {i:Nat} : ∀ {env:List (Nat × Value)} {p:Prop},FactsE A ds ac i env p->∀q,q ∈ env->freeAt4 ds ac i q.1=true->A.tmps[q.1]?.getD undef=q.2
 | [],p,_,q,hq,_=>by cases hq
 | (t,v)::r,p,h,q,hq,hf=>by
  unfold FactsE at h
  rcases List.mem_cons.1 hq with rfl | hq
  ·rw [hf] at h; exact h.1
  ·split at h
   ·exact factsE_get h.2 q hq hf
   ·exact factsE_get h q hq hf
def StepsSc (P:Program) (Q:Exit->Act->World->Prop) (vals:List (Option Value)) (Sx:Nat->Value->Prop) (R:Nat->Value->List Pr) (I:Nat->List Pr) (ds:List (Option Tmp)) (ac:List (List Nat)) (env:List (Nat × Value)) (w0:World) (L:List Pr):Nat->List Oper->List (List Nat)->List (List Nat)->List (List Nat)->Prop
 | i,o::os,an::ans,us::uss,se::ses=>(∀(x:Nat->Value) (w:World) (A:Act) (rest:List Pr),
   A.defers=[]->FactsE A ds ac i env (FactsA A an ds vals 0)->(∀j,j ∈ an->Sc vals Sx j (x j)/\∀t,ds.getD j none=some t->A.tmps[t]?.getD undef=x j)->(∀φ,Ent L φ->Ent rest φ) ->
   Sp w0 (I i++(us.flatMap (fun j=>R j (x j))++(se.flatMap I++rest))) w ->
   ∀K:Act->World->Prop,(∀v w',Sc vals Sx i v->Sp w0 (R i v++(se.flatMap I++rest)) w'->K (A.put o.dst v) w') ->
   StepOb P Q o x A w K)/\StepsSc P Q vals Sx R I ds ac env w0 L (i+1) os ans uss ses
 | _,[],[],[],[]=>True
 | _,_,_,_,_=>False
theorem stepsSr_of {vals:List (Option Value)} {Sx:Nat->Value->Prop} {R:Nat->Value->List Pr} {I:Nat->List Pr} {ds:List (Option Tmp)} {ac:List (List Nat)} {env:List (Nat × Value)} {w0:World} {L:List Pr} :
  ∀(i:Nat) (os:List Oper) (ans uss ses:List (List Nat)),StepsSc P Q vals Sx R I ds ac env w0 L i os ans uss ses->StepsSr P Q (Sc vals Sx) R I ds ac env w0 L i os ans uss ses
 | i,[],[],[],[],h=>trivial
 | i,o::os,an::ans,us::uss,se::ses,h=>by
  refine⟨fun x w A rest hd hN hS hE H K hK=>h.1 x w A rest hd ?_ hS hE H K hK,stepsSr_of (i+1) os ans uss ses h.2⟩
  refine factsE_of env _ (factsA_of ds vals 0 fun j t v hj _ h1 h2=>?_) hN
  rw [Nat.sub_zero] at h1 h2
  obtain⟨a1,a2⟩:=hS j hj
  rw [a2 t (by rw [List.getD_eq_getElem?_getD,h1]; rfl)]
  unfold Sc at a1
  rw [List.getD_eq_getElem?_getD,h2] at a1
  exact a1
 | i,[],an::ans,uss,ses,h=>by simp [StepsSc] at h
 | i,[],[],us::uss,ses,h=>by simp [StepsSc] at h
 | i,[],[],[],se::ses,h=>by simp [StepsSc] at h
 | i,o::os,[],uss,ses,h=>by simp [StepsSc] at h
 | i,o::os,an::ans,[],ses,h=>by simp [StepsSc] at h
 | i,o::os,an::ans,us::uss,[],h=>by simp [StepsSc] at h
theorem wp_region_sc {rid:Nat} {l:List Oper} {a0:Act} {w w0:World} {L:List Pr}
  (vals:List (Option Value)) (Sx:Nat->Value->Prop) (R:Nat->Value->List Pr) (I:Nat->List Pr) (n sz:Nat)
  (ds:List (Option Tmp)) (pre anc use see:List (List Nat)) (env:List (Nat × Value)) (hm:P.follows .mixedOrders=true)
  (hds:l.map (·.dst)=ds) (hdist:Distinct ds)
  (hpre:(l.map fun o=>(o.after.toList.filter (Region.binds .any ·)).map (·.on))=pre)
  (hok:(pre.length == n && ancOk pre anc && flowOk n anc use see && guardsOk l ds anc && anc.length == n && ds.all (fun d=>match d with | some t=>decide (t<sz) | none=>true))=true)
  (hdv:a0.defers=[]) (hsz:a0.tmps.size=sz)
  (henv:∀p,p ∈ env->a0.tmps[p.1]?.getD undef=p.2)
  (H:Sp w0 ((List.range n).flatMap I++L) w)
  (hstep:StepsSc P Q vals Sx R I ds anc env w0 L 0 l anc use see)
  (hend:∀(x:Nat->Value) (w:World) (A:Act),A=putAll a0 ds 0 x->(∀i,i<n->Sc vals Sx i (x i)) ->
   Sp w0 ((List.range n).flatMap (fun i=>if (List.range n).any (fun k=>(use.getD k []).contains i) then [] else R i (x i))++L) w->Q .normal A w) :
  (Code.region rid l.toArray true).wp P Q a0 w:=by
 simp only [Bool.and_eq_true,beq_iff_eq] at hok
 obtain⟨⟨⟨⟨⟨h1,h2⟩,h3⟩,h4⟩,h5⟩,h6⟩:=hok
 exact wp_region_sr (Sc vals Sx) R I n sz ds pre anc use see env hm hds hdist hpre h1 h2 h3 h4 h5 hdv hsz h6 henv H (stepsSr_of 0 l anc use see hstep) hend
end
section
variable {P:Program}
theorem wp_append_sp {w0 w:World} {L:List Pr} {o:Oper} {a:Act} {K:Act->World->Prop} {Q:Exit->Act->World->Prop} (s x:Operand) (t:TypeId)
  (ho:o.op=.call { callee:=.builtin .append,args:=#[s,x],argTypes:=#[t,t] })
  (e:TypeId) (i:TypeInfo) (z:Value) (size bytes:Nat) (ht:P.underlying t=some (.slice e)) (hi:P.info? e=some i) (hz:i.zero=some z)
  (hsize:i.size=size) (hby:i.bytes=bytes) (hzs:z.cells.size=size) (hsz:0<size)
  (v:Value) (n:Nat) (xs:List Value) (hs:a.eval s=v) (H:Sp w0 (Row e size v n xs::L) w)
  (A:Option Addr) (m c:Nat) (news:List Value) (hx:a.eval x=.slice A m c) (hl:news.length=m * size) (hr:Rd w A news) (h1:∀u ∈ news,u.oneCell'=true)
  (h63:n+m<=maxLen) (hbytes:(n+m) * bytes<=140737488355328)
  (h:∀v' w',Sp w0 (Row e size v' (n+m) (xs++news)::L) w'->(v'=.slice none 0 0↔v=.slice none 0 0/\m=0)->K (a.put o.dst v') w') :
  o.wp P a w K Q:=by
 obtain⟨v',w',hrun,h2,h3,h4,h5⟩:=run_append_rd (P:=P) w 0 t o.type e i z size bytes ht hi hz hsize hby hzs hsz v n xs (H.owns 0 rfl) A m c news hl hr h1 h63 hbytes (Nat.zero_le _)
 unfold Oper.wp execOp
 simp only [ho,resolve,invoke,builtin,Sem.run_bind,Sem.run_pure,Result.andThen_ok,List.map_toArray,List.map_cons,List.map_nil,hs,hx,hrun]
 exact h v' w' (H.appended h2 h3 h5) h4
theorem wpList_append_sp {w0 w:World} {L:List Pr} {ops:Array Oper} {rest:List Oper} {o:Oper} {a:Act} {Q:Exit->Act->World->Prop} (hgd:o.guard=none) (s x:Operand) (t:TypeId)
  (ho:o.op=.call { callee:=.builtin .append,args:=#[s,x],argTypes:=#[t,t] })
  (e:TypeId) (i:TypeInfo) (z:Value) (size bytes:Nat) (ht:P.underlying t=some (.slice e)) (hi:P.info? e=some i) (hz:i.zero=some z)
  (hsize:i.size=size) (hby:i.bytes=bytes) (hzs:z.cells.size=size) (hsz:0<size)
  (v:Value) (n:Nat) (xs:List Value) (hs:a.eval s=v) (H:Sp w0 (Row e size v n xs::L) w)
  (A:Option Addr) (m c:Nat) (news:List Value) (hx:a.eval x=.slice A m c) (hl:news.length=m * size) (hr:Rd w A news) (h1:∀u ∈ news,u.oneCell'=true)
  (h63:n+m<=maxLen) (hbytes:(n+m) * bytes<=140737488355328)
  (h:∀v' w',Sp w0 (Row e size v' (n+m) (xs++news)::L) w'->(v'=.slice none 0 0↔v=.slice none 0 0/\m=0)->wpList P ops Q rest (a.put o.dst v') w') :
  wpList P ops Q (o::rest) a w :=
 wpList_plain hgd fun _ hK=>wp_append_sp s x t ho e i z size bytes ht hi hz hsize hby hzs hsz v n xs hs H A m c news hx hl hr h1 h63 hbytes fun v' w' h2 h3=>hK _ _ (h v' w' h2 h3)
theorem ev {A:Act} {t:Nat} {v:Value} (h:A.tmps[t]?.getD undef=v):A.eval (.tmp t)=v:=by
 rw [<- h]
 show A.tmps.getD t undef=_
 rw [Array.getD_eq_getD_getElem?]
theorem Row.form {e:TypeId} {size n:Nat} {v:Value} {xs:List Value} {w0 w:World} {L:List Pr} (H:Sp w0 L w) (k:Nat) (hk:L[k]?=some (Row e size v n xs)):∃A c,v=.slice A n c/\n<=c/\c<=maxLen:=by
 rcases(H.owns k hk).2 with ⟨rfl,rfl⟩ | ⟨g,cap,cur,rfl,_,_,h1,h2,_⟩
 ·exact⟨none,0,rfl,Nat.le_refl _,by simp [maxLen]⟩
 ·exact⟨_,cap,rfl,h1,h2⟩
end
theorem Byt.take {w:World} {A:Option Addr} {n c:Nat} {l:List UInt8} (h:Byt w (.slice A n c) l) (k:Nat) (hk:k<=l.length):Byt w (.slice A k c) (l.take k):=by
 obtain⟨A',c',e,hr,h1,h2⟩:=h
 injection e with e1 e2 e3
 subst e1 e3
 refine⟨A,c,by rw [List.length_take,Nat.min_eq_left hk],fun hn=>?_,by simp; omega,h2⟩
 obtain⟨ad,e,hc⟩:=hr (by intro h0; apply hn; unfold cells8 at h0 ⊢; rw [List.map_take,h0,List.take_nil])
 refine⟨ad,e,fun j u hu=>hc j u ?_⟩
 unfold cells8 at hu ⊢
 rw [List.map_take,List.getElem?_take] at hu
 split at hu
 ·exact hu
 ·cases hu

theorem Byt.below {w w' : World} {v:Value} {l:List UInt8} (h:Byt w v l) (hB:Below w.heap.size w w'):Byt w' v l:=h.keep fun _ _ hc=>hB.cell (cell_lt hc)
theorem field_addr (a:Addr) (m j:Nat) (hj:0<j):(⟨(a.add m).block,(a.add m).off+j,none⟩:Addr)=a.add (m+j):=by
 unfold Addr.add
 rw [if_neg (show ¬ (m+j=0) by omega)]
 by_cases hm:m=0
 ·subst hm; simp
 ·rw [if_neg hm]; simp [Nat.add_assoc]
theorem Byt.drop {w:World} {A:Option Addr} {n c:Nat} {l:List UInt8} (h:Byt w (.slice A n c) l) (k:Nat) (hk:k<=n):Byt w (.slice (A.map (·.add k)) (n - k) (c - k)) (l.drop k):=by
 obtain⟨A',c',e,hr,h1,h2⟩:=h
 injection e with e1 e2 e3
 subst e1 e2 e3
 refine⟨_,_,by rw [List.length_drop],fun hn=>?_,by simp; omega,by omega⟩
 obtain⟨ad,rfl,hc⟩:=hr (by intro h0; apply hn; unfold cells8 at h0 ⊢; rw [List.map_drop,h0,List.drop_nil])
 refine⟨ad.add k,rfl,fun j u hu=>?_⟩
 unfold cells8 at hu
 rw [List.map_drop,List.getElem?_drop] at hu
 rw [Go.Addr.add_add]
 exact hc _ u hu
theorem Byt.drop0 {w:World} {A:Option Addr} {n c:Nat} {l:List UInt8} (h:Byt w (.slice A n c) l) (k:Nat) (hk:k<=n) (hc:c=k):Byt w (.slice A (n - k) (c - k)) (l.drop k):=by
 obtain⟨A',c',e,hr,h1,h2⟩:=h
 injection e with e1 e2 e3
 subst e1 e2 e3
 have:l.drop k=[]:=List.drop_eq_nil_iff.2 (by omega)
 rw [this]
 exact⟨A,c - k,by simp; omega,Rd.nil,by simp,by omega⟩
def strOf (l:List UInt8):ByteArray:=⟨l.toArray⟩
theorem run_str {P:Program} (w:World) (src dst e:TypeId) (v:Value) (l:List UInt8) (hs:P.underlying src=some (.slice e)) (he:P.underlying e=some (.int .u8)) (hd:P.underlying dst=some .string) (h:Byt w v l) :
    (convert src dst v).run P w=.ok (.string (strOf l)) w:=by
  obtain⟨A,c,rfl,hr,_,_⟩:=h
  have hnil:l=[]->strOf l=ByteArray.empty:=fun h=>by subst h; rfl
  rcases A with _ | ad
  · have hl:l=[]:=by
      rcases l with _ | ⟨x,l⟩
      · rfl
      · obtain⟨ad,h,_⟩:=hr (by simp [cells8]); cases h
    rw [hnil hl]
    exact run_convert_bytes_nil w src e hs he _ _ dst hd
  · have hload:(loadCells ad l.length).run P w=.ok ((l.map fun c:UInt8=>(c.toNat:Int)).map (Value.int .u8)).toArray w:=by
      have:=run_loadCells_list (P:=P) w ad ((l.map fun c:UInt8=>(c.toNat:Int)).map (Value.int .u8)) (fun j v hj=>by
        obtain ⟨ad', h, hc⟩ := hr (by rintro h0; unfold cells8 at h0; rw [List.map_map] at hj; have : l = [] := by simpa using h0
                                      subst this; simp at hj)
        injection h with h
        subst h
        refine hc j v ?_
        rw [List.map_map] at hj
        exact hj)
      simpa using this
    rw [run_convert_bytes_string w src dst e _ _ _ hs he hd,run_bytesToString w _ _ _ _ hload,foldl_push_bytes]
    congr 2
    simp [strOf,ByteArray.empty,ByteArray.emptyWithCapacity,List.map_map,Function.comp_def]
    rfl
def Ret (φ:Value->World->Prop) (e:Ending) (w' : World):Prop:=∃v,e=.returned v/\φ v w'
theorem info8:(Tryd.prog.info? 5).map (fun i=>(i.zero,i.size,i.bytes))=some (some (.int .u8 0),1,1):=by kernel_rfl
set_option maxRecDepth 100000 in
theorem clone_ok {w0 w:World} {L:List Pr} {v:Value} {l:List UInt8} (H:Sp w0 L w) (hb:Byt w v l) (hl:l.length<=1000000000) :
  Calls Tryd.prog 10 #[v] w (Ret fun v' w'=>Sp w0 (Row 5 1 v' l.length (cells8 l)::L) w'):=by
 obtain⟨A,c,rfl,hr,h1,h2⟩:=hb
 unfold maxLen at h2
 have e0:=fun(W:World)=>Lib.run_eql_slice_nil (P:=Tryd.prog) W 25 5 A l.length c 0 0 Tryd.underlying25
 have hr':=Lib.hid hr
 cases A with
 | none =>
  have hl0:l=[]:=by
   rcases l with _ | ⟨x,l⟩
   ·rfl
   ·obtain⟨ad,h,_⟩:=hr (by simp [cells8]); cases h
  clear hr
  have HL:=Lib.hid hl0
  clear hl0
  go_enter Tryd.func10,Tryd.ntmps10
  go_wp2
  go_ret
  obtain rfl:=HL.out
  exact⟨_,rfl,H.rowNil _ _⟩
 | some a =>
  clear hr
  go_enter Tryd.func10,Tryd.ntmps10
  obtain⟨i0,hi,hz0,hz1,hz2⟩:=info_parts info8
  go_wp2_with (at_builtin; refine wpList_append_sp rfl _ _ 25 rfl 5 i0 (.int .u8 0) 1 1 Tryd.underlying25 hi hz0 hz1 hz2 rfl (by decide) (.slice (some ⟨w.heap.size,0,none⟩) 0 0) 0 [] rfl ((H.newBk [] _).bkRow 1 0 rfl (by decide)) (some a) l.length c (cells8 l) rfl (by simp [cells8]) (hr'.out.alloc _) (cells8_one l) (by unfold maxLen; omega) (by omega) ?_)
  intro v' w' H2 _
  clear e0
  go_wp2
  go_ret
  exact⟨_,rfl,H2⟩
set_option maxRecDepth 100000 in
theorem equal_ok {w:World} {v u:Value} {l m:List UInt8} (hv:Byt w v l) (hu:Byt w u m) :
  Calls Tryd.prog 13 #[v,u] w fun e w'=>e=.returned (.bool (l == m))/\w=w':=by
 have s1:=run_str (P:=Tryd.prog) w 25 9 5 v l Tryd.underlying25 Tryd.underlying5 Tryd.underlying9 hv
 have s2:=run_str (P:=Tryd.prog) w 25 9 5 u m Tryd.underlying25 Tryd.underlying5 Tryd.underlying9 hu
 go_enter Tryd.func13,Tryd.ntmps13
 go_wp2
 go_ret
 have e:((strOf l).toList == (strOf m).toList)=(l == m):=by
  unfold strOf
  rw [ByteArray.toList_mk,ByteArray.toList_mk]
 exact⟨by rw [<- e]; rfl,rfl⟩
end Go.Proofs.YtloijdbkikccgaaDoor

