/- A pack. -/
import Derived.Test.YteajimobgkempaaGreatDoorPk01
set_option linter.all false
set_option maxRecDepth 100000
set_option maxHeartbeats 8000000
namespace Go.Proofs.YteajimobgkempaaGreatDoor
variable {w0 w:World} {L:List Pr}
namespace PG
structure Hd where
 flags:UInt8
 level:UInt8
 system:UInt8
 time:Nat
 extra:List UInt8
 name:List UInt8
 note:List UInt8
def has (f:UInt8) (k:Nat):Bool:=decide (f.toNat / k % 2=1)
def low:Nat->Nat->List UInt8
 | _,0=>[]
 | n,k+1=>UInt8.ofNat n::low (n / 256) k
def num:List UInt8->Nat
 | []=>0
 | c::l=>c.toNat+256 * num l
theorem low_len (n k:Nat):(low n k).length=k:=by
 induction k generalizing n with
 | zero=>rfl
 | succ k ih=>show(low (n / 256) k).length+1=_; rw [ih]
theorem num_lt (l:List UInt8):num l<256 ^ l.length:=by
 induction l with
 | nil=>decide
 | cons c l ih =>
  show c.toNat+256 * num l<256 ^ (l.length+1);have:=UInt8.toNat_lt c;rw [Nat.pow_succ];omega
def textOk (f:UInt8) (k:Nat) (s:List UInt8):Prop:=s.length<=65535/\(∀c ∈ s,c≠0)/\(s=[]∨has f k=true)
def Ok (h:Hd):Prop:=h.flags.toNat<32/\h.extra.length<=65535/\(h.extra=[]∨has h.flags 4=true)/\textOk h.flags 8 h.name/\textOk h.flags 16 h.note
def exW (h:Hd):List UInt8:=if has h.flags 4 then low h.extra.length 2++h.extra else []
def txW (f:UInt8) (k:Nat) (s:List UInt8):List UInt8:=if has f k then s++[0] else []
def lay0 (h:Hd):List UInt8:=[31,139,8,h.flags]++(low h.time 4++([h.level,h.system]++(exW h++(txW h.flags 8 h.name++txW h.flags 16 h.note))))
def suW (f:UInt8) (l:List UInt8):List UInt8:=if has f 2 then low (PCrc.of l) 2 else []
def lay (h:Hd):List UInt8:=lay0 h++suW h.flags (lay0 h)
/-! What is read. -/
structure S where
 at_:Nat
 short:Bool
def next (B:List UInt8) (s:S) (many:Nat):List UInt8 × S :=
 if s.short=true∨B.length - s.at_<many then (List.replicate (min many 4) 0,⟨s.at_,true⟩) else ((B.drop s.at_).take many,⟨s.at_+many,false⟩)
def idx0:List UInt8->Option Nat
 | []=>none
 | c::l=>if c=0 then some 0 else (idx0 l).map (·+1)
def text (B:List UInt8) (s:S):List UInt8 × S :=
 if s.short=true then ([],⟨s.at_,true⟩) else match idx0 (B.drop s.at_) with
  | none=>([],⟨s.at_,true⟩)
  | some k=>((B.drop s.at_).take k,⟨s.at_+(k+1),false⟩)
def begin_ (B:List UInt8):Nat :=
 if B.length<=0 then 4 else if B.getD 0 0≠31 then 5 else if B.length<=1 then 4 else if B.getD 1 0≠139 then 5 else if B.length<=2 then 4 else if B.getD 2 0≠8 then 5 else if B.length<=3 then 4 else if 32<=(B.getD 3 0).toNat then 5 else 0
def exR (B:List UInt8) (f:UInt8) (s:S):List UInt8 × S:=if has f 4 then next B (next B s 2).2 (num (next B s 2).1) else ([],s)
def txR (B:List UInt8) (f:UInt8) (k:Nat) (s:S):List UInt8 × S:=if has f k then text B s else ([],s)
def head (B:List UInt8):Except Nat (Hd × Nat) :=
 if begin_ B≠0 then .error (begin_ B) else
 let f:=B.getD 3 0
 let t:=next B ⟨4,false⟩ 4
 let l:=next B t.2 1
 let y:=next B l.2 1
 let e:=exR B f y.2
 let n:=txR B f 8 e.2
 let o:=txR B f 16 n.2
 let z:=if has f 2 then next B o.2 2 else ([],o.2)
 if has f 2=true/\num z.1≠PCrc.of (B.take o.2.at_) % 65536/\z.2.short=false then .error 21
 else if z.2.short=true then .error 4
 else .ok (⟨f,l.1.getD 0 0,y.1.getD 0 0,num t.1,e.1,n.1,o.1⟩,z.2.at_)
/-! Reading what lies there: of a whole word, or of a row that ends within. -/
def Lies (B:List UInt8) (a:Nat) (w:List UInt8):Prop:=∃r,B.drop a=w++r/\a<=B.length
theorem Lies.len {B:List UInt8} {a:Nat} {w:List UInt8} (h:Lies B a w):a+w.length<=B.length:=by
 obtain⟨r,h,b⟩:=h;have:=congrArg List.length h;rw [List.length_drop,List.length_append] at this;omega
theorem Lies.left {B:List UInt8} {a:Nat} {w v:List UInt8} (h:Lies B a (w++v)):Lies B a w:=by
 obtain⟨r,h,b⟩:=h;exact⟨v++r,by rw [h,List.append_assoc],b⟩
theorem Lies.right {B:List UInt8} {a:Nat} {w v:List UInt8} (h:Lies B a (w++v)):Lies B (a+w.length) v:=by
 have b:=h.left.len;obtain⟨r,h,c⟩:=h;refine⟨r,?_,b⟩;rw [<- List.drop_drop,h,List.append_assoc,List.drop_left]
end PG
open Go

section
variable {P:Program} {ops:Array Oper} {Q:Exit->Act->World->Prop}
theorem Yf {listed:Array Bool} {i:Nat} (h:i ∈ Region.ready .any ops listed) :
  i<ops.size/\listed.getD i true=false/\∃o,ops[i]?=some o/\∀e ∈ o.after,Region.binds .any e=true->listed.getD e.on false=true:=by
 unfold Region.ready at h;simp only [List.mem_filter,List.mem_range,Bool.and_eq_true,Bool.not_eq_true'] at h;obtain⟨a,c,b⟩:=h;refine⟨a,c,ops[i],Array.getElem?_eq_getElem a,fun e he hb=>?_⟩;rw [Array.getElem?_eq_getElem a] at b;simp only [Option.map_some,Option.getD_some,Array.all_eq_true] at b;obtain⟨k,d,rfl⟩:=Array.getElem_of_mem he;have:=b k d;simpa [hb] using this
theorem X7 {listed:Array Bool} {i:Nat} (h1:i<ops.size) (h2:listed.getD i true=false) (h3:∀e ∈ ops[i].after,Region.binds .any e=true->listed.getD e.on false=true):i ∈ Region.ready .any ops listed:=by
 unfold Region.ready;simp only [List.mem_filter,List.mem_range,Bool.and_eq_true,Bool.not_eq_true'];refine⟨h1,h2,?_⟩;rw [Array.getElem?_eq_getElem h1];simp only [Option.map_some,Option.getD_some,Array.all_eq_true];intro k a;cases hb:Region.binds .any ops[i].after[k] with
 | false=>rfl
 | true=>simpa using h3 _ (Array.getElem_mem a) hb
theorem YF (I:Array Bool->Act->World->Prop)
  (hstep:∀listed a w i,listed.size=ops.size->I listed a w->i ∈ Region.ready .any ops listed->wpOp P ops Q i (I (listed.setIfInBounds i true)) a w)
  (hend:∀listed a w,listed.size=ops.size->I listed a w->Region.ready .any ops listed=[]->Q .normal a w) :
  ∀(fuel:Nat) (listed:Array Bool) (a:Act) (w:World),listed.size=ops.size->listed.toList.count false<=fuel->I listed a w->wpAny P .any ops Q fuel listed a w
 | 0,listed,a,w,hs,hc,hI=>by
  have c:Region.ready .any ops listed=[]:=by
   rcases c:Region.ready .any ops listed with _ | ⟨i,r⟩
   ·rfl
   ·have:=Yf (ops:=ops) (listed:=listed) (i:=i) (by rw [c]; exact List.mem_cons_self ..);obtain⟨g,b,_⟩:=this;have f:false ∈ listed.toList:=by
     have d:i<listed.size:=by omega
     rw [Array.getD_eq_getD_getElem?,Array.getElem?_eq_getElem d] at b;have e:listed[i]=false:=by simpa using b
     rw [<- e]; simp
    have:=List.count_pos_iff.2 f;omega
  exact⟨c,hend _ _ _ hs hI c⟩
 | fuel+1,listed,a,w,hs,hc,hI=>by
  refine⟨hend _ _ _ hs hI,fun i hi=>wpOp_mono (fun a' w' hI'=>?_) (hstep _ _ _ i hs hI hi)⟩;refine YF I hstep hend fuel _ a' w' (by simpa using hs) ?_ hI';obtain⟨g,b,_⟩:=Yf hi;have d:i<listed.size:=by omega
  rw [Array.getD_eq_getD_getElem?,Array.getElem?_eq_getElem d] at b;have e:listed[i]=false:=by simpa using b
  have f:false ∈ listed.toList:=by rw [<- e]; simp
  have h:=List.count_pos_iff.2 f;rw [Array.toList_setIfInBounds,List.count_set (by simpa using d),if_pos (by simp [e]),if_neg (by decide)];omega
end
def putAll (a:Act):List (Option Tmp)->Nat->(Nat->Value)->Act
 | [],_,_=>a
 | d::ds,k,x=>putAll (a.put d (x k)) ds (k+1) x
theorem U5 (a:Act) (d:Option Tmp) (x y:Value):(a.put d x).put d y=a.put d y:=by
 cases d with
 | none=>rfl
 | some d=>simp [Act.put]
theorem Y2 (d:Option Tmp) (v:Value) (x:Nat->Value):∀(ds:List (Option Tmp)) (k:Nat) (a:Act),(∀t,d=some t->some t ∉ ds)->(putAll a ds k x).put d v=putAll (a.put d v) ds k x
 | [],_,_,_=>rfl
 | e::ds,k,a,h=>by
  unfold putAll;rw [Y2 d v x ds _ _ (fun t ht hm=>h t ht (List.mem_cons_of_mem _ hm))];congr 1;exact(Act.put_comm a v (x k) fun t ht he=>h t ht (by rw [he]; exact List.mem_cons_self ..)).symm
theorem XQ (ds:List (Option Tmp)) (x y:Nat->Value):∀(k:Nat) (a:Act),(∀j,k<=j->x j=y j)->putAll a ds k x=putAll a ds k y:=by
 induction ds with
 | nil=>intro k a _; rfl
 | cons d ds ih =>
  intro k a h;unfold putAll;rw [h k (Nat.le_refl _)];exact ih _ _ fun j hj=>h j (by omega)
def Distinct:List (Option Tmp)->Prop
 | []=>True
 | d::ds=>(∀t,d=some t->some t ∉ ds)/\Distinct ds
instance Distinct.dec:(ds:List (Option Tmp))->Decidable (Distinct ds)
 | []=>isTrue trivial
 | d::ds=>by
  unfold Distinct;have:=Distinct.dec ds;cases d with
  | none=>exact(if h:Distinct ds then isTrue ⟨(fun _ h=>by cases h),h⟩ else isFalse fun hh=>h hh.2)
  | some t =>
   exact(if h:some t ∉ ds/\Distinct ds then isTrue ⟨fun u hu=>by cases hu; exact h.1,h.2⟩ else isFalse fun hh=>h ⟨hh.1 t rfl,hh.2⟩)
def setX (x:Nat->Value) (i:Nat) (v:Value):Nat->Value:=fun j=>if j=i then v else x j
theorem Yq (x:Nat->Value) (v:Value):∀(ds:List (Option Tmp)) (k:Nat) (a:Act) (i:Nat),Distinct ds->i<ds.length->(putAll a ds k x).put (ds.getD i none) v=putAll a ds k (setX x (k+i) v)
 | [],_,_,_,_,hl=>by simp at hl
 | d::ds,k,a,0,h,_=>by
  show(putAll (a.put d (x k)) ds (k+1) x).put d v=putAll (a.put d (setX x (k+0) v k)) ds (k+1) _;rw [Y2 d v x ds _ _ h.1,U5];have e:setX x (k+0) v k=v:=by simp [setX]
  rw [e];exact XQ ds _ _ _ _ fun j hj=>by unfold setX; rw [if_neg (by omega)]
 | d::ds,k,a,i+1,h,hl=>by
  have:=Yq x v ds (k+1) (a.put d (x k)) i h.2 (by simpa using hl);show(putAll (a.put d (x k)) ds (k+1) x).put (ds.getD i none) v=putAll (a.put d (setX x (k+(i+1)) v k)) ds (k+1) _;have e:setX x (k+(i+1)) v k=x k:=by unfold setX; rw [if_neg (by omega)]
  rw [e,this,show k+1+i=k+(i+1) by omega]
def base (a:Act) (ds:List (Option Tmp)) (i:Nat):Value:=match ds.getD i none with | some t=>a.tmps.getD t undef | none=>undef
theorem Yc (x:Nat->Value):∀(ds:List (Option Tmp)) (k:Nat) (a:Act),(∀i,i<ds.length->x (k+i)=base a ds i)->putAll a ds k x=a
 | [],_,_,_=>rfl
 | d::ds,k,a,hx=>by
  have b:=hx 0 (by simp);have h:a.put d (x k)=a:=by
   rw [show x k=base a (d::ds) 0 from b];cases d with
   | none=>rfl
   | some t =>
    simp only [Act.put,base,List.getD_cons_zero];congr 1;apply Array.ext
    ·simp
    ·intro i e c;rw [Array.getElem_setIfInBounds];split
     ·rename_i he; subst he; simp [Array.getD,c]
     ·rfl
  show putAll (a.put d (x k)) ds (k+1) x=a;rw [h];refine Yc x ds (k+1) a fun i hi=>?_;have:=hx (i+1) (by simpa using hi);rw [show k+1+i=k+(i+1) by omega];exact this
section
variable {P:Program} {Q:Exit->Act->World->Prop}
theorem Y3 {o:Oper} {a:Act} {K K' : Act->World->Prop} {r:Result Next} (h:o.upon P a K (Exit.then K' Q) r):o.upon P a K Q r:=by
 cases r with
 | ok n w' =>
  cases n <;> simp only [Oper.upon] at h ⊢ <;> exact h
 | halt x w'=>cases x <;> simp only [Oper.upon] at h ⊢ <;> exact h
end
open Go.RowKit

theorem Sp.swapAt {x y:Pr} {l:List Pr} (K:List Pr) (H:Sp w0 (K++y::x::l) w):Sp w0 (K++x::y::l) w:=by
 obtain⟨g,j,k,own,h⟩:=H;refine⟨g,j,k,fun b=>if own b=K.length then K.length+1 else if own b=K.length+1 then K.length else own b,fun i A hi=>?_⟩;by_cases n:i<K.length
 ·have a : (K++y::x::l)[i]?=some A:=by rw [List.getElem?_append_left n] at hi ⊢; exact hi
  refine cast (congrArg A (ZT fun b=>?_)) (h i A a);by_cases c:own b=K.length
  ·rw [if_pos c]; omega
  ·rw [if_neg c];by_cases d:own b=K.length+1
   ·rw [if_pos d]; omega
   ·rw [if_neg d]
 ·rw [List.getElem?_append_right (by omega)] at hi;by_cases o:i=K.length
  ·subst o;have e:x=A:=by simpa using hi
   have a : (K++y::x::l)[K.length+1]?=some A:=by rw [List.getElem?_append_right (by omega),<- e]; simp
   refine cast (congrArg A (ZT fun b=>?_)) (h _ A a);by_cases c:own b=K.length
   ·rw [if_pos c]; omega
   ·rw [if_neg c];by_cases d:own b=K.length+1
    ·rw [if_pos d]; omega
    ·rw [if_neg d]; omega
  ·by_cases p:i=K.length+1
   ·subst p;have e:y=A:=by
     rw [show K.length+1 - K.length=1 by omega] at hi;simpa using hi
    have a : (K++y::x::l)[K.length]?=some A:=by rw [List.getElem?_append_right (by omega),<- e]; simp
    refine cast (congrArg A (ZT fun b=>?_)) (h _ A a);by_cases c:own b=K.length
    ·rw [if_pos c]; omega
    ·rw [if_neg c];by_cases d:own b=K.length+1
     ·rw [if_pos d]; omega
     ·rw [if_neg d]; omega
   ·obtain⟨m,f⟩:∃m,i - K.length=m+2:=⟨i - K.length - 2,by omega⟩;have a : (K++y::x::l)[i]?=some A:=by
     rw [List.getElem?_append_right (by omega),f];rw [f] at hi;simpa using hi
    refine cast (congrArg A (ZT fun b=>?_)) (h _ A a);by_cases c:own b=K.length
    ·rw [if_pos c]; omega
    ·rw [if_neg c];by_cases d:own b=K.length+1
     ·rw [if_pos d]; omega
     ·rw [if_neg d]
theorem Sp.perm_at {L L' : List Pr} (p:L.Perm L'):∀K:List Pr,Sp w0 (K++L) w->Sp w0 (K++L') w:=by
 induction p with
 | nil=>exact fun _ H=>H
 | cons x _ ih =>
  intro K H;have:=ih (K++[x]) (by simpa using H);simpa using this
 | swap x y l=>exact fun K H=>H.swapAt K
 | trans _ _ ih1 ih2=>exact fun K H=>ih2 K (ih1 K H)
theorem Sp.perm {L L' : List Pr} (H:Sp w0 L w) (p:L.Perm L'):Sp w0 L' w:=Sp.perm_at p [] H
theorem Y4 (n:Nat) (σ:List Nat) (hnd:σ.Nodup) (hlt:∀i ∈ σ,i<n):(List.range n).Perm (σ++(List.range n).filter (fun k=>decide (k ∉ σ))):=by
 refine(List.perm_ext_iff_of_nodup List.nodup_range ?_).2 fun a=>?_
 ·refine List.nodup_append.2 ⟨hnd,List.Pairwise.filter _ List.nodup_range,fun a ha b hb e=>?_⟩;subst e;have:=(List.mem_filter.1 hb).2;simp at this;exact this ha
 ·simp only [List.mem_append,List.mem_filter,List.mem_range,decide_eq_true_eq];constructor
  ·intro h;by_cases e:a ∈ σ
   ·exact .inl e
   ·exact .inr ⟨h,e⟩
  ·rintro(h | h)
   ·exact hlt a h
   ·exact h.1

theorem Zj {α β:Type _} {l:List α} {f g:α->List β} (h:∀a ∈ l,f a=g a):l.flatMap f=l.flatMap g:=by
 induction l with
 | nil=>rfl
 | cons a l ih=>rw [List.flatMap_cons,List.flatMap_cons,h a (List.mem_cons_self ..),ih fun b hb=>h b (List.mem_cons_of_mem _ hb)]
noncomputable def tok (R:Nat->Value->List Pr) (I:Nat->List Pr) (use:List (List Nat)) (listed:Array Bool) (x:Nat->Value) (i:Nat):List Pr :=
 if listed.getD i false=true then (if (List.range use.length).any (fun k=>listed.getD k false && (use.getD k []).contains i) then [] else R i (x i)) else I i
theorem X8 (listed:Array Bool) (i j:Nat) (hi:i<listed.size):(listed.setIfInBounds i true).getD j false=if j=i then true else listed.getD j false:=by
 rw [Array.getD_eq_getD_getElem?,Array.getD_eq_getD_getElem?,Array.getElem?_setIfInBounds];by_cases a:i=j
 ·subst a; simp [hi]
 ·rw [if_neg a,if_neg (Ne.symm a)]
def ancOk (pre anc:List (List Nat)):Bool :=
 (List.range pre.length).all fun i =>
  (pre.getD i []).all (fun j=>decide (j<i) && (anc.getD i []).contains j && (anc.getD j []).all fun k=>(anc.getD i []).contains k) &&
  (anc.getD i []).all fun k=>decide (k<i) && ((pre.getD i []).contains k || (pre.getD i []).any fun j=>(anc.getD j []).contains k)
def flowOk (n:Nat) (anc use see:List (List Nat)):Bool :=
 decide (use.length=n) && (List.range n).all (fun i =>
  (use.getD i []).all (fun j=>(anc.getD i []).contains j && (List.range n).all fun k=>decide (k=i) || !(use.getD k []).contains j) &&
  (see.getD i []).all (fun k=>decide (k<n) && (anc.getD k []).contains i) && decide (use.getD i []).Nodup && decide (see.getD i []).Nodup)
section
variable {P:Program} {Q:Exit->Act->World->Prop}
def Gave (w0:World) (S:Nat->Value->Prop) (R:Nat->Value->List Pr) (i:Nat) (A:Act) (d:Option Tmp) (rest:List Pr) (a' : Act) (w' : World):Prop:=∃v,a'=A.put d v/\S i v/\Sp w0 (R i v++rest) w'
theorem wp_region_sp0 {rid:Nat} {l:List Oper} {a0:Act} {w w0:World}
    (S:Nat->Value->Prop) (R:Nat->Value->List Pr) (I:Nat->List Pr) (n:Nat)
    (ds:List (Option Tmp)) (pre anc use see:List (List Nat)) (hm:P.follows .mixedOrders=true)
    (hds:l.map (·.dst)=ds) (hdist:Distinct ds)
    (hpre:(l.map fun o=>(o.after.toList.filter (Region.binds .any ·)).map (·.on))=pre)
    (hn:pre.length=n) (hanc:ancOk pre anc=true) (hflow:flowOk n anc use see=true)
    (H:Sp w0 ((List.range n).flatMap I++L) w)
    (hstep:∀(i:Nat) (o:Oper),l[i]?=some o->∀(x:Nat->Value) (w:World) (A:Act) (rest:List Pr),A=putAll a0 ds 0 x ->
      (∀j ∈ anc.getD i [],S j (x j))->(∀j,i ∈ anc.getD j []->x j=base a0 ds j)->(∀φ,Ent L φ->Ent rest φ) ->
      Sp w0 (I i++((use.getD i []).flatMap (fun j=>R j (x j))++((see.getD i []).flatMap I++rest))) w ->
      wpList P l.toArray (Exit.then (Gave w0 S R i A o.dst ((see.getD i []).flatMap I++rest)) Q) [o] A w)
    (hend:∀(x:Nat->Value) (w:World) (A:Act),A=putAll a0 ds 0 x->(∀i,i<n->S i (x i)) ->
      Sp w0 ((List.range n).flatMap (fun i=>if (List.range n).any (fun k=>(use.getD k []).contains i) then [] else R i (x i))++L) w->Q .normal A w) :
    (Code.region rid l.toArray true).wp P Q a0 w:=by
  have b6:ds.length=l.length:=by rw [<- hds]; simp
  have b1:pre.length=l.length:=by rw [<- hpre]; simp
  have b7:l.toArray.size=l.length:=by simp
  have N:use.length=n:=by
    unfold flowOk at hflow;simp only [Bool.and_eq_true,decide_eq_true_eq] at hflow;exact hflow.1
  have b2:∀i o,l[i]?=some o->∀e ∈ o.after,Region.binds .any e=true->e.on ∈ pre.getD i []:=by
    intro i o Y e O D;rw [<- hpre,List.getD_eq_getElem?_getD,List.getElem?_map,Y];simp only [Option.map_some,Option.getD_some,List.mem_map,List.mem_filter];exact⟨e,⟨by simpa using O,D⟩,rfl⟩
  have a1 : ∀i o,l[i]?=some o->∀j ∈ pre.getD i [],∃e ∈ o.after,Region.binds .any e=true/\e.on=j:=by
    intro i o Y j c;rw [<- hpre,List.getD_eq_getElem?_getD,List.getElem?_map,Y] at c;simp only [Option.map_some,Option.getD_some,List.mem_map,List.mem_filter] at c;obtain⟨e,⟨O,D⟩,c⟩:=c;exact⟨e,by simpa using O,D,c⟩
  have a2:∀i,i<n->∀j ∈ pre.getD i [],j<i/\j ∈ anc.getD i []/\∀k ∈ anc.getD j [],k ∈ anc.getD i []:=by
    intro i u j c;have h:=List.all_eq_true.1 hanc i (by simp; omega);simp only [Bool.and_eq_true] at h;have:=List.all_eq_true.1 h.1 j c;simp only [Bool.and_eq_true,decide_eq_true_eq,List.contains_iff_mem] at this;refine⟨this.1.1,this.1.2,fun k hk=>?_⟩;have:=List.all_eq_true.1 this.2 k hk;simpa using this
  have s:∀i,i<n->∀k ∈ anc.getD i [],k<i/\(k ∈ pre.getD i []∨∃j ∈ pre.getD i [],k ∈ anc.getD j []):=by
    intro i u k hk;have h:=List.all_eq_true.1 hanc i (by simp; omega);simp only [Bool.and_eq_true] at h;have:=List.all_eq_true.1 h.2 k hk;simp only [Bool.and_eq_true,decide_eq_true_eq,Bool.or_eq_true,List.contains_iff_mem,List.any_eq_true] at this;refine⟨this.1,this.2.imp id ?_⟩;rintro⟨j,c,hk⟩;exact⟨j,c,by simpa using hk⟩
  have hF:∀i,i<n->(∀j ∈ use.getD i [],j ∈ anc.getD i []/\∀k,k<n->j ∈ use.getD k []->k=i)/\(∀k ∈ see.getD i [],k<n/\i ∈ anc.getD k [])/\(use.getD i []).Nodup/\(see.getD i []).Nodup:=by
    intro i u;unfold flowOk at hflow;simp only [Bool.and_eq_true] at hflow;have h:=List.all_eq_true.1 hflow.2 i (by simp; omega);simp only [Bool.and_eq_true,decide_eq_true_eq] at h;obtain⟨⟨⟨h1,h2⟩,h3⟩,h4⟩:=h;refine⟨fun j c=>?_,fun k hk=>?_,h3,h4⟩
    · have:=List.all_eq_true.1 h1 j c;simp only [Bool.and_eq_true,List.contains_iff_mem] at this;refine⟨this.1,fun k hk hjk=>?_⟩;have:=List.all_eq_true.1 this.2 k (by simp; omega);simp only [Bool.or_eq_true,decide_eq_true_eq,Bool.not_eq_true'] at this;rcases this with h | h
      · exact h
      · have h' : (use.getD k []).contains j=true:=by simpa using hjk
        rw [h'] at h; cases h
    · have:=List.all_eq_true.1 h2 k hk;simpa using this
  refine wp_region_any hm ?_
  let Inv:Array Bool->Act->World->Prop:=fun listed a w=>∃x:Nat->Value,a=putAll a0 ds 0 x /\
    (∀i,i<n->listed.getD i false=true->S i (x i)/\∀j ∈ anc.getD i [],listed.getD j false=true)/\(∀i,listed.getD i false=false->x i=base a0 ds i) /\
    Sp w0 ((List.range n).flatMap (tok R I use listed x)++L) w
  refine YF Inv ?_ ?_ _ _ _ _ (by simp) (by simp) ?_
  · rintro listed a w i hs ⟨x,rfl,g,T,U⟩ u;obtain⟨h1,h2,o,Y,a3⟩:=Yf u;have q:i<n:=by rw [<- hn,b1]; simpa using h1
    have J:i<listed.size:=by omega
    have y : l[i]?=some o:=by simpa using Y
    have V:listed.getD i false=false:=by
      rw [Array.getD_eq_getD_getElem?,Array.getElem?_eq_getElem J] at h2 ⊢;simpa using h2
    have a4:∀j ∈ pre.getD i [],listed.getD j false=true:=fun j c=>by
      obtain⟨e,O,D,rfl⟩:=a1 i o y j c;exact a3 e O D
    have z:∀j ∈ anc.getD i [],listed.getD j false=true:=fun j c=>by
      obtain⟨_,h | ⟨k,hk,hjk⟩⟩:=s i q j c
      · exact a4 j h
      · exact(g k (by have:=(a2 i q k hk).1; omega) (a4 k hk)).2 j hjk
    have r:∀k,i ∈ anc.getD k []->listed.getD k false=false:=fun k hk=>by
      cases hc:listed.getD k false with
      | false=>rfl
      | true =>
        by_cases b3:k<n
        · have:=(g k b3 hc).2 i hk;rw [V] at this; cases this
        · rw [Array.getD_eq_getD_getElem?,Array.getElem?_eq_none (by omega)] at hc;simp at hc
    obtain⟨Z,W,f3,f4⟩:=hF i q
    -- the pool, parted
    have b4:(i::(use.getD i []++see.getD i [])).Nodup:=by
      refine List.nodup_cons.2 ⟨fun h=>?_,List.nodup_append.2 ⟨f3,f4,fun a ha b D e=>?_⟩⟩
      · rcases List.mem_append.1 h with h | h
        · have:=(s i q i (Z i h).1).1; omega
        · have:=(s i q i (W i h).2).1; omega
      · subst e;have h5:=z a (Z a ha).1;have h6:=r a (W a D).2;rw [h5] at h6; cases h6
    have X:∀j ∈ i::(use.getD i []++see.getD i []),j<n:=fun j c=>by
      rcases List.mem_cons.1 c with rfl | c
      · exact q
      · rcases List.mem_append.1 c with h | h
        · have:=(s i q j (Z j h).1).1; omega
        · exact(W j h).1
    have hp:=Y4 n _ b4 X;obtain⟨p,K⟩:∃p,p=(List.range n).filter (fun k=>decide (k ∉ i::(use.getD i []++see.getD i []))):=⟨_,rfl⟩;rw [<- K] at hp;have a5:∀f:Nat->List Pr,((List.range n).flatMap f++L).Perm (f i++((use.getD i []).flatMap f++((see.getD i []).flatMap f++(p.flatMap f++L)))):=fun f=>by
      have:=(hp.flatMap_right f).append_right L;simpa only [List.flatMap_append,List.flatMap_cons,List.append_assoc,List.cons_append] using this
    have hH:=U.perm (a5 _);have t0:tok R I use listed x i=I i:=by unfold tok; rw [V,if_neg (by simp)]
    have tu:∀j ∈ use.getD i [],tok R I use listed x j=R j (x j):=fun j c=>by
      unfold tok;rw [if_pos (z j (Z j c).1),if_neg];intro h;obtain⟨k,hk,h⟩:=List.any_eq_true.1 h;simp only [Bool.and_eq_true,List.contains_iff_mem] at h;have E : k<n:=by rw [<- N]; simpa using hk
      have:=(Z j c).2 k E (by simpa using h.2);subst this;rw [V] at h; exact absurd h.1 (by simp)
    have ts:∀k ∈ see.getD i [],tok R I use listed x k=I k:=fun k hk=>by
      unfold tok; rw [r k (W k hk).2,if_neg (by simp)]
    have eu:(use.getD i []).flatMap (tok R I use listed x)=(use.getD i []).flatMap (fun j=>R j (x j)):=Zj fun j c=>tu j c;have es:(see.getD i []).flatMap (tok R I use listed x)=(see.getD i []).flatMap I:=Zj fun j c=>ts j c;rw [t0,eu,es] at hH;have a6:∀φ,Ent L φ->Ent (p.flatMap (tok R I use listed x)++L) φ:=fun φ hφ w0' w' H'=>hφ _ _ (by
      have:=H'.pick (p.flatMap (tok R I use listed x)).length [] ⟨List.nodup_nil,fun _ h=>by cases h⟩;simpa using this)
    have F:=hstep i o y x w _ (p.flatMap (tok R I use listed x)++L) rfl (fun j c=>(g j (by have:=(s i q j c).1; omega) (z j c)).1) (fun j c=>T j (r j c)) a6 hH;have a7:∀a' w',Gave w0 S R i (putAll a0 ds 0 x) o.dst ((see.getD i []).flatMap I++(p.flatMap (tok R I use listed x)++L)) a' w'->Inv (listed.setIfInBounds i true) a' w':=by
      rintro a' w' ⟨v,rfl,hS,a8⟩;have d:=fun j=>X8 listed i j J;have B:∀j,j≠i->setX x i v j=x j:=fun j c=>by unfold setX; rw [if_neg c]
      have a9:setX x i v i=v:=by unfold setX; rw [if_pos rfl]
      refine⟨setX x i v,?_,fun j c hlj=>?_,fun j hlj=>?_,?_⟩
      · have hd:o.dst=ds.getD i none:=by
          rw [<- hds,List.getD_eq_getElem?_getD,List.getElem?_map,y]; rfl
        rw [hd,Yq x v ds 0 a0 i hdist (by omega),Nat.zero_add]
      · by_cases t:j=i
        · subst t;refine⟨by rw [a9]; exact hS,fun k hk=>?_⟩;rw [d]; split
          · rfl
          · exact z k hk
        · rw [d,if_neg t] at hlj;obtain⟨q1,q2⟩:=g j c hlj;refine⟨by rw [B j t]; exact q1,fun k hk=>?_⟩;rw [d]; split
          · rfl
          · exact q2 k hk
      · rw [d] at hlj;by_cases t:j=i
        · rw [if_pos t] at hlj; cases hlj
        · rw [if_neg t] at hlj;rw [B j t]; exact T j hlj
      · refine Sp.perm ?_ (a5 _).symm;have n0:tok R I use (listed.setIfInBounds i true) (setX x i v) i=R i v:=by
          unfold tok;rw [d,if_pos rfl,if_pos rfl,a9,if_neg];intro h;obtain⟨k,hk,h⟩:=List.any_eq_true.1 h;simp only [Bool.and_eq_true,List.contains_iff_mem] at h;have E : k<n:=by rw [<- N]; simpa using hk
          have h5:=((hF k E).1 i (by simpa using h.2)).1;have h6:=(s k E i h5).1;have h7:=r k h5;rw [d,if_neg (by omega),h7] at h;exact absurd h.1 (by simp)
        have nu:(use.getD i []).flatMap (tok R I use (listed.setIfInBounds i true) (setX x i v))=[]:=by
          rw [List.flatMap_eq_nil_iff];intro j c;unfold tok;rw [d,if_pos,if_pos]
          · refine List.any_eq_true.2 ⟨i,by simp; omega,?_⟩;rw [d,if_pos rfl]; simpa using c
          · split
            · rfl
            · exact z j (Z j c).1
        have ns:(see.getD i []).flatMap (tok R I use (listed.setIfInBounds i true) (setX x i v))=(see.getD i []).flatMap I:=Zj fun k hk=>by
          unfold tok;have:=(s k (W k hk).1 i (W k hk).2).1;rw [d,if_neg (show ¬ k=i by omega),r k (W k hk).2,if_neg (by simp)]
        have no:p.flatMap (tok R I use (listed.setIfInBounds i true) (setX x i v))=p.flatMap (tok R I use listed x):=Zj fun k hk=>by
          have G:=(List.mem_filter.1 (K ▸ hk)).2;simp only [List.mem_cons,List.mem_append,not_or,decide_eq_true_eq] at G;unfold tok;rw [d,if_neg G.1,B k G.1];have e:((List.range use.length).any fun k_1=>(listed.setIfInBounds i true).getD k_1 false && (use.getD k_1 []).contains k)=((List.range use.length).any fun k_1=>listed.getD k_1 false && (use.getD k_1 []).contains k):=by
            congr 1;funext m;rw [d];by_cases b0:m=i
            · subst b0;have:(use.getD m []).contains k=false:=by simpa using G.2.1
              rw [this]; simp
            · rw [if_neg b0]
          rw [e]
        rw [n0,nu,ns,no,List.nil_append];exact a8
    unfold wpOp;simp only [Y];unfold wpList at F;split at F
    · rename_i hw
      rw [if_pos hw];rcases F with h | ⟨h,h'⟩
      · exact .inl (Oper.wp_mono (fun a' w' hh=>a7 a' w' hh) (Y3 h))
      · exact .inr ⟨h,h'⟩
    · rename_i hw
      rw [if_neg hw];exact a7 _ _ F
  · rintro listed a w hs ⟨x,rfl,g,T,U⟩ hr;have C:∀i,i<n->listed.getD i false=true:=by
      intro i;induction i using Nat.strongRecOn with
      | _ i ih =>
        intro u;cases hc:listed.getD i false with
        | true=>rfl
        | false =>
          exfalso;have X:i<l.toArray.size:=by omega
          have:i ∈ Region.ready .any l.toArray listed:=by
            refine X7 X ?_ fun e O D=>?_
            · have:i<listed.size:=by omega
              rw [Array.getD_eq_getD_getElem?,Array.getElem?_eq_getElem this] at hc ⊢;simpa using hc
            · have y : l[i]?=some l.toArray[i]:=by simp
              have hm:=b2 i _ y e O D;have:=(a2 i u _ hm).1;exact ih _ this (by omega)
          rw [hr] at this;cases this
    refine hend x w _ rfl (fun i u=>(g i u (C i u)).1) ?_;refine cast (congrArg (fun M=>Sp w0 (M++L) w) (Zj fun i u=>?_)) U;have b5 : i<n:=by simpa using u
    unfold tok;rw [if_pos (C i b5),N];have e:((List.range n).any fun k=>listed.getD k false && (use.getD k []).contains i)=((List.range n).any fun k=>(use.getD k []).contains i):=by
      rw [Bool.eq_iff_iff,List.any_eq_true,List.any_eq_true];constructor
      · rintro⟨k,hk,h⟩;exact⟨k,hk,(Bool.and_eq_true _ _ ▸ h).2⟩
      · rintro⟨k,hk,h⟩;exact⟨k,hk,by rw [C k (by simpa using hk),h]; rfl⟩
    rw [e]
  · refine⟨base a0 ds,(Yc _ ds 0 a0 fun i _=>by rw [Nat.zero_add]).symm,fun i _ hc=>?_,fun i _=>rfl,?_⟩
    · exfalso;rw [Array.getD_eq_getD_getElem?] at hc;simp [Array.getElem?_replicate] at hc;split at hc <;> simp at hc
    · have:Sp w0 ((List.range n).flatMap I++L) { w with drawn:=w.drawn+1 }:=H.drew;refine cast (congrArg (fun M=>Sp w0 (M++L) _) (Zj fun i u=>?_)) this;unfold tok;rw [if_neg];rw [Array.getD_eq_getD_getElem?];simp only [Array.getElem?_replicate];split <;> simp
theorem upon_exits' {o:Oper} {a:Act} {w:World} {K K' : Act->World->Prop} (h:o.wp P a w K Q):o.wp P a w K (Exit.then K' Q):=by
 unfold Oper.wp at *
 revert h
 cases (execOp a.eval o).run P w with
 | ok n w'=>cases n <;> simp only [Oper.upon] <;> exact id
 | halt x w'=>cases x <;> simp only [Oper.upon] <;> exact id
theorem putAll_eval (x:Nat->Value):∀(ds:List (Option Tmp)) (k i t:Nat) (a:Act),Distinct ds->ds[i]?=some (some t)->t<a.tmps.size->(putAll a ds k x).tmps[t]?=some (x (k+i))
 | [],_,_,_,_,_,h,_=>by simp at h
 | d::ds,k,0,t,a,hd,h,ht=>by
  have:d=some t:=by simpa using h
  subst this;unfold putAll;have c:∀(ds:List (Option Tmp)) (k:Nat) (b:Act),some t ∉ ds->(putAll b ds k x).tmps[t]?=b.tmps[t]?:=by
   intro ds;induction ds with
   | nil=>intro k b _; rfl
   | cons e ds ih =>
    intro k b f;unfold putAll;rw [ih _ _ (fun h=>f (List.mem_cons_of_mem _ h))];cases e with
    | none=>rfl
    | some e =>
     simp only [Act.put];rw [Array.getElem?_setIfInBounds,if_neg];rintro rfl;exact f (List.mem_cons_self ..)
  rw [c _ _ _ (hd.1 t rfl)];simp [Act.put,ht]
 | d::ds,k,i+1,t,a,hd,h,ht=>by
  unfold putAll;rw [putAll_eval x ds (k+1) i t _ hd.2 (by simpa using h) (by cases d <;> simpa [Act.put] using ht)]
  rw [show k+1+i=k+(i+1) by omega]
theorem putAll_eval_far (x:Nat->Value) (t:Nat):∀(ds:List (Option Tmp)) (k:Nat) (a:Act),some t ∉ ds->(putAll a ds k x).tmps[t]?=a.tmps[t]?
 | [],_,_,_=>rfl
 | d::ds,k,a,h=>by
  unfold putAll;rw [putAll_eval_far x t ds (k+1) _ (fun hm=>h (List.mem_cons_of_mem _ hm))];cases d with
  | none=>rfl
  | some e =>
   simp only [Act.put];rw [Array.getElem?_setIfInBounds,if_neg];rintro rfl;exact h (List.mem_cons_self ..)
def yieldsV:Value->Option Bool
 | .bool b=>some b
 | _=>none
def StepOb (P:Program) (Q:Exit->Act->World->Prop) (o:Oper) (x:Nat->Value) (A:Act) (w:World) (K:Act->World->Prop):Prop :=
 match o.guard with
 | none=>o.wp P A w K Q
 | some (j,b)=>∃c,yieldsV (x j)=c/\if c=some b then o.wp P A w K Q else K (A.put o.dst undef) w
theorem tq {l:List Nat} {φ ψ:Nat->Prop} (h:∀j,j ∈ l->φ j/\ψ j) (j:Nat) {T V x:Value} (m:j ∈ l:=by decide) (a:φ j->x=V:=by exact fun q=>q) (b:ψ j->T=x:=by exact fun q=>q _ rfl):T=V:=(b (h j m).2).trans (a (h j m).1)
theorem so {P:Program} {Q:Exit->Act->World->Prop} {o:Oper} {x:Nat->Value} {A:Act} {w:World} {K:Act->World->Prop} (h:o.wp P A w K Q) (g:o.guard=none:=by rfl):StepOb P Q o x A w K:=by
 unfold StepOb;rw [g];exact h
theorem sgT {P:Program} {Q:Exit->Act->World->Prop} {o:Oper} {x:Nat->Value} {A:Act} {w:World} {K:Act->World->Prop} {j:Nat} (pg:x j=.bool true) (h:o.wp P A w K Q) (g:o.guard=some (j,true):=by rfl):StepOb P Q o x A w K:=by
 unfold StepOb;rw [g];exact⟨some true,by rw [pg]; rfl,by rw [if_pos rfl]; exact h⟩
theorem sgF {P:Program} {Q:Exit->Act->World->Prop} {o:Oper} {x:Nat->Value} {A:Act} {w:World} {K:Act->World->Prop} {j:Nat} (pg:x j=.bool false) (h:K (A.put o.dst undef) w) (g:o.guard=some (j,true):=by rfl):StepOb P Q o x A w K:=by
 unfold StepOb;rw [g];exact⟨some false,by rw [pg]; rfl,by rw [if_neg (by decide)]; exact h⟩
def StepsSp (P:Program) (Q:Exit->Act->World->Prop) (S:Nat->Value->Prop) (R:Nat->Value->List Pr) (I:Nat->List Pr) (ds:List (Option Tmp)) (env:List (Nat × Value)) (w0:World) (L:List Pr):Nat->List Oper->List (List Nat)->List (List Nat)->List (List Nat)->Prop
 | i,o::os,an::ans,us::uss,se::ses=>(∀(x:Nat->Value) (w:World) (A:Act) (rest:List Pr),
   (∀p,p ∈ env->A.tmps[p.1]?.getD undef=p.2)->(∀j,j ∈ an->S j (x j)/\∀t,ds.getD j none=some t->A.tmps[t]?.getD undef=x j)->(∀φ,Ent L φ->Ent rest φ) ->
   Sp w0 (I i++(us.flatMap (fun j=>R j (x j))++(se.flatMap I++rest))) w ->
   ∀K:Act->World->Prop,(∀v w',S i v->Sp w0 (R i v++(se.flatMap I++rest)) w'->K (A.put o.dst v) w') ->
   StepOb P Q o x A w K)/\StepsSp P Q S R I ds env w0 L (i+1) os ans uss ses
 | _,[],[],[],[]=>True
 | _,_,_,_,_=>False
theorem YG {S:Nat->Value->Prop} {R:Nat->Value->List Pr} {I:Nat->List Pr} {ds:List (Option Tmp)} {env:List (Nat × Value)} {w0:World} :
  ∀(l:List Oper) (k i:Nat) (o:Oper) (ans uss ses:List (List Nat)),StepsSp P Q S R I ds env w0 L k l ans uss ses->l[i]?=some o ->
  ∀(x:Nat->Value) (w:World) (A:Act) (rest:List Pr),
   (∀p,p ∈ env->A.tmps[p.1]?.getD undef=p.2)->(∀j,j ∈ ans.getD i []->S j (x j)/\∀t,ds.getD j none=some t->A.tmps[t]?.getD undef=x j)->(∀φ,Ent L φ->Ent rest φ) ->
   Sp w0 (I (k+i)++((uss.getD i []).flatMap (fun j=>R j (x j))++((ses.getD i []).flatMap I++rest))) w ->
   ∀K:Act->World->Prop,(∀v w',S (k+i) v->Sp w0 (R (k+i) v++((ses.getD i []).flatMap I++rest)) w'->K (A.put o.dst v) w') ->
   StepOb P Q o x A w K
 | [],_,_,_,_,_,_,_,h=>by simp at h
 | o::os,k,i,o',[],uss,ses,hs,h=>by simp [StepsSp] at hs
 | o::os,k,i,o',an::ans,[],ses,hs,h=>by simp [StepsSp] at hs
 | o::os,k,i,o',an::ans,us::uss,[],hs,h=>by simp [StepsSp] at hs
 | o::os,k,0,o',an::ans,us::uss,se::ses,hs,h=>by
  have:o=o':=by simpa using h
  subst this;exact hs.1
 | o::os,k,i+1,o',an::ans,us::uss,se::ses,hs,h=>by
  have:=YG os (k+1) i o' ans uss ses hs.2 (by simpa using h);rw [show k+1+i=k+(i+1) by omega] at this;exact this
def guardsOk (l:List Oper) (ds:List (Option Tmp)) (anc:List (List Nat)):Bool :=
 (l.zip anc).all fun p=>match p.1.guard with
  | none=>true
  | some (j,_)=>p.2.contains j && (ds.getD j none).isSome
def envOk (env:List (Nat × Value)) (ds:List (Option Tmp)):Bool:=env.all fun p=>!ds.contains (some p.1)
theorem Zs {rid:Nat} {l:List Oper} {a0:Act} {w w0:World}
  (S:Nat->Value->Prop) (R:Nat->Value->List Pr) (I:Nat->List Pr) (n sz:Nat)
  (ds:List (Option Tmp)) (pre anc use see:List (List Nat)) (env:List (Nat × Value)) (hm:P.follows .mixedOrders=true)
  (hds:l.map (·.dst)=ds) (hdist:Distinct ds)
  (hpre:(l.map fun o=>(o.after.toList.filter (Region.binds .any ·)).map (·.on))=pre)
  (hn:pre.length=n) (hanc:ancOk pre anc=true) (hflow:flowOk n anc use see=true) (hgu:guardsOk l ds anc=true) (hanl:anc.length=n)
  (hsz:a0.tmps.size=sz) (hlt:ds.all (fun d=>match d with | some t=>decide (t<sz) | none=>true)=true)
  (henv:∀p,p ∈ env->a0.tmps[p.1]?.getD undef=p.2) (henv2:envOk env ds=true)
  (H:Sp w0 ((List.range n).flatMap I++L) w)
  (hstep:StepsSp P Q S R I ds env w0 L 0 l anc use see)
  (hend:∀(x:Nat->Value) (w:World) (A:Act),A=putAll a0 ds 0 x->(∀i,i<n->S i (x i)) ->
   Sp w0 ((List.range n).flatMap (fun i=>if (List.range n).any (fun k=>(use.getD k []).contains i) then [] else R i (x i))++L) w->Q .normal A w) :
  (Code.region rid l.toArray true).wp P Q a0 w:=by
 have F:ds.length=l.length:=by rw [<- hds]; simp
 have G:pre.length=l.length:=by rw [<- hpre]; simp
 refine wp_region_sp0 S R I n ds pre anc use see hm hds hdist hpre hn hanc hflow H (fun i o ho x w A rest hA hS hu hE hH=>?_) hend;have J:i<l.length:=(List.getElem?_eq_some_iff.1 ho).1;have g:∀j,j<n->∀t,ds.getD j none=some t->A.tmps[t]?=some (x j):=fun j hj t ht=>by
  have f : j<ds.length:=by omega
  rw [List.getD_eq_getElem?_getD,List.getElem?_eq_getElem f] at ht;simp only [Option.getD_some] at ht;have q:=List.all_eq_true.1 hlt _ (List.getElem_mem f);rw [ht] at q;replace q:t<sz:=by simpa using q
  rw [hA,putAll_eval x ds 0 j t a0 hdist (by rw [List.getElem?_eq_getElem f,ht]) (Nat.lt_of_lt_of_eq q hsz.symm),Nat.zero_add]
 have m:∀j,j ∈ anc.getD i []->j<n:=fun j hj=>by
  have h:=List.all_eq_true.1 hanc i (by simp; omega);simp only [Bool.and_eq_true] at h;have:=List.all_eq_true.1 h.2 j hj;simp only [Bool.and_eq_true,decide_eq_true_eq] at this;omega
 have e:=YG l 0 i o anc use see hstep ho x w A rest (fun p hp=>by
   have u:=List.all_eq_true.1 henv2 p hp;rw [hA,putAll_eval_far x p.1 ds 0 a0 (by simpa using u)];exact henv p hp) (fun j hj=>⟨hS j hj,fun t ht=>by rw [g j (m j hj) t ht]; rfl⟩) hE (by rw [Nat.zero_add]; exact hH)
  (Gave w0 S R i A o.dst ((see.getD i []).flatMap I++rest)) (fun v w' h1 u=>⟨v,rfl,by rwa [Nat.zero_add] at h1,by rwa [Nat.zero_add] at u⟩)
 unfold StepOb at e;unfold wpList;cases hg:o.guard with
 | none =>
  rw [hg] at e;have y:Region.wanted o (yielded l.toArray A.tmps)=true:=by simp [Region.wanted,hg]
  rw [if_pos y];refine .inl ?_;refine Oper.wp_mono (fun a w h=>?_) (upon_exits' e);exact h
 | some p =>
  obtain⟨j,b⟩:=p;rw [hg] at e;obtain⟨c,K,e⟩:=e;have s:=List.all_eq_true.1 hgu (o,anc.getD i []) (by
   rw [List.mem_iff_getElem?];refine⟨i,?_⟩;rw [List.getElem?_zip_eq_some];refine⟨ho,?_⟩;rw [List.getD_eq_getElem?_getD,List.getElem?_eq_getElem (by omega)]; rfl)
  simp only [hg,Bool.and_eq_true,List.contains_iff_mem] at s;obtain⟨z,B⟩:=s;have C:=m j z;obtain⟨t,ht⟩:=Option.isSome_iff_exists.1 B;have M:yielded l.toArray A.tmps j=c:=by
   unfold yielded;have D:(l.toArray[j]?).bind (·.dst)=some t:=by
    have f : j<ds.length:=by omega
    rw [List.getD_eq_getElem?_getD,List.getElem?_eq_getElem f] at ht;simp only [Option.getD_some] at ht;subst hds;have E:j<l.length:=by simpa using f
    rw [List.getElem_map] at ht;simp [E,ht]
   rw [D];simp only [Option.bind_some,g j C t ht];rw [<- K];cases x j <;> rfl
  have y:Region.wanted o (yielded l.toArray A.tmps)=(c == some b):=by simp [Region.wanted,hg,M]
  rw [y];by_cases r:c=some b
  ·rw [if_pos r] at e;rw [if_pos (by simp [r])];exact .inl (upon_exits' e)
  ·rw [if_neg r] at e;rw [if_neg (by simpa using r)];exact e
end
end Go.Proofs.YteajimobgkempaaGreatDoor

