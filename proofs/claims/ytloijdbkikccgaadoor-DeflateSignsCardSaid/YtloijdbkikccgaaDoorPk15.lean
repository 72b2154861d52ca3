/- A pack of texts: SepRegionD. -/
import Derived.Test.YtloijdbkikccgaaDoorPk02
import Derived.Test.YtloijdbkikccgaaDoorPk14
namespace Go.Proofs.YtloijdbkikccgaaDoor
open Go.RowKit
section
variable {P:Program} {Q:Exit->Act->World->Prop}
def Sd (vals:List (Option Value)) (Sx:Nat->Value->Value->Prop) (i:Nat) (u v:Value):Prop:=match vals.getD i none with
 | some t=>v=t
 | none=>Sx i u v
def FactsN (A:Act):List (Nat × Value)->Prop->Prop
 | [],p=>p
 | (t,v)::r,p=>A.tmps[t]?.getD undef=v/\FactsN A r p
theorem factsN_of {A:Act} : ∀(env:List (Nat × Value)) (p:Prop),p->(∀q,q ∈ env->A.tmps[q.1]?.getD undef=q.2)->FactsN A env p
 | [],_,hp,_=>hp
 | (t,v)::r,p,hp,h=>⟨h (t,v) (List.mem_cons_self ..),factsN_of r p hp fun q hq=>h q (List.mem_cons_of_mem _ hq)⟩
theorem factsN_get {A:Act} : ∀ {env:List (Nat × Value)} {p:Prop},FactsN A env p->∀q,q ∈ env->A.tmps[q.1]?.getD undef=q.2
 | [],_,_,q,hq=>by cases hq
 | (t,v)::r,p,h,q,hq=>by
  rcases List.mem_cons.1 hq with rfl | hq
  ·exact h.1
  ·exact factsN_get h.2 q hq
def StepsSd (P:Program) (Q:Exit->Act->World->Prop) (vals:List (Option Value)) (Sx:Nat->Value->Value->Prop) (R:Nat->Value->Value->List Pr) (I:Nat->List Pr) (dp:List (Option Nat)) (ds:List (Option Tmp)) (env:List (Nat × Value)) (w0:World) (L:List Pr):Nat->List Oper->List (List Nat)->List (List Nat)->List (List Nat)->Prop
 | i,o::os,an::ans,us::uss,se::ses=>(∀(x:Nat->Value) (w:World) (A:Act) (rest:List Pr),
   FactsN A env (FactsA A an ds vals 0)->(∀j,j ∈ an->Sd vals Sx j (up dp x j) (x j)/\∀t,ds.getD j none=some t->A.tmps[t]?.getD undef=x j)->(∀φ,Ent L φ->Ent rest φ) ->
   Sp w0 (I i++(us.flatMap (fun j=>R j (up dp x j) (x j))++(se.flatMap I++rest))) w ->
   ∀K:Act->World->Prop,(∀v w',Sd vals Sx i (up dp x i) v->Sp w0 (R i (up dp x i) v++(se.flatMap I++rest)) w'->K (A.put o.dst v) w') ->
   StepOb P Q o x A w K)/\StepsSd P Q vals Sx R I dp ds env w0 L (i+1) os ans uss ses
 | _,[],[],[],[]=>True
 | _,_,_,_,_=>False
theorem stepsDp_of {vals:List (Option Value)} {Sx:Nat->Value->Value->Prop} {R:Nat->Value->Value->List Pr} {I:Nat->List Pr} {dp:List (Option Nat)} {ds:List (Option Tmp)} {env:List (Nat × Value)} {w0:World} {L:List Pr} :
  ∀(i:Nat) (os:List Oper) (ans uss ses:List (List Nat)),StepsSd P Q vals Sx R I dp ds env w0 L i os ans uss ses->StepsDp P Q (Sd vals Sx) R I dp ds env w0 L i os ans uss ses
 | i,[],[],[],[],h=>trivial
 | i,o::os,an::ans,us::uss,se::ses,h=>by
  refine⟨fun x w A rest hN hS hE H K hK=>h.1 x w A rest ?_ hS hE H K hK,stepsDp_of (i+1) os ans uss ses h.2⟩
  refine factsN_of env _ (factsA_of ds vals 0 fun j t v hj _ h1 h2=>?_) hN
  rw [Nat.sub_zero] at h1 h2
  obtain⟨a1,a2⟩:=hS j hj
  rw [a2 t (by rw [List.getD_eq_getElem?_getD,h1]; rfl)]
  unfold Sd at a1
  rw [List.getD_eq_getElem?_getD,h2] at a1
  exact a1
 | i,[],an::ans,uss,ses,h=>by simp [StepsSd] at h
 | i,[],[],us::uss,ses,h=>by simp [StepsSd] at h
 | i,[],[],[],se::ses,h=>by simp [StepsSd] at h
 | i,o::os,[],uss,ses,h=>by simp [StepsSd] at h
 | i,o::os,an::ans,[],ses,h=>by simp [StepsSd] at h
 | i,o::os,an::ans,us::uss,[],h=>by simp [StepsSd] at h
theorem wp_region_sd {rid:Nat} {l:List Oper} {a0:Act} {w w0:World} {L:List Pr}
  (vals:List (Option Value)) (Sx:Nat->Value->Value->Prop) (R:Nat->Value->Value->List Pr) (I:Nat->List Pr) (n sz:Nat)
  (ds:List (Option Tmp)) (pre anc use see:List (List Nat)) (dp:List (Option Nat)) (env:List (Nat × Value)) (hm:P.follows .mixedOrders=true)
  (hds:l.map (·.dst)=ds) (hdist:Distinct ds)
  (hpre:(l.map fun o=>(o.after.toList.filter (Region.binds .any ·)).map (·.on))=pre)
  (hok:(pre.length == n && ancOk pre anc && flowOk n anc use see && guardsOk l ds anc && anc.length == n && ds.all (fun d=>match d with | some t=>decide (t<sz) | none=>true) && depOk n anc dp)=true)
  (hsz:a0.tmps.size=sz) (henv:∀p,p ∈ env->a0.tmps[p.1]?.getD undef=p.2) (henv2:envOk env ds=true)
  (H:Sp w0 ((List.range n).flatMap I++L) w)
  (hstep:StepsSd P Q vals Sx R I dp ds env w0 L 0 l anc use see)
  (hend:∀(x:Nat->Value) (w:World) (A:Act),A=putAll a0 ds 0 x->(∀i,i<n->Sd vals Sx i (up dp x i) (x i)) ->
   Sp w0 ((List.range n).flatMap (fun i=>if (List.range n).any (fun k=>(use.getD k []).contains i) then [] else R i (up dp x i) (x i))++L) w->Q .normal A w) :
  (Code.region rid l.toArray true).wp P Q a0 w:=by
 simp only [Bool.and_eq_true,beq_iff_eq] at hok
 obtain⟨⟨⟨⟨⟨⟨h1,h2⟩,h3⟩,h4⟩,h5⟩,h6⟩,h7⟩:=hok
 exact wp_region_dp (Sd vals Sx) R I n sz ds pre anc use see dp h7 env hm hds hdist hpre h1 h2 h3 h4 h5 hsz h6 henv henv2 H (stepsDp_of 0 l anc use see hstep) hend
end
end Go.Proofs.YtloijdbkikccgaaDoor

