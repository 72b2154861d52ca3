/- A pack. -/
import Derived.Test.YtnjpnmpemhldcaaGreatDoorPk19
set_option linter.all false
set_option maxRecDepth 100000
set_option maxHeartbeats 8000000
namespace Go.Proofs.YtnjpnmpemhldcaaGreatDoor
namespace PL
theorem count_flat (z:Nat) (l:List Pk):(l.flatMap Prod.snd).count z=wt (fun p=>p.2.count z) l:=by
 induction l with
 | nil=>rfl
 | cons p l ih=>rw [List.flatMap_cons,List.count_append,ih]; rfl
theorem isort_sorted (cs:List Nat):SS.isort keyP (sorted cs)=sorted cs:=by unfold sorted; rw [SS.isort_isort]
theorem len_sorted (cs:List Nat):(sorted cs).length=(items cs).length:=SS.len_isort _
def symP (p:Pk):Nat:=p.2.headD 0
def sym (it:List Pk) (r:Nat):Nat:=symP (it.getD r pk0)
theorem wt_range (f:Pk->Nat) (l:List Pk):wt f l=((List.range l.length).map fun r=>f (l.getD r pk0)).sum:=by
 unfold wt;congr 1;refine List.ext_getElem (by simp) fun i h1 h2=>?_;rw [List.length_map] at h1;rw [List.getElem_map,List.getElem_map,List.getElem_range,List.getD_eq_getElem?_getD,List.getElem?_eq_getElem h1]; rfl
theorem wt_itemsTo (f:Pk->Nat) (cs:List Nat) (k:Nat):wt f (itemsTo cs k)=((List.range k).map fun z=>if 0<cs.getD z 0 then f (cs.getD z 0,[z]) else 0).sum:=by
 induction k with
 | zero=>rfl
 | succ k ih =>
  rw [itemsTo_succ,List.range_succ,List.map_append,List.sum_append,<- ih];by_cases h:0<cs.getD k 0
  ·rw [if_pos h,wt_append,List.map_cons,List.map_nil,List.sum_cons,List.sum_nil,if_pos h];rfl
  ·rw [if_neg h,List.map_cons,List.map_nil,List.sum_cons,List.sum_nil,if_neg h];rfl
theorem wt_sorted (f:Pk->Nat) (cs:List Nat):wt f (sorted cs)=((List.range cs.length).map fun z=>if 0<cs.getD z 0 then f (cs.getD z 0,[z]) else 0).sum:=by
 unfold sorted;rw [wt_isort];exact wt_itemsTo f cs _
theorem mem_sorted {cs:List Nat} {p:Pk} : p ∈ sorted cs↔∃z,z<cs.length/\0<cs.getD z 0/\p=(cs.getD z 0,[z]):=by
 unfold sorted items itemsTo;rw [SS.mem_isort,List.mem_map];constructor
 ·rintro⟨z,c,rfl⟩;obtain⟨a,b⟩:=List.mem_filter.1 c;exact⟨z,List.mem_range.1 a,of_decide_eq_true b,rfl⟩
 ·rintro⟨z,a,b,rfl⟩;exact⟨z,List.mem_filter.2 ⟨List.mem_range.2 a,decide_eq_true b⟩,rfl⟩
theorem at_sorted {cs:List Nat} {r:Nat} (hr:r<(sorted cs).length):sym (sorted cs) r<cs.length/\0<cs.getD (sym (sorted cs) r) 0/\(sorted cs)[r]=(cs.getD (sym (sorted cs) r) 0,[sym (sorted cs) r]):=by
 obtain⟨z,b,c,a⟩:=mem_sorted.1 (List.getElem_mem hr);have:sym (sorted cs) r=z:=by
  unfold sym;rw [List.getD_eq_getElem?_getD,List.getElem?_eq_getElem hr];show symP (sorted cs)[r]=z;rw [a]; rfl
 rw [this];exact⟨b,c,a⟩
theorem rank_of {cs:List Nat} {z:Nat} (h1:z<cs.length) (h2:0<cs.getD z 0):∃r,r<(sorted cs).length/\sym (sorted cs) r=z:=by
 obtain⟨r,a,e⟩:=List.getElem_of_mem (mem_sorted.2 ⟨z,h1,h2,rfl⟩);refine⟨r,a,?_⟩;unfold sym;rw [List.getD_eq_getElem?_getD,List.getElem?_eq_getElem a];show symP (sorted cs)[r]=z;rw [e]; rfl
theorem count_all (cs:List Nat) (z k:Nat):((List.range k).map fun i=>if 0<cs.getD i 0 then [i].count z else 0).sum=if z<k/\0<cs.getD z 0 then 1 else 0:=by
 induction k with
 | zero=>simp
 | succ k ih =>
  rw [List.range_succ,List.map_append,List.sum_append,ih,List.map_cons,List.map_nil,List.sum_cons,List.sum_nil,List.count_singleton];have c:∀x:Nat,k≠z->(if 0<x then (if (k == z)=true then 1 else 0) else 0)+0=0:=fun x h=>by
   have b:(k == z)=false:=by rw [beq_eq_false_iff_ne]; exact h
   rw [b]; split <;> rfl
  rcases Nat.lt_trichotomy z k with h | h | h
  ·rw [c _ (by omega)];by_cases a:0<cs.getD z 0
   ·rw [if_pos ⟨h,a⟩,if_pos ⟨by omega,a⟩]
   ·rw [if_neg (fun q=>a q.2),if_neg (fun q=>a q.2)]
  ·subst h;have b:(z == z)=true:=by simp
   rw [b,if_pos rfl];by_cases a:0<cs.getD z 0
   ·rw [if_neg (fun q=>Nat.lt_irrefl _ q.1),if_pos a,if_pos ⟨by omega,a⟩]; omega
   ·rw [if_neg (fun q=>a q.2),if_neg a,if_neg (fun q=>a q.2)]; omega
  ·rw [c _ (by omega),if_neg (fun q=>by have:=q.1; omega),if_neg (fun q=>by have:=q.1; omega)]
theorem count_take (cs:List Nat) (r a:Nat) (hr:r<(sorted cs).length):wt (fun p=>p.2.count (sym (sorted cs) r)) ((sorted cs).take a)=if r<a then 1 else 0:=by
 obtain⟨z,c⟩:=exq (sym (sorted cs) r);have b:=at_sorted hr;rw [c] at b ⊢;have d:wt (fun p=>p.2.count z) (sorted cs)=1:=by
  rw [wt_sorted];show((List.range cs.length).map fun i=>if 0<cs.getD i 0 then [i].count z else 0).sum=1;rw [count_all,if_pos ⟨b.1,b.2.1⟩]
 have e:=wt_append (fun p=>p.2.count z) ((sorted cs).take a) ((sorted cs).drop a);rw [List.take_append_drop,d] at e;have g:(sorted cs)[r].2.count z=1:=by rw [b.2.2]; simp
 split
 ·rename_i h
  have f:(sorted cs)[r].2.count z<=wt (fun p=>p.2.count z) ((sorted cs).take a):=wt_mem (fun p=>p.2.count z) (l:=(sorted cs).take a) (p:=(sorted cs)[r]) (by
   refine List.mem_of_getElem? (i:=r) ?_;rw [List.getElem?_take_of_lt h,List.getElem?_eq_getElem hr])
  omega
 ·rename_i h
  have f:(sorted cs)[r].2.count z<=wt (fun p=>p.2.count z) ((sorted cs).drop a):=wt_mem (fun p=>p.2.count z) (l:=(sorted cs).drop a) (p:=(sorted cs)[r]) (by
   refine List.mem_of_getElem? (i:=r - a) ?_;rw [List.getElem?_drop,show a+(r - a)=r by omega,List.getElem?_eq_getElem hr])
  omega
def taken (cs:List Nat) (m:Nat):List Pk:=if (items cs).length<2 then items cs else (lst (sorted cs) (m - 1)).take (2 * (items cs).length - 2)
theorem flat_taken (cs:List Nat) (m:Nat):flat cs m=(taken cs m).flatMap Prod.snd:=by
 unfold flat taken;split <;> rfl
theorem lens_get (cs:List Nat) (m z:Nat) (hz:z<cs.length):(lens cs m).getD z 0=wt (fun p=>p.2.count z) (taken cs m):=by
 rw [<- count_flat,<- flat_taken];unfold lens;rw [List.getD_eq_getElem?_getD,List.getElem?_map,List.getElem?_range hz]; rfl
theorem shape (cs:List Nat) (m:Nat) (hm:1<=m) (hk:(items cs).length<=2 ^ m):∃us:List Nat,(∀a ∈ us,a<=(sorted cs).length)/\(∀r,r<(sorted cs).length->1<=ranks us r/\ranks us r<=m) /\
  (∀f:Pk->Nat,(∀a b,f (comb a b)=f a+f b)->wt f (taken cs m)=(us.map fun a=>wt f ((sorted cs).take a)).sum) /\
  (2<=(sorted cs).length->((List.range (sorted cs).length).map fun r=>2 ^ (m - ranks us r)).sum=2 ^ m)/\((sorted cs).length<2->∀r,r<(sorted cs).length->ranks us r=1):=by
 by_cases d:(items cs).length<2
 ·refine⟨[(sorted cs).length],fun a ha=>by rw [List.mem_singleton.1 ha]; exact Nat.le_refl _,fun r hr=>?_,fun f _=>?_,fun h=>by rw [len_sorted] at h; omega,fun _ r hr=>?_⟩
  ·have:ranks [(sorted cs).length] r=1:=by unfold ranks; rw [List.countP_cons_of_pos (by simpa using hr)]; rfl
   omega
  ·unfold taken;rw [if_pos d];simp only [List.map_cons,List.map_nil,List.sum_cons,List.sum_nil,List.take_length,Nat.add_zero];unfold sorted;rw [wt_isort]
  ·unfold ranks; rw [List.countP_cons_of_pos (by simpa using hr)]; rfl
 ·obtain⟨q,rfl⟩:∃q,m=q+1:=⟨m - 1,by omega⟩;have c:=lst_enough (sorted cs) (q+1) hm (by rw [len_sorted]; exact hk);rw [len_sorted] at c;obtain⟨us,j,k,e,g,l,_⟩:=cut (sorted cs) (isort_sorted cs) q (2 * (items cs).length - 2) c;rw [<- len_sorted] at g;have i:=kraft j k e (by rw [len_sorted]; omega) g;refine⟨us,e,fun r hr=>⟨i.2 r hr,?_⟩,fun f hf=>?_,fun _=>i.1,fun h=>by rw [len_sorted] at h; omega⟩
  ·have:=ranks_le us r; omega
  ·unfold taken;rw [if_neg d];exact l f hf
theorem sum_ite (us:List Nat) (r:Nat):(us.map fun a=>if r<a then 1 else 0).sum=ranks us r:=by
 induction us with
 | nil=>rfl
 | cons a us ih =>
  rw [List.map_cons,List.sum_cons,ih];unfold ranks;split
  ·rename_i h; rw [List.countP_cons_of_pos (by simpa using h)]; omega
  ·rename_i h; rw [List.countP_cons_of_neg (by simpa using h)]; omega
theorem lens_rank {cs:List Nat} {m:Nat} {us:List Nat} (h:∀f:Pk->Nat,(∀a b,f (comb a b)=f a+f b)->wt f (taken cs m)=(us.map fun a=>wt f ((sorted cs).take a)).sum) (r:Nat) (hr:r<(sorted cs).length):(lens cs m).getD (sym (sorted cs) r) 0=ranks us r:=by
 rw [lens_get _ _ _ (at_sorted hr).1,h _ (fun a b=>List.count_append ..),<- sum_ite];congr 1;exact List.map_congr_left fun a _=>count_take cs r a hr
theorem lens_none {cs:List Nat} {m:Nat} {us:List Nat} (h:∀f:Pk->Nat,(∀a b,f (comb a b)=f a+f b)->wt f (taken cs m)=(us.map fun a=>wt f ((sorted cs).take a)).sum) (z:Nat) (hz:cs.getD z 0=0):(lens cs m).getD z 0=0:=by
 rcases Nat.lt_or_ge z cs.length with h1 | h1
 ·rw [lens_get _ _ _ h1,h _ (fun a b=>List.count_append ..)];have c:wt (fun p=>p.2.count z) (sorted cs)=0:=by
   rw [wt_sorted];show((List.range cs.length).map fun i=>if 0<cs.getD i 0 then [i].count z else 0).sum=0;rw [count_all,if_neg (by omega)]
  have:(us.map fun a=>wt (fun p=>p.2.count z) ((sorted cs).take a))=us.map fun _=>0:=List.map_congr_left fun a _=>by
   have:=wt_take (fun p=>p.2.count z) (sorted cs) a;omega
  rw [this,sum_const,Nat.mul_zero]
 ·rw [List.getD_eq_getElem?_getD,List.getElem?_eq_none (by rw [lens_len]; exact h1)]; rfl
def unit (x:Nat):Nat:=if x≠0/\x<16 then 2 ^ (15 - x) else 0
theorem share_cons (x:Nat) (m:List Nat) (n:Nat):PH.share (x::m) n=PH.share m n+if x≠0/\x<n then 2 ^ (15 - x) else 0:=by
 induction n with
 | zero=>simp [PH.share]
 | succ n ih =>
  rw [PH.share,PH.share,ih];unfold PH.tal;rw [List.count_cons];by_cases b:n=0
  ·subst b;rw [if_pos rfl,if_pos rfl,if_neg (by omega),if_neg (by omega)]
  ·rw [if_neg b,if_neg b,Nat.add_mul];by_cases c:x=n
   ·subst c;rw [if_neg (by omega),if_pos (by simp),if_pos (by omega)]; omega
   ·have d:(x == n)=false:=by rw [beq_eq_false_iff_ne]; exact c
    have e:(if (x == n)=true then 1 else 0)=0:=by rw [d]; rfl
    rw [e];by_cases a:x≠0/\x<n
    ·rw [if_pos a,if_pos (by omega)]; omega
    ·rw [if_neg a,if_neg (by omega)]; omega
theorem sum_units (m:List Nat):PH.sum m=(m.map unit).sum:=by
 induction m with
 | nil=>decide
 | cons x m ih =>
  unfold PH.sum at ih ⊢;rw [share_cons,ih,List.map_cons,List.sum_cons];unfold unit;omega
theorem map_getD (m:List Nat):m=(List.range m.length).map fun i=>m.getD i 0:=by
 refine List.ext_getElem (by simp) fun i h1 h2=>?_;rw [List.getElem_map,List.getElem_range,List.getD_eq_getElem?_getD,List.getElem?_eq_getElem h1]; rfl
theorem units_of (cs ls:List Nat) (hl:ls.length=cs.length) (h0:∀z,z<cs.length->cs.getD z 0=0->ls.getD z 0=0):PH.sum ls=wt (fun p=>unit (ls.getD (symP p) 0)) (sorted cs):=by
 rw [sum_units,wt_sorted]
 conv=>lhs; rw [map_getD ls,List.map_map,hl]
 congr 1;refine List.map_congr_left fun z hz=>?_;have hz:=List.mem_range.1 hz;split
 ·rfl
 ·rename_i h
  show unit (ls.getD z 0)=0;rw [h0 z hz (by omega)]; rfl
theorem lens_sum (cs:List Nat) (m:Nat) (hm:1<=m) (h15:m<=15) (hk:(items cs).length<=2 ^ m):PH.sum (lens cs m)=if 2<=(items cs).length then 32768 else (items cs).length * 16384:=by
 obtain⟨a,n,d,e,h,i⟩:=shape cs m hm hk;rw [units_of cs _ (lens_len _ _) (fun z _=>lens_none e z),wt_range];have j:((List.range (sorted cs).length).map fun r=>unit ((lens cs m).getD (symP ((sorted cs).getD r pk0)) 0))=(List.range (sorted cs).length).map fun r=>2 ^ (15 - ranks a r):=List.map_congr_left fun r hr=>by
  have hr:=List.mem_range.1 hr;have g:=lens_rank e r hr;unfold sym at g;rw [g];have:=d r hr;unfold unit;rw [if_pos (by omega)]
 rw [j];split
 ·rename_i hge
  have b:((List.range (sorted cs).length).map fun r=>2 ^ (15 - ranks a r))=(List.range (sorted cs).length).map fun r=>2 ^ (15 - m) * 2 ^ (m - ranks a r):=List.map_congr_left fun r hr=>by
   have:=d r (List.mem_range.1 hr);rw [<- Nat.pow_add];congr 1;omega
  have k:∀(l:List Nat) (c:Nat) (f:Nat->Nat),(l.map fun r=>c * f r).sum=c * (l.map f).sum:=by
   intro l c f;induction l with
   | nil=>rfl
   | cons x l ih=>rw [List.map_cons,List.sum_cons,ih,List.map_cons,List.sum_cons,Nat.mul_add]
  rw [b,k,h (by rw [len_sorted]; exact hge),<- Nat.pow_add,show 15 - m+m=15 by omega]
 ·rename_i hlt
  have b:((List.range (sorted cs).length).map fun r=>2 ^ (15 - ranks a r))=(List.range (sorted cs).length).map fun _=>16384:=List.map_congr_left fun r hr=>by
   rw [i (by rw [len_sorted]; omega) r (List.mem_range.1 hr)]
  rw [b,sum_const,List.length_range,len_sorted]
theorem lens_in (cs:List Nat) (m z:Nat) (hm:1<=m) (hk:(items cs).length<=2 ^ m) (hz:z<cs.length):(0<cs.getD z 0->1<=(lens cs m).getD z 0)/\(cs.getD z 0=0->(lens cs m).getD z 0=0)/\(lens cs m).getD z 0<=m:=by
 obtain⟨f,g,d,a,i,j⟩:=shape cs m hm hk;rcases Nat.eq_zero_or_pos (cs.getD z 0) with h0 | h0
 ·have:=lens_none (m:=m) a z h0;exact⟨fun h=>by omega,fun _=>this,by omega⟩
 ·obtain⟨r,b,e⟩:=rank_of hz h0;have c:=lens_rank a r b;rw [e] at c;have:=d r b;rw [c];exact⟨fun _=>this.1,fun h=>by omega,this.2⟩
end PL
namespace PH
def bitsC (n c:Nat):List Bool:=(List.range n).map fun k=>c.testBit (n - 1 - k)
theorem bitsC_len (n c:Nat):(bitsC n c).length=n:=by simp [bitsC]
theorem bitsC_rev (n c:Nat):bitsC n c=(List.range n).map fun k=>(PBits.rev c n).testBit k:=by
 unfold bitsC;refine List.map_congr_left fun k hk=>?_;rw [PBits.rev_bit,decide_eq_true (List.mem_range.1 hk),Bool.true_and]
theorem bitsC_numb (n c k:Nat) (hc:c<2 ^ n) (hk:k<=n):numb ((bitsC n c).take k)=c / 2 ^ (n - k):=by
 induction k with
 | zero=>rw [List.take_zero,Nat.sub_zero,Nat.div_eq_of_lt hc]; rfl
 | succ k ih =>
  have a:(bitsC n c).take (k+1)=(bitsC n c).take k++[c.testBit (n - 1 - k)]:=by
   rw [List.take_succ_eq_append_getElem (by rw [bitsC_len]; omega)];simp [bitsC]
  rw [a,numb_snoc,ih (by omega),show n - (k+1)=n - 1 - k by omega,show n - k=(n - 1 - k)+1 by omega,Nat.pow_succ,<- Nat.div_div_eq_div_mul];have b:bitV (c.testBit (n - 1 - k))=c / 2 ^ (n - 1 - k) % 2:=by
   rw [Nat.testBit_eq_decide_div_mod_eq];unfold bitV;by_cases q:c / 2 ^ (n - 1 - k) % 2=1
   ·simp [q]
   ·simp [q]; omega
  rw [b]; omega
theorem code_lt (m:List Nat) (i p:Nat) (hi:i<m.length) (hp:m.getD i 0=p+1) (h15:p+1<=15) (hs:sum m<=32768):codeAt m i<2 ^ (p+1):=by
 have d:=(codeAt_lt m i (p+1) hi hp (by omega)).2;have a:=share_next m (p+1) (by omega) h15;have e:=share_mono m (p+1+1) 16 (by omega);unfold sum at hs;have b:(2:Nat) ^ (p+1) * 2 ^ (15 - (p+1))=32768:=by rw [<- Nat.pow_add,show p+1+(15 - (p+1))=15 by omega]
 have c:(fst m (p+1)+tal m (p+1)) * 2 ^ (15 - (p+1))<=2 ^ (p+1) * 2 ^ (15 - (p+1)):=by rw [a,b]; omega
 have f:=Nat.le_of_mul_le_mul_right c (Nat.two_pow_pos _);omega
theorem next_code (m:List Nat) (i p mo:Nat) (rest:List Bool) (hi:i<m.length) (hp:m.getD i 0=p+1) (hmo:p+1<=mo) (h15:mo<=15) (hs:sum m<=32768):nextFrom m (bitsC (p+1) (codeAt m i)++rest) mo 0=(p+1,0,i):=by
 obtain⟨c,n⟩:=exq (codeAt m i);have b:=codeAt_lt m i (p+1) hi hp (by omega);have o:=code_lt m i p hi hp (by omega) hs;rw [n] at b o ⊢;have r:∀q,q<=p->numb ((bitsC (p+1) c++rest).take (q+1))=c / 2 ^ (p - q):=fun q hq=>by
  rw [List.take_append_of_le_length (by rw [bitsC_len]; omega),bitsC_numb _ _ _ o (by omega),show p+1 - (q+1)=p - q by omega]
 have s:∀q,q<=p->¬ (bitsC (p+1) c++rest).length<=q:=fun q hq=>by rw [List.length_append,bitsC_len]; omega
 obtain⟨j,t,a,d,f⟩:=code_sym m p c (by omega) b.1 b.2;have g:j=i:=code_inj m j i t hi (by rw [a]; omega) (by rw [a,hp]) (by rw [d,n]);subst g;have h:∀k q,k+q=mo->q<=p->nextFrom m (bitsC (p+1) c++rest) k q=(p+1,0,j):=by
  intro k;induction k with
  | zero=>intro q u l; omega
  | succ k ih =>
   intro q u l;rw [nextFrom,if_neg (s q l),r q l];by_cases e:q=p
   ·subst e;rw [Nat.sub_self,Nat.pow_zero,Nat.div_one,if_pos b.2,f]
   ·have:¬ c / 2 ^ (p - q)<fst m (q+1)+tal m (q+1):=by
     rw [Nat.not_lt,Nat.le_div_iff_mul_le (Nat.two_pow_pos _)];have v:=share_next m (q+1) (by omega) (by omega);have w:=fst_share15 m (p+1) (by omega) (by omega);have x:=share_mono m (q+1+1) (p+1) (by omega);have y:(fst m (q+1)+tal m (q+1)) * 2 ^ (p - q) * 2 ^ (15 - (p+1))<=fst m (p+1) * 2 ^ (15 - (p+1)):=by
      rw [Nat.mul_assoc,<- Nat.pow_add,show p - q+(15 - (p+1))=15 - (q+1) by omega,v,w];exact x
     have:=Nat.le_of_mul_le_mul_right y (Nat.two_pow_pos _);omega
    rw [if_neg this];exact ih (q+1) (by omega) (by omega)
 exact h mo 0 rfl (Nat.zero_le _)
def word (m:List Nat) (l:List Nat):List Bool:=l.flatMap fun s=>bitsC (m.getD s 0) (codeAt m s)
end PH
namespace PL
theorem lens_one (cs:List Nat) (m z:Nat) (hm:1<=m) (hk:(items cs).length<=2 ^ m) (h2:(items cs).length<2) (hz:z<cs.length):(lens cs m).getD z 0<=1:=by
 obtain⟨g,h,d,a,i,f⟩:=shape cs m hm hk;rcases Nat.eq_zero_or_pos (cs.getD z 0) with h0 | h0
 ·rw [lens_none (m:=m) a z h0]; omega
 ·obtain⟨r,b,e⟩:=rank_of hz h0;have c:=lens_rank a r b;rw [e] at c;rw [c,f (by rw [len_sorted]; exact h2) r b];omega
theorem tal_none {m:List Nat} (h:∀x ∈ m,x<=1) (n:Nat) (hn:2<=n):PH.tal m n=0:=by
 rw [PH.tal_pos m n (by omega)];refine List.count_eq_zero.2 fun hx=>?_;have:=h n hx;omega
theorem share_few {m:List Nat} (h:∀x ∈ m,x<=1) (d:Nat):PH.share m (d+2)=PH.tal m 1 * 16384:=by
 induction d with
 | zero=>exact PH.share_two m
 | succ d ih =>
  show PH.share m (d+2)+PH.tal m (d+2) * _=_;rw [ih,tal_none h (d+2) (by omega)]; omega
theorem rows_few {m:List Nat} (h:∀x ∈ m,x<=1) (d:Nat):(PH.rowsB m (d+1)).length=PH.tal m 1:=by
 induction d with
 | zero =>
  rw [PH.rowsB_tal];show 0+PH.tal m 1=PH.tal m 1;omega
 | succ d ih =>
  rw [PH.rowsB_tal,ih,tal_none h (d+1+1) (by omega)]; omega
theorem lens_book (cs:List Nat) (m:Nat) (hm:1<=m) (h15:m<=15) (hk:(items cs).length<=2 ^ m):mayBook (lens cs m)=true/\PH.sum (lens cs m)<=32768/\∃mo,mostOf (lens cs m)=((mo:Nat):Int)/\1<=mo/\mo<=15/\∀z,z<cs.length->(lens cs m).getD z 0<=mo:=by
 have c:=lens_sum cs m hm h15 hk;by_cases d:2<=(items cs).length
 ·rw [if_pos d] at c;have a:PH.state (lens cs m)=0:=by unfold PH.state; rw [c]; rfl
  refine⟨?_,by omega,15,?_,by omega,by omega,fun z hz=>Nat.le_trans (lens_in cs m z hm hk hz).2.2 h15⟩
  ·unfold mayBook; rw [a]; rfl
  ·unfold mostOf; rw [if_pos a]; rfl
 ·rw [if_neg d] at c;have b:∀x ∈ lens cs m,x<=1:=fun x hx=>by
   obtain⟨z,hz,rfl⟩:=List.getElem_of_mem hx;have:=lens_one cs m z hm hk (by omega) (by rw [lens_len] at hz; exact hz)
   rwa [List.getD_eq_getElem?_getD,List.getElem?_eq_getElem hz] at this
  have f:PH.sum (lens cs m)=PH.tal (lens cs m) 1 * 16384:=share_few b 14;have e:(PH.rows (lens cs m)).length=PH.tal (lens cs m) 1:=rows_few b 14;have a:PH.state (lens cs m) = -1:=by unfold PH.state; rw [if_pos (by omega)]
  refine⟨?_,by omega,1,?_,by omega,by omega,fun z hz=>lens_one cs m z hm hk (by omega) hz⟩
  ·unfold mayBook;rw [e];have:PH.tal (lens cs m) 1=0∨PH.tal (lens cs m) 1=1:=by omega
   rcases this with h | h <;> rw [h] <;> simp
  ·unfold mostOf; rw [if_neg (by rw [a]; decide)]; rfl
end PL
end Go.Proofs.YtnjpnmpemhldcaaGreatDoor

