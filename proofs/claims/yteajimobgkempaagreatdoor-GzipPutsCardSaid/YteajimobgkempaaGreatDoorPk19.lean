/- A pack. -/
import Derived.WideKeyEntry
import Derived.Test.YteajimobgkempaaGreatDoorPk18
set_option linter.all false
set_option maxRecDepth 100000
set_option maxHeartbeats 8000000
namespace Go.Proofs.YteajimobgkempaaGreatDoor
namespace PL
theorem count_flat (z:Nat) (l:List Pk):(l.flatMap Prod.snd).count z=wt (fun p=>p.2.count z) l:=by
 induction l with
 | nil=>rfl
 | cons p l ih=>rw [List.flatMap_cons,List.count_append,ih]; rfl
theorem isort_sorted (cs:List Nat):SS.isort keyP (sorted cs)=sorted cs:=by unfold sorted; rw [SS.isort_isort]
theorem len_sorted (cs:List Nat):(sorted cs).length=(items cs).length:=SS.len_isort _
def symP (p:Pk):Nat:=p.2.headD 0
def sym (it:List Pk) (r:Nat):Nat:=symP (it.getD r pk0)
theorem wt_range (f:Pk->Nat) (l:List Pk):wt f l=((List.range l.length).map fun r=>f (l.getD r pk0)).sum:=by
 unfold wt;congr 1;refine List.ext_getElem (by simp) fun i h1 h2=>?_;rw [List.length_map] at h1;rw [List.getElem_map,List.getElem_map,List.getElem_range,List.getD_eq_getElem?_getD,List.getElem?_eq_getElem h1]; rfl
theorem wt_itemsTo (f:Pk->Nat) (cs:List Nat) (k:Nat):wt f (itemsTo cs k)=((List.range k).map fun z=>if 0<cs.getD z 0 then f (cs.getD z 0,[z]) else 0).sum:=by
 induction k with
 | zero=>rfl
 | succ k ih =>
  rw [itemsTo_succ,List.range_succ,List.map_append,List.sum_append,<- ih];by_cases h:0<cs.getD k 0
  ·rw [if_pos h,wt_append,List.map_cons,List.map_nil,List.sum_cons,List.sum_nil,if_pos h];rfl
  ·rw [if_neg h,List.map_cons,List.map_nil,List.sum_cons,List.sum_nil,if_neg h];rfl
theorem wt_sorted (f:Pk->Nat) (cs:List Nat):wt f (sorted cs)=((List.range cs.length).map fun z=>if 0<cs.getD z 0 then f (cs.getD z 0,[z]) else 0).sum:=by
 unfold sorted;rw [wt_isort];exact wt_itemsTo f cs _
theorem mem_sorted {cs:List Nat} {p:Pk} : p ∈ sorted cs↔∃z,z<cs.length/\0<cs.getD z 0/\p=(cs.getD z 0,[z]):=by
 unfold sorted items itemsTo;rw [SS.mem_isort,List.mem_map];constructor
 ·rintro⟨z,c,rfl⟩;obtain⟨a,b⟩:=List.mem_filter.1 c;exact⟨z,List.mem_range.1 a,of_decide_eq_true b,rfl⟩
 ·rintro⟨z,a,b,rfl⟩;exact⟨z,List.mem_filter.2 ⟨List.mem_range.2 a,decide_eq_true b⟩,rfl⟩
theorem at_sorted {cs:List Nat} {r:Nat} (hr:r<(sorted cs).length):sym (sorted cs) r<cs.length/\0<cs.getD (sym (sorted cs) r) 0/\(sorted cs)[r]=(cs.getD (sym (sorted cs) r) 0,[sym (sorted cs) r]):=by
 obtain⟨z,b,c,a⟩:=mem_sorted.1 (List.getElem_mem hr);have:sym (sorted cs) r=z:=by
  unfold sym;rw [List.getD_eq_getElem?_getD,List.getElem?_eq_getElem hr];show symP (sorted cs)[r]=z;rw [a]; rfl
 rw [this];exact⟨b,c,a⟩
theorem rank_of {cs:List Nat} {z:Nat} (h1:z<cs.length) (h2:0<cs.getD z 0):∃r,r<(sorted cs).length/\sym (sorted cs) r=z:=by
 obtain⟨r,a,e⟩:=List.getElem_of_mem (mem_sorted.2 ⟨z,h1,h2,rfl⟩);refine⟨r,a,?_⟩;unfold sym;rw [List.getD_eq_getElem?_getD,List.getElem?_eq_getElem a];show symP (sorted cs)[r]=z;rw [e]; rfl
theorem count_all (cs:List Nat) (z k:Nat):((List.range k).map fun i=>if 0<cs.getD i 0 then [i].count z else 0).sum=if z<k/\0<cs.getD z 0 then 1 else 0:=by
 induction k with
 | zero=>simp
 | succ k ih =>
  rw [List.range_succ,List.map_append,List.sum_append,ih,List.map_cons,List.map_nil,List.sum_cons,List.sum_nil,List.count_singleton];have c:∀x:Nat,k≠z->(if 0<x then (if (k == z)=true then 1 else 0) else 0)+0=0:=fun x h=>by
   have b:(k == z)=false:=by rw [beq_eq_false_iff_ne]; exact h
   rw [b]; split <;> rfl
  rcases Nat.lt_trichotomy z k with h | h | h
  ·rw [c _ (by omega)];by_cases a:0<cs.getD z 0
   ·rw [if_pos ⟨h,a⟩,if_pos ⟨by omega,a⟩]
   ·rw [if_neg (fun q=>a q.2),if_neg (fun q=>a q.2)]
  ·subst h;have b:(z == z)=true:=by simp
   rw [b,if_pos rfl];by_cases a:0<cs.getD z 0
   ·rw [if_neg (fun q=>Nat.lt_irrefl _ q.1),if_pos a,if_pos ⟨by omega,a⟩]; omega
   ·rw [if_neg (fun q=>a q.2),if_neg a,if_neg (fun q=>a q.2)]; omega
  ·rw [c _ (by omega),if_neg (fun q=>by have:=q.1; omega),if_neg (fun q=>by have:=q.1; omega)]
theorem count_take (cs:List Nat) (r a:Nat) (hr:r<(sorted cs).length):wt (fun p=>p.2.count (sym (sorted cs) r)) ((sorted cs).take a)=if r<a then 1 else 0:=by
 obtain⟨z,c⟩:=exq (sym (sorted cs) r);have b:=at_sorted hr;rw [c] at b ⊢;have d:wt (fun p=>p.2.count z) (sorted cs)=1:=by
  rw [wt_sorted];show((List.range cs.length).map fun i=>if 0<cs.getD i 0 then [i].count z else 0).sum=1;rw [count_all,if_pos ⟨b.1,b.2.1⟩]
 have e:=wt_append (fun p=>p.2.count z) ((sorted cs).take a) ((sorted cs).drop a);rw [List.take_append_drop,d] at e;have g:(sorted cs)[r].2.count z=1:=by rw [b.2.2]; simp
 split
 ·rename_i h
  have f:(sorted cs)[r].2.count z<=wt (fun p=>p.2.count z) ((sorted cs).take a):=wt_mem (fun p=>p.2.count z) (l:=(sorted cs).take a) (p:=(sorted cs)[r]) (by
   refine List.mem_of_getElem? (i:=r) ?_;rw [List.getElem?_take_of_lt h,List.getElem?_eq_getElem hr])
  omega
 ·rename_i h
  have f:(sorted cs)[r].2.count z<=wt (fun p=>p.2.count z) ((sorted cs).drop a):=wt_mem (fun p=>p.2.count z) (l:=(sorted cs).drop a) (p:=(sorted cs)[r]) (by
   refine List.mem_of_getElem? (i:=r - a) ?_;rw [List.getElem?_drop,show a+(r - a)=r by omega,List.getElem?_eq_getElem hr])
  omega
def taken (cs:List Nat) (m:Nat):List Pk:=if (items cs).length<2 then items cs else (lst (sorted cs) (m - 1)).take (2 * (items cs).length - 2)
theorem flat_taken (cs:List Nat) (m:Nat):flat cs m=(taken cs m).flatMap Prod.snd:=by
 unfold flat taken;split <;> rfl
theorem lens_get (cs:List Nat) (m z:Nat) (hz:z<cs.length):(lens cs m).getD z 0=wt (fun p=>p.2.count z) (taken cs m):=by
 rw [<- count_flat,<- flat_taken];unfold lens;rw [List.getD_eq_getElem?_getD,List.getElem?_map,List.getElem?_range hz]; rfl
theorem shape (cs:List Nat) (m:Nat) (hm:1<=m) (hk:(items cs).length<=2 ^ m):∃us:List Nat,(∀a ∈ us,a<=(sorted cs).length)/\(∀r,r<(sorted cs).length->1<=ranks us r/\ranks us r<=m) /\
  (∀f:Pk->Nat,(∀a b,f (comb a b)=f a+f b)->wt f (taken cs m)=(us.map fun a=>wt f ((sorted cs).take a)).sum) /\
  (2<=(sorted cs).length->((List.range (sorted cs).length).map fun r=>2 ^ (m - ranks us r)).sum=2 ^ m)/\((sorted cs).length<2->∀r,r<(sorted cs).length->ranks us r=1):=by
 by_cases d:(items cs).length<2
 ·refine⟨[(sorted cs).length],fun a ha=>by rw [List.mem_singleton.1 ha]; exact Nat.le_refl _,fun r hr=>?_,fun f _=>?_,fun h=>by rw [len_sorted] at h; omega,fun _ r hr=>?_⟩
  ·have:ranks [(sorted cs).length] r=1:=by unfold ranks; rw [List.countP_cons_of_pos (by simpa using hr)]; rfl
   omega
  ·unfold taken;rw [if_pos d];simp only [List.map_cons,List.map_nil,List.sum_cons,List.sum_nil,List.take_length,Nat.add_zero];unfold sorted;rw [wt_isort]
  ·unfold ranks; rw [List.countP_cons_of_pos (by simpa using hr)]; rfl
 ·obtain⟨q,rfl⟩:∃q,m=q+1:=⟨m - 1,by omega⟩;have c:=lst_enough (sorted cs) (q+1) hm (by rw [len_sorted]; exact hk);rw [len_sorted] at c;obtain⟨us,j,k,e,g,l,_⟩:=cut (sorted cs) (isort_sorted cs) q (2 * (items cs).length - 2) c;rw [<- len_sorted] at g;have i:=kraft j k e (by rw [len_sorted]; omega) g;refine⟨us,e,fun r hr=>⟨i.2 r hr,?_⟩,fun f hf=>?_,fun _=>i.1,fun h=>by rw [len_sorted] at h; omega⟩
  ·have:=ranks_le us r; omega
  ·unfold taken;rw [if_neg d];exact l f hf
theorem sum_ite (us:List Nat) (r:Nat):(us.map fun a=>if r<a then 1 else 0).sum=ranks us r:=by
 induction us with
 | nil=>rfl
 | cons a us ih =>
  rw [List.map_cons,List.sum_cons,ih];unfold ranks;split
  ·rename_i h; rw [List.countP_cons_of_pos (by simpa using h)]; omega
  ·rename_i h; rw [List.countP_cons_of_neg (by simpa using h)]; omega
theorem lens_rank {cs:List Nat} {m:Nat} {us:List Nat} (h:∀f:Pk->Nat,(∀a b,f (comb a b)=f a+f b)->wt f (taken cs m)=(us.map fun a=>wt f ((sorted cs).take a)).sum) (r:Nat) (hr:r<(sorted cs).length):(lens cs m).getD (sym (sorted cs) r) 0=ranks us r:=by
 rw [lens_get _ _ _ (at_sorted hr).1,h _ (fun a b=>List.count_append ..),<- sum_ite];congr 1;exact List.map_congr_left fun a _=>count_take cs r a hr
theorem lens_none {cs:List Nat} {m:Nat} {us:List Nat} (h:∀f:Pk->Nat,(∀a b,f (comb a b)=f a+f b)->wt f (taken cs m)=(us.map fun a=>wt f ((sorted cs).take a)).sum) (z:Nat) (hz:cs.getD z 0=0):(lens cs m).getD z 0=0:=by
 rcases Nat.lt_or_ge z cs.length with h1 | h1
 ·rw [lens_get _ _ _ h1,h _ (fun a b=>List.count_append ..)];have c:wt (fun p=>p.2.count z) (sorted cs)=0:=by
   rw [wt_sorted];show((List.range cs.length).map fun i=>if 0<cs.getD i 0 then [i].count z else 0).sum=0;rw [count_all,if_neg (by omega)]
  have:(us.map fun a=>wt (fun p=>p.2.count z) ((sorted cs).take a))=us.map fun _=>0:=List.map_congr_left fun a _=>by
   have:=wt_take (fun p=>p.2.count z) (sorted cs) a;omega
  rw [this,sum_const,Nat.mul_zero]
 ·rw [List.getD_eq_getElem?_getD,List.getElem?_eq_none (by rw [lens_len]; exact h1)]; rfl
def unit (x:Nat):Nat:=if x≠0/\x<16 then 2 ^ (15 - x) else 0
theorem share_cons (x:Nat) (m:List Nat) (n:Nat):PH.share (x::m) n=PH.share m n+if x≠0/\x<n then 2 ^ (15 - x) else 0:=by
 induction n with
 | zero=>simp [PH.share]
 | succ n ih =>
  rw [PH.share,PH.share,ih];unfold PH.tal;rw [List.count_cons];by_cases b:n=0
  ·subst b;rw [if_pos rfl,if_pos rfl,if_neg (by omega),if_neg (by omega)]
  ·rw [if_neg b,if_neg b,Nat.add_mul];by_cases c:x=n
   ·subst c;rw [if_neg (by omega),if_pos (by simp),if_pos (by omega)]; omega
   ·have d:(x == n)=false:=by rw [beq_eq_false_iff_ne]; exact c
    have e:(if (x == n)=true then 1 else 0)=0:=by rw [d]; rfl
    rw [e];by_cases a:x≠0/\x<n
    ·rw [if_pos a,if_pos (by omega)]; omega
    ·rw [if_neg a,if_neg (by omega)]; omega
theorem sum_units (m:List Nat):PH.sum m=(m.map unit).sum:=by
 induction m with
 | nil=>decide
 | cons x m ih =>
  unfold PH.sum at ih ⊢;rw [share_cons,ih,List.map_cons,List.sum_cons];unfold unit;omega
theorem map_getD (m:List Nat):m=(List.range m.length).map fun i=>m.getD i 0:=by
 refine List.ext_getElem (by simp) fun i h1 h2=>?_;rw [List.getElem_map,List.getElem_range,List.getD_eq_getElem?_getD,List.getElem?_eq_getElem h1]; rfl
theorem units_of (cs ls:List Nat) (hl:ls.length=cs.length) (h0:∀z,z<cs.length->cs.getD z 0=0->ls.getD z 0=0):PH.sum ls=wt (fun p=>unit (ls.getD (symP p) 0)) (sorted cs):=by
 rw [sum_units,wt_sorted]
 conv=>lhs; rw [map_getD ls,List.map_map,hl]
 congr 1;refine List.map_congr_left fun z hz=>?_;have hz:=List.mem_range.1 hz;split
 ·rfl
 ·rename_i h
  show unit (ls.getD z 0)=0;rw [h0 z hz (by omega)]; rfl
theorem lens_sum (cs:List Nat) (m:Nat) (hm:1<=m) (h15:m<=15) (hk:(items cs).length<=2 ^ m):PH.sum (lens cs m)=if 2<=(items cs).length then 32768 else (items cs).length * 16384:=by
 obtain⟨a,n,d,e,h,i⟩:=shape cs m hm hk;rw [units_of cs _ (lens_len _ _) (fun z _=>lens_none e z),wt_range];have j:((List.range (sorted cs).length).map fun r=>unit ((lens cs m).getD (symP ((sorted cs).getD r pk0)) 0))=(List.range (sorted cs).length).map fun r=>2 ^ (15 - ranks a r):=List.map_congr_left fun r hr=>by
  have hr:=List.mem_range.1 hr;have g:=lens_rank e r hr;unfold sym at g;rw [g];have:=d r hr;unfold unit;rw [if_pos (by omega)]
 rw [j];split
 ·rename_i hge
  have b:((List.range (sorted cs).length).map fun r=>2 ^ (15 - ranks a r))=(List.range (sorted cs).length).map fun r=>2 ^ (15 - m) * 2 ^ (m - ranks a r):=List.map_congr_left fun r hr=>by
   have:=d r (List.mem_range.1 hr);rw [<- Nat.pow_add];congr 1;omega
  have k:∀(l:List Nat) (c:Nat) (f:Nat->Nat),(l.map fun r=>c * f r).sum=c * (l.map f).sum:=by
   intro l c f;induction l with
   | nil=>rfl
   | cons x l ih=>rw [List.map_cons,List.sum_cons,ih,List.map_cons,List.sum_cons,Nat.mul_add]
  rw [b,k,h (by rw [len_sorted]; exact hge),<- Nat.pow_add,show 15 - m+m=15 by omega]
 ·rename_i hlt
  have b:((List.range (sorted cs).length).map fun r=>2 ^ (15 - ranks a r))=(List.range (sorted cs).length).map fun _=>16384:=List.map_congr_left fun r hr=>by
   rw [i (by rw [len_sorted]; omega) r (List.mem_range.1 hr)]
  rw [b,sum_const,List.length_range,len_sorted]
theorem lens_in (cs:List Nat) (m z:Nat) (hm:1<=m) (hk:(items cs).length<=2 ^ m) (hz:z<cs.length):(0<cs.getD z 0->1<=(lens cs m).getD z 0)/\(cs.getD z 0=0->(lens cs m).getD z 0=0)/\(lens cs m).getD z 0<=m:=by
 obtain⟨f,g,d,a,i,j⟩:=shape cs m hm hk;rcases Nat.eq_zero_or_pos (cs.getD z 0) with h0 | h0
 ·have:=lens_none (m:=m) a z h0;exact⟨fun h=>by omega,fun _=>this,by omega⟩
 ·obtain⟨r,b,e⟩:=rank_of hz h0;have c:=lens_rank a r b;rw [e] at c;have:=d r b;rw [c];exact⟨fun _=>this.1,fun h=>by omega,this.2⟩
end PL
namespace PH
def bitsC (n c:Nat):List Bool:=(List.range n).map fun k=>c.testBit (n - 1 - k)
theorem bitsC_len (n c:Nat):(bitsC n c).length=n:=by simp [bitsC]
theorem bitsC_rev (n c:Nat):bitsC n c=(List.range n).map fun k=>(PBits.rev c n).testBit k:=by
 unfold bitsC;refine List.map_congr_left fun k hk=>?_;rw [PBits.rev_bit,decide_eq_true (List.mem_range.1 hk),Bool.true_and]
theorem code_lt (m:List Nat) (i p:Nat) (hi:i<m.length) (hp:m.getD i 0=p+1) (h15:p+1<=15) (hs:sum m<=32768):codeAt m i<2 ^ (p+1):=by
 have d:=(codeAt_lt m i (p+1) hi hp (by omega)).2;have a:=share_next m (p+1) (by omega) h15;have e:=share_mono m (p+1+1) 16 (by omega);unfold sum at hs;have b:(2:Nat) ^ (p+1) * 2 ^ (15 - (p+1))=32768:=by rw [<- Nat.pow_add,show p+1+(15 - (p+1))=15 by omega]
 have c:(fst m (p+1)+tal m (p+1)) * 2 ^ (15 - (p+1))<=2 ^ (p+1) * 2 ^ (15 - (p+1)):=by rw [a,b]; omega
 have f:=Nat.le_of_mul_le_mul_right c (Nat.two_pow_pos _);omega
def word (m:List Nat) (l:List Nat):List Bool:=l.flatMap fun s=>bitsC (m.getD s 0) (codeAt m s)
end PH
namespace PL
theorem lens_one (cs:List Nat) (m z:Nat) (hm:1<=m) (hk:(items cs).length<=2 ^ m) (h2:(items cs).length<2) (hz:z<cs.length):(lens cs m).getD z 0<=1:=by
 obtain⟨g,h,d,a,i,f⟩:=shape cs m hm hk;rcases Nat.eq_zero_or_pos (cs.getD z 0) with h0 | h0
 ·rw [lens_none (m:=m) a z h0]; omega
 ·obtain⟨r,b,e⟩:=rank_of hz h0;have c:=lens_rank a r b;rw [e] at c;rw [c,f (by rw [len_sorted]; exact h2) r b];omega
theorem tal_none {m:List Nat} (h:∀x ∈ m,x<=1) (n:Nat) (hn:2<=n):PH.tal m n=0:=by
 rw [PH.tal_pos m n (by omega)];refine List.count_eq_zero.2 fun hx=>?_;have:=h n hx;omega
theorem share_few {m:List Nat} (h:∀x ∈ m,x<=1) (d:Nat):PH.share m (d+2)=PH.tal m 1 * 16384:=by
 induction d with
 | zero=>exact PH.share_two m
 | succ d ih =>
  show PH.share m (d+2)+PH.tal m (d+2) * _=_;rw [ih,tal_none h (d+2) (by omega)]; omega
theorem rows_few {m:List Nat} (h:∀x ∈ m,x<=1) (d:Nat):(PH.rowsB m (d+1)).length=PH.tal m 1:=by
 induction d with
 | zero =>
  rw [PH.rowsB_tal];show 0+PH.tal m 1=PH.tal m 1;omega
 | succ d ih =>
  rw [PH.rowsB_tal,ih,tal_none h (d+1+1) (by omega)]; omega
theorem lens_book (cs:List Nat) (m:Nat) (hm:1<=m) (h15:m<=15) (hk:(items cs).length<=2 ^ m):mayBook (lens cs m)=true/\PH.sum (lens cs m)<=32768/\∃mo,mostOf (lens cs m)=((mo:Nat):Int)/\1<=mo/\mo<=15/\∀z,z<cs.length->(lens cs m).getD z 0<=mo:=by
 have c:=lens_sum cs m hm h15 hk;by_cases d:2<=(items cs).length
 ·rw [if_pos d] at c;have a:PH.state (lens cs m)=0:=by unfold PH.state; rw [c]; rfl
  refine⟨?_,by omega,15,?_,by omega,by omega,fun z hz=>Nat.le_trans (lens_in cs m z hm hk hz).2.2 h15⟩
  ·unfold mayBook; rw [a]; rfl
  ·unfold mostOf; rw [if_pos a]; rfl
 ·rw [if_neg d] at c;have b:∀x ∈ lens cs m,x<=1:=fun x hx=>by
   obtain⟨z,hz,rfl⟩:=List.getElem_of_mem hx;have:=lens_one cs m z hm hk (by omega) (by rw [lens_len] at hz; exact hz)
   rwa [List.getD_eq_getElem?_getD,List.getElem?_eq_getElem hz] at this
  have f:PH.sum (lens cs m)=PH.tal (lens cs m) 1 * 16384:=share_few b 14;have e:(PH.rows (lens cs m)).length=PH.tal (lens cs m) 1:=rows_few b 14;have a:PH.state (lens cs m) = -1:=by unfold PH.state; rw [if_pos (by omega)]
  refine⟨?_,by omega,1,?_,by omega,by omega,fun z hz=>lens_one cs m z hm hk (by omega) hz⟩
  ·unfold mayBook;rw [e];have:PH.tal (lens cs m) 1=0∨PH.tal (lens cs m) 1=1:=by omega
   rcases this with h | h <;> rw [h] <;> simp
  ·unfold mostOf; rw [if_neg (by rw [a]; decide)]; rfl
end PL
namespace PI
def At (B:List Bool) (a:Nat) (w:List Bool):Prop:=a+w.length<=B.length/\(B.drop a).take w.length=w
theorem At.left {B:List Bool} {a:Nat} {u v:List Bool} (h:At B a (u++v)):At B a u:=by
 obtain⟨c,b⟩:=h;rw [List.length_append] at c b;refine⟨by omega,?_⟩;have:=congrArg (List.take u.length) b;rw [List.take_take,Nat.min_eq_left (by omega),List.take_left] at this;exact this
theorem At.right {B:List Bool} {a:Nat} {u v:List Bool} (h:At B a (u++v)):At B (a+u.length) v:=by
 obtain⟨c,b⟩:=h;rw [List.length_append] at c b;refine⟨by omega,?_⟩;have:=congrArg (List.drop u.length) b;rw [List.drop_take,List.drop_drop,List.drop_left,show u.length+v.length - u.length=v.length by omega] at this;exact this
theorem At.mid (p w r:List Bool):At (p++w++r) p.length w:=by
 refine⟨by simp,?_⟩;rw [List.append_assoc,List.drop_left,List.take_left]
theorem At.le {B:List Bool} {a:Nat} {w:List Bool} (h:At B a w):a+w.length<=B.length:=h.1
theorem At.drop {B:List Bool} {a:Nat} {w:List Bool} (h:At B a w):B.drop a=w++B.drop (a+w.length):=by
 have:=List.take_append_drop w.length (B.drop a);rw [h.2,List.drop_drop] at this;exact this.symm
theorem number_at {B:List Bool} {a n k:Nat} (h:At B a (PBits.bitsOf n k)) (hn:n<2 ^ k):number B a k=.ok (a+k,n):=by
 obtain⟨b,c⟩:=h;rw [PBits.bitsOf_length] at b c;unfold number numAt;rw [if_pos b,c,PBits.num_bitsOf,Nat.mod_eq_of_lt hn]
def Has (m:List Nat) (s:Nat):Prop:=s<m.length/\1<=m.getD s 0/\m.getD s 0<=mostN m
def codeW (m:List Nat) (s:Nat):List Bool:=PH.bitsC (m.getD s 0) (PH.codeAt m s)
theorem codeW_len (m:List Nat) (s:Nat):(codeW m s).length=m.getD s 0:=PH.bitsC_len _ _
def sayW (m:List Nat) (s more bits:Nat):List Bool:=codeW m s++PBits.bitsOf more bits
/-! Tokens. -/
inductive Tok
 | lit (c:UInt8)
 | cpy (n back:Nat)
def findT (t:List (Nat × Nat)) (n:Nat):Nat->Nat
 | 0=>0
 | k+1=>if (t.getD (k+1) (0,0)).1<=n then k+1 else findT t n k
def longS (n:Nat):Nat × Nat × Nat:=if n=258 then (28,0,0) else (findT lengthsT n 27,(lengthsT.getD (findT lengthsT n 27) (0,0)).2,n - (lengthsT.getD (findT lengthsT n 27) (0,0)).1)
def farS (n:Nat):Nat × Nat × Nat:=(findT awayT n 29,(awayT.getD (findT awayT n 29) (0,0)).2,n - (awayT.getD (findT awayT n 29) (0,0)).1)
theorem findT_spec (t:List (Nat × Nat)) (n:Nat):∀k,(t.getD 0 (0,0)).1<=n->findT t n k<=k/\(t.getD (findT t n k) (0,0)).1<=n/\(findT t n k<k->n<(t.getD (findT t n k+1) (0,0)).1):=by
 intro k a;induction k with
 | zero=>exact⟨Nat.le_refl _,a,fun h=>by unfold findT at h; omega⟩
 | succ k ih =>
  unfold findT;split
  ·rename_i h; exact⟨Nat.le_refl _,h,fun h=>by omega⟩
  ·rename_i h
   obtain⟨d,b,c⟩:=ih;refine⟨by omega,b,fun _=>?_⟩;by_cases e:findT t n k<k
   ·exact c e
   ·rw [show findT t n k=k by omega]; omega
def stepsT (t:List (Nat × Nat)):Prop:=∀k,k+1<t.length->(t.getD (k+1) (0,0)).1=(t.getD k (0,0)).1+2 ^ (t.getD k (0,0)).2
theorem lengths_steps:stepsT lengthsT:=by
 intro k a;have:∀k,k<27->(lengthsT.getD (k+1) (0,0)).1=(lengthsT.getD k (0,0)).1+2 ^ (lengthsT.getD k (0,0)).2:=by decide +kernel
 exact this k (by simp [lengthsT] at a; omega)
theorem away_steps:stepsT awayT:=by
 intro k a;have:∀k,k<29->(awayT.getD (k+1) (0,0)).1=(awayT.getD k (0,0)).1+2 ^ (awayT.getD k (0,0)).2:=by decide +kernel
 exact this k (by simp [awayT] at a; omega)
theorem longS_lt (n:Nat) (h1:3<=n) (h2:n<=258):(longS n).1<=28/\(longS n).2.2<2 ^ (longS n).2.1/\(longS n).2.1<=5:=by
 unfold longS;split
 ·exact⟨Nat.le_refl _,by decide,by decide⟩
 ·rename_i h
  obtain⟨b,c,a⟩:=findT_spec lengthsT n 27 h1;refine⟨by show findT _ _ _<=28; omega,?_,?_⟩
  ·show n - (lengthsT.getD (findT lengthsT n 27) (0,0)).1<2 ^ (lengthsT.getD (findT lengthsT n 27) (0,0)).2;by_cases e:findT lengthsT n 27<27
   ·have d:=lengths_steps (findT lengthsT n 27) (by show _<28; omega);have f:=a e;omega
   ·rw [show findT lengthsT n 27=27 by omega];show n - 227<32;omega
  ·have:∀k,k<28->(lengthsT.getD k (0,0)).2<=5:=by decide +kernel
   exact this _ (by omega)
theorem farS_lt (n:Nat) (h1:1<=n) (h2:n<=32768):(farS n).1<=29/\(farS n).2.2<2 ^ (farS n).2.1/\(farS n).2.1<=13:=by
 unfold farS;obtain⟨a,c,b⟩:=findT_spec awayT n 29 h1;refine⟨a,?_,?_⟩
 ·show n - (awayT.getD (findT awayT n 29) (0,0)).1<2 ^ (awayT.getD (findT awayT n 29) (0,0)).2;by_cases e:findT awayT n 29<29
  ·have d:=away_steps (findT awayT n 29) (by show _<30; omega);have f:=b e;omega
  ·rw [show findT awayT n 29=29 by omega];show n - 24577<8192;omega
 ·have:∀k,k<30->(awayT.getD k (0,0)).2<=13:=by decide +kernel
  exact this _ (by omega)
theorem far_at {B:List Bool} {a n:Nat} (h:At B a (PBits.bitsOf (farS n).2.2 (farS n).2.1)) (h1:1<=n) (h2:n<=32768):count B awayT (farS n).1 a=.ok (a+(farS n).2.1,n):=by
 have g:=farS_lt n h1 h2;obtain⟨c,d,e⟩:=findT_spec awayT n 29 h1;have b:=number_at h g.2.1;unfold count;rw [if_pos (by show _<30; omega),show(awayT.getD (farS n).1 (0,0)).2=(farS n).2.1 from rfl,b];show Except.ok (_,_)=_;congr 2;show(awayT.getD (findT awayT n 29) (0,0)).1+(n - (awayT.getD (findT awayT n 29) (0,0)).1)=n;omega
def tokW (m d:List Nat):Tok->List Bool
 | .lit c=>codeW m c.toNat
 | .cpy n back=>sayW m (257+(longS n).1) (longS n).2.2 (longS n).2.1++sayW d (farS back).1 (farS back).2.2 (farS back).2.1
def toksW (m d:List Nat) (l:List Tok):List Bool:=l.flatMap (tokW m d)++codeW m 256
def tokO (out:List UInt8):Tok->List UInt8
 | .lit c=>out++[c]
 | .cpy n back=>copy back n out
def TokOk (m d:List Nat) (out:List UInt8):Tok->Prop
 | .lit c=>Has m c.toNat
 | .cpy n back=>3<=n/\n<=258/\1<=back/\back<=32768/\back<=out.length/\Has m (257+(longS n).1)/\Has d (farS back).1
def ToksOk (m d:List Nat):List UInt8->List Tok->Prop
 | _,[]=>Has m 256
 | out,t::l=>TokOk m d out t/\ToksOk m d (tokO out t) l
/-! The lengths, told. -/
def tellB (s:Nat):Nat:=if s=16 then 2 else if s=17 then 3 else if s=18 then 7 else 0
def tellO (acc:List Nat) (t:Nat × Nat):List Nat :=
 if t.1=16 then acc++List.replicate (3+t.2) (acc.getD (acc.length - 1) 0) else if t.1=17 then acc++List.replicate (3+t.2) 0 else if t.1=18 then acc++List.replicate (11+t.2) 0 else acc++List.replicate 1 t.1
def tellsO (acc:List Nat) (l:List (Nat × Nat)):List Nat:=l.foldl tellO acc
def tellW (m:List Nat) (t:Nat × Nat):List Bool:=sayW m t.1 t.2 (tellB t.1)
def tellsW (m:List Nat) (l:List (Nat × Nat)):List Bool:=l.flatMap (tellW m)
def TellsOk (m:List Nat):List Nat->List (Nat × Nat)->Prop
 | _,[]=>True
 | acc,t::l=>(Has m t.1/\t.2<2 ^ tellB t.1/\(t.1=16->acc≠[]))/\TellsOk m (tellO acc t) l
theorem PH.nat_cast (m:List Nat):PH.nat (castI m)=m:=by
 unfold PH.nat castI;rw [List.map_map];exact(List.map_congr_left fun n _=>by simp).trans (List.map_id m)
theorem PH.may_cast {m:List Nat} (h:m.length<=1024) (h15:∀x ∈ m,x<=15):PH.may (castI m)=true:=by
 unfold PH.may castI;simp only [Bool.and_eq_true,decide_eq_true_eq,Bool.not_eq_true',List.any_eq_false];refine⟨by simpa using h,fun x hx=>?_⟩;obtain⟨n,a,rfl⟩:=List.mem_map.1 hx;have:=h15 n a;unfold PH.bad;simp only [decide_eq_true_eq];omega
/-! The head of a dynamic block. -/
def firstsW (first:List Nat) (c:List Nat):List Bool:=c.flatMap fun s=>PBits.bitsOf (first.getD s 0) 3
def headW (first:List Nat) (c l d:Nat) (rows:List (Nat × Nat)):List Bool :=
 PBits.bitsOf (l - 257) 5++(PBits.bitsOf (d - 1) 5++(PBits.bitsOf (c - 4) 4++(firstsW first (orderT.take c)++tellsW first rows)))
theorem book_sum {m:List Nat} (h:book m=true):PH.sum m<=32768:=by
 unfold book PH.okB at h;simp only [Bool.and_eq_true] at h;rw [PI.PH.nat_cast] at h;exact PH.mayBook_sum m h.2
/-! Blocks. -/
theorem fixed_has (s:Nat) (h:s<288):Has fixedL s:=by
 have:∀s,s<288->(s<fixedL.length/\1<=fixedL.getD s 0/\fixedL.getD s 0<=mostN fixedL):=by decide +kernel
 exact this s h
theorem fixed_hasD (s:Nat) (h:s<32):Has fixedD s:=by
 have:∀s,s<32->(s<fixedD.length/\1<=fixedD.getD s 0/\fixedD.getD s 0<=mostN fixedD):=by decide +kernel
 exact this s h
theorem fixed_sum:PH.sum fixedL<=32768:=by decide +kernel
theorem fixed_sumD:PH.sum fixedD<=32768:=by decide +kernel
def storedW (l:List UInt8):List Bool:=PBits.bitsOf l.length 16++(PBits.bitsOf (65535 - l.length) 16++PBits.ofB l)
end PI
namespace PI
def cnts (n:Nat) (l:List Nat):List Nat:=(List.range n).map fun i=>l.count i
theorem cnts_len (n:Nat) (l:List Nat):(cnts n l).length=n:=by simp [cnts]
theorem cnts_get (n i:Nat) (l:List Nat) (h:i<n):(cnts n l).getD i 0=l.count i:=by simp [cnts,List.getD_eq_getElem?_getD,h]
theorem items_le (cs:List Nat):(PL.items cs).length<=cs.length:=PL.itemsTo_len cs cs.length
theorem lens_fits (n m:Nat) (l:List Nat) (h1:1<=m) (h15:m<=15) (hn:n<=2 ^ m) (hn2:n<=1024) :
  book (PL.lens (cnts n l) m)=true/\(PL.lens (cnts n l) m).length=n/\(∀x ∈ PL.lens (cnts n l) m,x<=m)/\(∀s ∈ l,s<n->Has (PL.lens (cnts n l) m) s)/\∀s,s ∉ l->(PL.lens (cnts n l) m).getD s 0=0:=by
 have d:(PL.items (cnts n l)).length<=2 ^ m:=Nat.le_trans (items_le _) (by rw [cnts_len]; exact hn);obtain⟨f,k,o,g,p,q,h⟩:=PL.lens_book (cnts n l) m h1 h15 d;have a:(PL.lens (cnts n l) m).length=n:=by rw [PL.lens_len,cnts_len]
 have b:∀x ∈ PL.lens (cnts n l) m,x<=m:=fun x hx=>by
  obtain⟨i,e,rfl⟩:=List.getElem_of_mem hx;have:=(PL.lens_in (cnts n l) m i h1 d (by rw [cnts_len,<- a]; exact e)).2.2
  rwa [List.getD_eq_getElem?_getD,List.getElem?_eq_getElem e] at this
 refine⟨?_,a,b,fun s hs hsn=>?_,fun s hs=>?_⟩
 ·unfold book PH.okB;rw [PI.PH.nat_cast,f,Bool.and_true];exact PI.PH.may_cast (by rw [a]; exact hn2) (fun x hx=>Nat.le_trans (b x hx) h15)
 ·have c:=PL.lens_in (cnts n l) m s h1 d (by rw [cnts_len]; exact hsn);rw [cnts_get n s l hsn] at c;have r:=h s (by rw [cnts_len]; exact hsn);have j:=mostN_of (PL.lens (cnts n l) m);refine⟨by rw [a]; exact hsn,c.1 (List.count_pos_iff.2 hs),?_⟩;rw [g] at j;omega
 ·by_cases hsn:s<n
  ·have c:=PL.lens_in (cnts n l) m s h1 d (by rw [cnts_len]; exact hsn);rw [cnts_get n s l hsn] at c;exact c.2.1 (List.count_eq_zero.2 hs)
  ·rw [List.getD_eq_getElem?_getD,List.getElem?_eq_none (by omega)]; rfl
def symsOf:List Tok->List Nat
 | []=>[256]
 | .lit c::l=>c.toNat::symsOf l
 | .cpy n _::l=>(257+(longS n).1)::symsOf l
def farsOf:List Tok->List Nat
 | []=>[]
 | .lit _::l=>farsOf l
 | .cpy _ b::l=>(farS b).1::farsOf l
def Good:List UInt8->List Tok->Prop
 | _,[]=>True
 | out,.lit c::l=>Good (out++[c]) l
 | out,.cpy n b::l=>(3<=n/\n<=258/\1<=b/\b<=32768/\b<=out.length)/\Good (copy b n out) l
theorem Good.has {m d:List Nat} : ∀(l:List Tok) (out:List UInt8),Good out l->(∀s ∈ symsOf l,s<286->Has m s)->(∀s ∈ farsOf l,s<30->Has d s)->ToksOk m d out l:=by
 intro l;induction l with
 | nil=>intro out h a e; exact a 256 (by simp [symsOf]) (by decide)
 | cons t l ih =>
  intro out h a e;cases t with
  | lit c =>
   have p:=c.toNat_lt;exact⟨a c.toNat (by simp [symsOf]) (by omega),ih _ h (fun s hs=>a s (by simp [symsOf,hs])) (fun s hs=>e s (by simpa [farsOf] using hs))⟩
  | cpy n b =>
   obtain⟨⟨f,g,i,j,k⟩,o⟩:=h;have q:=longS_lt n f g;have r:=farS_lt b i j;exact⟨⟨f,g,i,j,k,a _ (by simp [symsOf]) (by omega),e _ (by simp [farsOf]) (by omega)⟩,ih _ o (fun s hs=>a s (by simp [symsOf,hs])) (fun s hs=>e s (by simp [farsOf,hs]))⟩
/-! A row of lengths, told as the law tells it. -/
def runL (x:Nat):List Nat->Nat
 | []=>0
 | y::l=>if y=x then runL x l+1 else 0
theorem runL_le (x:Nat) (l:List Nat):runL x l<=l.length:=by
 induction l with
 | nil=>exact Nat.le_refl _
 | cons y l ih=>unfold runL; split <;> simp <;> omega
theorem runL_take (x:Nat):∀(l:List Nat) (k:Nat),k<=runL x l->l.take k=List.replicate k x:=by
 intro l;induction l with
 | nil =>
  intro k h;obtain rfl:k=0:=by simpa [runL] using h
  rfl
 | cons y l ih =>
  intro k h;cases k with
  | zero=>rfl
  | succ k =>
   unfold runL at h;split at h
   ·rename_i e
    rw [List.take_succ_cons,ih k (by omega),e]; rfl
   ·omega
theorem tellB_small (x:Nat) (h:x<=15):tellB x=0:=by
 unfold tellB;rw [if_neg (by omega),if_neg (by omega),if_neg (by omega)]
theorem tellO_lit (acc:List Nat) (x y:Nat) (h:x<=15):tellO acc (x,y)=acc++[x]:=by
 unfold tellO;simp only;rw [if_neg (by omega),if_neg (by omega),if_neg (by omega)];rfl
/-! Parts. -/
structure WPart where
 kind:Nat
 bytes:List UInt8
 copies:List (Nat × Nat)
def cps:List (Nat × Nat)->List UInt8->List Tok
 | [],_=>[]
 | c::r,out=>if out.length=0 then [] else .cpy (3+c.1 % 256) (1+c.2 % min out.length 32768)::cps r (copy (1+c.2 % min out.length 32768) (3+c.1 % 256) out)
def lits (l:List UInt8):List Tok:=l.map Tok.lit
def toks (x:WPart) (out:List UInt8):List Tok:=lits (x.bytes.take 80)++cps (x.copies.take 6) (out++x.bytes.take 80)
def lensA (ts:List Tok):List Nat:=PL.lens (cnts 286 (symsOf ts)) 15
def lensB (ts:List Tok):List Nat:=PL.lens (cnts 30 (farsOf ts)) 15
def firstOf (rows:List (Nat × Nat)):List Nat:=PL.lens (cnts 19 (rows.map Prod.fst)) 7
def packB (l:List Bool):List UInt8:=PBits.bytesOf (PBits.num l) ((l.length+7) / 8)
theorem packB_len (l:List Bool):(packB l).length=(l.length+7) / 8:=PBits.bytesOf_length _ _
end PI
open Go.RowKit Go.MapKept
abbrev Three:=UInt8 × UInt8 × UInt8
def key3 (k:Three):Value:=.agg #[.int .u8 k.1.toNat,.int .u8 k.2.1.toNat,.int .u8 k.2.2.toNat]
theorem keyed3:Maps.Keyed Tryz.prog 206 :=
 Maps.Keyed.of_law (deep_law_laid (m:=2) (by kernel_rfl) (by decide) (by decide +kernel) (by kernel_rfl) (by kernel_rfl))
theorem wf8 (a:UInt8):(Lit.int .u8 a.toNat).wf=true:=by
 have:=a.toNat_lt;have b:IntKind.u8.min=0:=rfl;have c:IntKind.u8.max=255:=rfl;simp only [Lit.wf,b,c,Bool.and_eq_true,decide_eq_true_eq];omega
theorem key3_of (k:Three):∃l,keyOf Tryz.prog 206 (key3 k)=some l:=by
 have h1:Tryz.prog.underlying 206=some (.array 3 5):=by kernel_rfl
 have h2:Tryz.prog.keyType 206=true:=by kernel_rfl
 have h4:Tryz.prog.underlying 5=some (.int .u8):=by kernel_rfl
 have h5:Tryz.prog.cellsOf 206=3:=by kernel_rfl
 have h6:Tryz.prog.cellsOf 5=1:=by kernel_rfl
 have h3:(key3 k).formed Tryz.prog 206=true:=by
  simp [key3,Value.formed,h1,h5]
 obtain⟨n,hn⟩:∃n,Tryz.prog.types.size=n+1:=⟨Tryz.prog.types.size - 1,by
  have:0<Tryz.prog.types.size:=by decide +kernel
  omega⟩
 unfold keyOf
 rw [h1]
 simp only [h2,h3,Bool.and_self,if_true,hn]
 have h7:Tryz.prog.keyLits (n+1+1) 206 (key3 k).cells.toList=some [.int .u8 (k.1.toNat:Int),.int .u8 (k.2.1.toNat:Int),.int .u8 (k.2.2.toNat:Int)]:=by
  simp [Program.keyLits,h1,h4,h5,h6,key3,Value.cells,List.range_succ,wf8]
 rw [h7]
 exact⟨_,rfl⟩
structure MapOk (es:Array MapEntry) (clock:Nat):Prop where
 st:Stamped es clock
 ks:∀e ∈ es.toList,∃k,e.key=key3 k
theorem MapOk.empty:MapOk #[] 0:=⟨stamped_empty 0,by simp⟩
theorem MapOk.push {es:Array MapEntry} {clock:Nat} (h:MapOk es clock) {k:Three} (v:Value) (hk:∀e ∈ es.toList,e.key≠key3 k):MapOk (es.push ⟨key3 k,v,clock⟩) (clock+1) :=
 ⟨stamped_push h.st hk,fun e he=>by
  simp only [Array.toList_push,List.mem_append,List.mem_singleton] at he;rcases he with he | rfl
  ·exact h.ks e he
  ·exact⟨k,rfl⟩⟩
theorem MapOk.modify {es:Array MapEntry} {clock:Nat} (h:MapOk es clock) (j:Nat) (v:Value):MapOk (es.modify j fun e=>{ e with val:=v }) clock :=
 ⟨stamped_modify h.st _ _ (fun _ _=>rfl) (fun _ _ _=>rfl),fun e he=>by
  obtain⟨i,hi,rfl⟩:=List.getElem_of_mem he
  have hi2:i<es.toList.length:=by simpa using hi
  obtain⟨k,hk⟩:=h.ks es.toList[i] (List.getElem_mem hi2)
  refine⟨k,?_⟩
  rw [<- hk]
  simp only [Array.toList_modify]
  rw [List.getElem_modify]
  split <;> rfl⟩
section
variable {w:World} {b:Nat} {es:Array MapEntry} {clock:Nat} {k:Three}
theorem MapOk.find (h:MapOk es clock) (w:World) (k:Three) :
  ((Instr.findKey 206 (key3 k) es.toList).run Tryz.prog w=.ok none w/\∀e ∈ es.toList,e.key≠key3 k) ∨
   ∃j e,(Instr.findKey 206 (key3 k) es.toList).run Tryz.prog w=.ok (some (j,e.val)) w/\es.toList[j]?=some e/\e.key=key3 k:=by
 obtain⟨l,b⟩:=key3_of k;exact keyed3.find w b es.toList fun e he=>by
  obtain⟨c,a⟩:=h.ks e he;rw [a];exact key3_of c
theorem MapOk.find_none (h:MapOk es clock) (w:World) (hk:∀e ∈ es.toList,e.key≠key3 k):(Instr.findKey 206 (key3 k) es.toList).run Tryz.prog w=.ok none w:=by
 rcases h.find w k with ⟨h1,_⟩ | ⟨j,e,_,h2,h3⟩
 ·exact h1
 ·exact absurd h3 (hk e (List.mem_of_getElem? h2))
theorem MapOk.find_some (h:MapOk es clock) (w:World) {j:Nat} {e:MapEntry} (hj:es.toList[j]?=some e) (hk:e.key=key3 k):(Instr.findKey 206 (key3 k) es.toList).run Tryz.prog w=.ok (some (j,e.val)) w:=by
 rcases h.find w k with ⟨_,h1⟩ | ⟨i,e',h1,h2,h3⟩
 ·exact absurd hk (h1 e (List.mem_of_getElem? hj))
 ·have d:=((stamped_iff es clock).1 h.st).2.2;have c:i=j:=by
   obtain⟨f,g⟩:=List.getElem?_eq_some_iff.1 h2;obtain⟨a,b⟩:=List.getElem?_eq_some_iff.1 hj;rcases Nat.lt_trichotomy i j with hlt | hlt | hlt
   ·exact absurd (by rw [g,b,h3,hk]) (List.pairwise_iff_getElem.1 d i j f a hlt)
   ·exact hlt
   ·exact absurd (by rw [g,b,h3,hk]) (List.pairwise_iff_getElem.1 d j i a f hlt)
  subst c;rw [hj] at h2;cases h2
  exact h1
theorem Wn:Tryz.prog.underlying 201=some (.map 206 97):=by kernel_rfl
theorem Vw (h:MapOk es clock) (hb:w.heap[b]?=some (.map es clock)) (hk:∀e ∈ es.toList,e.key≠key3 k) :
  (Instr.mapEntry 201 (.map (some b)) (key3 k)).run Tryz.prog w=.ok (.tuple #[.slice none 0 0,.int .i64 clock]) { w with heap:=w.heap.setIfInBounds b (.map (es.push ⟨key3 k,.slice none 0 0,clock⟩) (clock+1)) }:=by
 obtain⟨l,a⟩:=key3_of k;simp [Instr.mapEntry,run_underlying Wn,MapKept.run_getObj_map hb,keyed3.check w false a,h.find_none w hk,MapKept.run_setObj_map _ hb,Result.andThen,goInt]
theorem Vx (h:MapOk es clock) (v:Value) (hb:w.heap[b]?=some (.map (es.push ⟨key3 k,.slice none 0 0,clock⟩) (clock+1))) (hk:∀e ∈ es.toList,e.key≠key3 k) :
  (Instr.entryStore 201 (.map (some b)) (.int .i64 clock) v).run Tryz.prog w=.ok () { w with heap:=w.heap.setIfInBounds b (.map (es.push ⟨key3 k,v,clock⟩) (clock+1)) }:=by
 have d:=(h.push (.slice none 0 0) hk).st;have a:(es.push ⟨key3 k,.slice none 0 0,clock⟩).findIdx? (fun e=>((e.born:Nat):Int) == ((clock:Nat):Int))=some es.size:=by
  rw [WideElems.findIdx_arr];exact WideElems.findIdx_born (l:=(es.push ⟨key3 k,.slice none 0 0,clock⟩).toList) (j:=es.size) (e0:=⟨key3 k,.slice none 0 0,clock⟩) d.2.1 (by simp)
 have c:(es.push ⟨key3 k,.slice none 0 0,clock⟩).modify es.size (fun e=>{ e with val:=v })=es.push ⟨key3 k,v,clock⟩:=by
  apply Array.ext';rw [Array.toList_modify,Array.toList_push,Array.toList_push,<- Array.length_toList,WideElems.modify_last]
 simp [Instr.entryStore,MapKept.run_getObj_map hb,asInt,asIntOf,a,c,MapKept.run_setObj_map _ hb,Result.andThen]
theorem Vy (h:MapOk es clock) (hb:w.heap[b]?=some (.map es clock)) {j:Nat} {e:MapEntry} (hj:es.toList[j]?=some e) (hk:e.key=key3 k) :
  (Instr.mapEntry 201 (.map (some b)) (key3 k)).run Tryz.prog w=.ok (.tuple #[e.val,.int .i64 e.born]) { w with heap:=w.heap.setIfInBounds b (.map es clock) }:=by
 obtain⟨l,d⟩:=key3_of k;have c:es[j]?=some e:=by simpa using hj
 have a:es.modify j (fun e=>{ e with key:=key3 k })=es:=by
  apply Array.ext';rw [Array.toList_modify,ChangeMaps.modify_eq_set _ _ _ _ hj];have:({ e with key:=key3 k } : MapEntry)=e:=by rw [<- hk]
  rw [this];exact WideElems.set_self _ _ _ hj
 simp [Instr.mapEntry,run_underlying Wn,MapKept.run_getObj_map hb,keyed3.check w false d,h.find_some w hj hk,c,hk,keyed3.stays w d,a,MapKept.run_setObj_map _ hb,Result.andThen,goInt]
theorem Vz (h:MapOk es clock) (v:Value) (hb:w.heap[b]?=some (.map es clock)) {j:Nat} {e:MapEntry} (hj:es.toList[j]?=some e) :
  (Instr.entryStore 201 (.map (some b)) (.int .i64 e.born) v).run Tryz.prog w=.ok () { w with heap:=w.heap.setIfInBounds b (.map (es.modify j fun e=>{ e with val:=v }) clock) }:=by
 have a:es.findIdx? (fun x=>((x.born:Nat):Int) == ((e.born:Nat):Int))=some j:=by
  rw [WideElems.findIdx_arr];exact WideElems.findIdx_born h.st.2.1 hj
 simp [Instr.entryStore,MapKept.run_getObj_map hb,asInt,asIntOf,a,MapKept.run_setObj_map _ hb,Result.andThen]
theorem Ur (h:MapOk es clock) (hb:w.heap[b]?=some (.map es clock)) (hk:∀e ∈ es.toList,e.key≠key3 k) :
  (Instr.lookup 201 (.map (some b)) (key3 k) false).run Tryz.prog w=.ok (.slice none 0 0) w:=by
 obtain⟨l,a⟩:=key3_of k;simp [Instr.lookup,run_underlying Wn,MapKept.run_getObj_map hb,keyed3.check w _ a,h.find_none w hk,Result.andThen]
theorem Us (h:MapOk es clock) (hb:w.heap[b]?=some (.map es clock)) {j:Nat} {e:MapEntry} (hj:es.toList[j]?=some e) (hk:e.key=key3 k) :
  (Instr.lookup 201 (.map (some b)) (key3 k) false).run Tryz.prog w=.ok e.val w:=by
 obtain⟨l,a⟩:=key3_of k;simp [Instr.lookup,run_underlying Wn,MapKept.run_getObj_map hb,keyed3.check w _ a,h.find_some w hj hk,Result.andThen]
end
end Go.Proofs.YteajimobgkempaaGreatDoor

