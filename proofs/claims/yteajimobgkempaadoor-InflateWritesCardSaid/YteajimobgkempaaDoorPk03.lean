/- A pack. -/
import Derived.Lib.LazyBuf
import Derived.Lib.MakeNoZero
import Derived.Lib.SlBuf
import Derived.Shelf.Bits.Mul64
import Derived.StillTailTactics
import Derived.Test.YteajimobgkempaaDoorProg
import Derived.Test.YteajimobgkempaaDoorPk02
set_option linter.all false
set_option maxRecDepth 100000
set_option maxHeartbeats 8000000
namespace Go.Proofs.YteajimobgkempaaDoor
variable {w0 w:World} {L:List Pr}
open Go.RowKit
section
variable {P:Program} {Q:Exit->Act->World->Prop}
def Sc (vals:List (Option Value)) (Sx:Nat->Value->Prop) (i:Nat) (v:Value):Prop:=match vals.getD i none with
 | some u=>v=u
 | none=>Sx i v
def FactsE (A:Act) (ds:List (Option Tmp)) (ac:List (List Nat)) (i:Nat):List (Nat × Value)->Prop->Prop
 | [],p=>p
 | (t,v)::r,p=>match freeAt4 ds ac i t with
  | true=>A.tmps[t]?.getD undef=v/\FactsE A ds ac i r p
  | false=>FactsE A ds ac i r p
def FactsA (A:Act) (an:List Nat):List (Option Tmp)->List (Option Value)->Nat->Prop
 | some t::ds,some v::vs,k=>match an.contains k with
  | true=>A.tmps[t]?.getD undef=v/\FactsA A an ds vs (k+1)
  | false=>FactsA A an ds vs (k+1)
 | none::ds,_::vs,k=>FactsA A an ds vs (k+1)
 | some _::ds,none::vs,k=>FactsA A an ds vs (k+1)
 | _,_,_=>True
theorem Yf {A:Act} {ds:List (Option Tmp)} {ac:List (List Nat)} {i:Nat} : ∀(env:List (Nat × Value)) (p:Prop),p ->
  (∀q,q ∈ env->freeAt4 ds ac i q.1=true->A.tmps[q.1]?.getD undef=q.2)->FactsE A ds ac i env p
 | [],p,hp,_=>hp
 | (t,v)::r,p,hp,h=>by
  unfold FactsE;split
  ·rename_i hf
   exact⟨h (t,v) (List.mem_cons_self ..) hf,Yf r p hp fun q hq=>h q (List.mem_cons_of_mem _ hq)⟩
  ·exact Yf r p hp fun q hq=>h q (List.mem_cons_of_mem _ hq)
theorem ZE {A:Act} {an:List Nat} : ∀(ds:List (Option Tmp)) (vs:List (Option Value)) (k:Nat),
  (∀j t v,j ∈ an->k<=j->ds[j - k]?=some (some t)->vs[j - k]?=some (some v)->A.tmps[t]?.getD undef=v)->FactsA A an ds vs k
 | [],vs,k,_=>by unfold FactsA; trivial
 | none::ds,[],k,_=>by unfold FactsA; trivial
 | some t::ds,[],k,_=>by unfold FactsA; trivial
 | none::ds,v::vs,k,h=>by
  unfold FactsA;exact ZE ds vs (k+1) fun j t u hj hk h1 h2=>h j t u hj (by omega) (by rw [show j - k=(j - (k+1))+1 by omega]; simpa using h1) (by rw [show j - k=(j - (k+1))+1 by omega]; simpa using h2)
 | some t::ds,none::vs,k,h=>by
  unfold FactsA;exact ZE ds vs (k+1) fun j t u hj hk h1 h2=>h j t u hj (by omega) (by rw [show j - k=(j - (k+1))+1 by omega]; simpa using h1) (by rw [show j - k=(j - (k+1))+1 by omega]; simpa using h2)
 | some t::ds,some v::vs,k,h=>by
  have a:FactsA A an ds vs (k+1):=ZE ds vs (k+1) fun j t u hj hk h1 h2=>h j t u hj (by omega) (by rw [show j - k=(j - (k+1))+1 by omega]; simpa using h1) (by rw [show j - k=(j - (k+1))+1 by omega]; simpa using h2);unfold FactsA;split
  ·rename_i hf
   exact⟨h k t v (by simpa using hf) (Nat.le_refl _) (by simp) (by simp),a⟩
  ·exact a
theorem factsE_get {A:Act} {ds:List (Option Tmp)} {ac:List (List Nat)} {i:Nat} : ∀ {env:List (Nat × Value)} {p:Prop},FactsE A ds ac i env p->∀q,q ∈ env->freeAt4 ds ac i q.1=true->A.tmps[q.1]?.getD undef=q.2
 | [],p,_,q,hq,_=>by cases hq
 | (t,v)::r,p,h,q,hq,hf=>by
  unfold FactsE at h;rcases List.mem_cons.1 hq with rfl | hq
  ·rw [hf] at h; exact h.1
  ·split at h
   ·exact factsE_get h.2 q hq hf
   ·exact factsE_get h q hq hf
def StepsSc (P:Program) (Q:Exit->Act->World->Prop) (vals:List (Option Value)) (Sx:Nat->Value->Prop) (R:Nat->Value->List Pr) (I:Nat->List Pr) (ds:List (Option Tmp)) (ac:List (List Nat)) (env:List (Nat × Value)) (w0:World) (L:List Pr):Nat->List Oper->List (List Nat)->List (List Nat)->List (List Nat)->Prop
 | i,o::os,an::ans,us::uss,se::ses=>(∀(x:Nat->Value) (w:World) (A:Act) (rest:List Pr),
   A.defers=[]->FactsE A ds ac i env (FactsA A an ds vals 0)->(∀j,j ∈ an->Sc vals Sx j (x j)/\∀t,ds.getD j none=some t->A.tmps[t]?.getD undef=x j)->(∀φ,Ent L φ->Ent rest φ) ->
   Sp w0 (I i++(us.flatMap (fun j=>R j (x j))++(se.flatMap I++rest))) w ->
   ∀K:Act->World->Prop,(∀v w',Sc vals Sx i v->Sp w0 (R i v++(se.flatMap I++rest)) w'->K (A.put o.dst v) w') ->
   StepOb P Q o x A w K)/\StepsSc P Q vals Sx R I ds ac env w0 L (i+1) os ans uss ses
 | _,[],[],[],[]=>True
 | _,_,_,_,_=>False
theorem Yv {vals:List (Option Value)} {Sx:Nat->Value->Prop} {R:Nat->Value->List Pr} {I:Nat->List Pr} {ds:List (Option Tmp)} {ac:List (List Nat)} {env:List (Nat × Value)} {w0:World} :
  ∀(i:Nat) (os:List Oper) (ans uss ses:List (List Nat)),StepsSc P Q vals Sx R I ds ac env w0 L i os ans uss ses->StepsSr P Q (Sc vals Sx) R I ds ac env w0 L i os ans uss ses
 | i,[],[],[],[],h=>trivial
 | i,o::os,an::ans,us::uss,se::ses,h=>by
  refine⟨fun x w A rest hd hN hS hE H K hK=>h.1 x w A rest hd ?_ hS hE H K hK,Yv (i+1) os ans uss ses h.2⟩;refine Yf env _ (ZE ds vals 0 fun j t v hj _ h1 h2=>?_) hN;rw [Nat.sub_zero] at h1 h2;obtain⟨a,b⟩:=hS j hj;rw [b t (by rw [List.getD_eq_getElem?_getD,h1]; rfl)];unfold Sc at a;rw [List.getD_eq_getElem?_getD,h2] at a;exact a
 | i,[],an::ans,uss,ses,h=>by simp [StepsSc] at h
 | i,[],[],us::uss,ses,h=>by simp [StepsSc] at h
 | i,[],[],[],se::ses,h=>by simp [StepsSc] at h
 | i,o::os,[],uss,ses,h=>by simp [StepsSc] at h
 | i,o::os,an::ans,[],ses,h=>by simp [StepsSc] at h
 | i,o::os,an::ans,us::uss,[],h=>by simp [StepsSc] at h
theorem wp_region_sc {rid:Nat} {l:List Oper} {a0:Act} {w w0:World}
  (vals:List (Option Value)) (Sx:Nat->Value->Prop) (R:Nat->Value->List Pr) (I:Nat->List Pr) (n sz:Nat)
  (ds:List (Option Tmp)) (pre anc use see:List (List Nat)) (env:List (Nat × Value)) (hm:P.follows .mixedOrders=true)
  (hds:l.map (·.dst)=ds) (hdist:Distinct ds)
  (hpre:(l.map fun o=>(o.after.toList.filter (Region.binds .any ·)).map (·.on))=pre)
  (hok:(pre.length == n && ancOk pre anc && flowOk n anc use see && guardsOk l ds anc && anc.length == n && ds.all (fun d=>match d with | some t=>decide (t<sz) | none=>true))=true)
  (hdv:a0.defers=[]) (hsz:a0.tmps.size=sz)
  (henv:∀p,p ∈ env->a0.tmps[p.1]?.getD undef=p.2)
  (H:Sp w0 ((List.range n).flatMap I++L) w)
  (hstep:StepsSc P Q vals Sx R I ds anc env w0 L 0 l anc use see)
  (hend:∀(x:Nat->Value) (w:World) (A:Act),A=putAll a0 ds 0 x->(∀i,i<n->Sc vals Sx i (x i)) ->
   Sp w0 ((List.range n).flatMap (fun i=>if (List.range n).any (fun k=>(use.getD k []).contains i) then [] else R i (x i))++L) w->Q .normal A w) :
  (Code.region rid l.toArray true).wp P Q a0 w:=by
 simp only [Bool.and_eq_true,beq_iff_eq] at hok;obtain⟨⟨⟨⟨⟨a,b⟩,c⟩,e⟩,f⟩,g⟩:=hok;exact wp_region_sr (Sc vals Sx) R I n sz ds pre anc use see env hm hds hdist hpre a b c e f hdv hsz g henv H (Yv 0 l anc use see hstep) hend
end
section
variable {P:Program}
theorem Zi {o:Oper} {a:Act} {K:Act->World->Prop} {Q:Exit->Act->World->Prop} (s x:Operand) (t:TypeId)
  (ho:o.op=.call { callee:=.builtin .append,args:=#[s,x],argTypes:=#[t,t] })
  (e:TypeId) (i:TypeInfo) (z:Value) (size bytes:Nat) (ht:P.underlying t=some (.slice e)) (hi:P.info? e=some i) (hz:i.zero=some z)
  (hsize:i.size=size) (hby:i.bytes=bytes) (hzs:z.cells.size=size) (hsz:0<size)
  (v:Value) (n:Nat) (xs:List Value) (hs:a.eval s=v) (H:Sp w0 (Row e size v n xs::L) w)
  (A:Option Addr) (m c:Nat) (news:List Value) (hx:a.eval x=.slice A m c) (hl:news.length=m * size) (hr:Rd w A news) (h1:∀u ∈ news,u.oneCell'=true)
  (h63:n+m<=maxLen) (hbytes:(n+m) * bytes<=140737488355328)
  (h:∀v' w',Sp w0 (Row e size v' (n+m) (xs++news)::L) w'->(v'=.slice none 0 0↔v=.slice none 0 0/\m=0)->K (a.put o.dst v') w') :
  o.wp P a w K Q:=by
 obtain⟨v',w',b,d,f,g,j⟩:=YF (P:=P) w 0 t o.type e i z size bytes ht hi hz hsize hby hzs hsz v n xs (H.owns 0 rfl) A m c news hl hr h1 h63 hbytes (Nat.zero_le _);unfold Oper.wp execOp;simp only [ho,resolve,invoke,builtin,Sem.run_bind,Sem.run_pure,Result.andThen_ok,List.map_toArray,List.map_cons,List.map_nil,hs,hx,b];exact h v' w' (H.appended d f j) g
theorem wpList_append_sp {ops:Array Oper} {rest:List Oper} {o:Oper} {a:Act} {Q:Exit->Act->World->Prop} (hgd:o.guard=none) (s x:Operand) (t:TypeId)
  (ho:o.op=.call { callee:=.builtin .append,args:=#[s,x],argTypes:=#[t,t] })
  (e:TypeId) (i:TypeInfo) (z:Value) (size bytes:Nat) (ht:P.underlying t=some (.slice e)) (hi:P.info? e=some i) (hz:i.zero=some z)
  (hsize:i.size=size) (hby:i.bytes=bytes) (hzs:z.cells.size=size) (hsz:0<size)
  (v:Value) (n:Nat) (xs:List Value) (hs:a.eval s=v) (H:Sp w0 (Row e size v n xs::L) w)
  (A:Option Addr) (m c:Nat) (news:List Value) (hx:a.eval x=.slice A m c) (hl:news.length=m * size) (hr:Rd w A news) (h1:∀u ∈ news,u.oneCell'=true)
  (h63:n+m<=maxLen) (hbytes:(n+m) * bytes<=140737488355328)
  (h:∀v' w',Sp w0 (Row e size v' (n+m) (xs++news)::L) w'->(v'=.slice none 0 0↔v=.slice none 0 0/\m=0)->wpList P ops Q rest (a.put o.dst v') w') :
  wpList P ops Q (o::rest) a w :=
 wpList_plain hgd fun _ hK=>Zi s x t ho e i z size bytes ht hi hz hsize hby hzs hsz v n xs hs H A m c news hx hl hr h1 h63 hbytes fun v' w' h2 h3=>hK _ _ (h v' w' h2 h3)
theorem ev {A:Act} {t:Nat} {v:Value} (h:A.tmps[t]?.getD undef=v):A.eval (.tmp t)=v:=by
 rw [<- h];show A.tmps.getD t undef=_;rw [Array.getD_eq_getD_getElem?]
theorem Row.form {e:TypeId} {size n:Nat} {v:Value} {xs:List Value} (H:Sp w0 L w) (k:Nat) (hk:L[k]?=some (Row e size v n xs)):∃A c,v=.slice A n c/\n<=c/\c<=maxLen:=by
 rcases(H.owns k hk).2 with ⟨rfl,rfl⟩ | ⟨g,cap,cur,rfl,_,_,h1,h2,_⟩
 ·exact⟨none,0,rfl,Nat.le_refl _,by simp [maxLen]⟩
 ·exact⟨_,cap,rfl,h1,h2⟩
end
theorem Byt.take {w:World} {A:Option Addr} {n c:Nat} {l:List UInt8} (h:Byt w (.slice A n c) l) (k:Nat) (hk:k<=l.length):Byt w (.slice A k c) (l.take k):=by
 obtain⟨i,m,e,b,o,d⟩:=h;injection e with e1 e2 e3
 subst e1 e3;refine⟨A,c,by rw [List.length_take,Nat.min_eq_left hk],fun hn=>?_,by simp; omega,d⟩;obtain⟨f,e,g⟩:=b (by intro a; apply hn; unfold cells8 at a ⊢; rw [List.map_take,a,List.take_nil]);refine⟨f,e,fun j u hu=>g j u ?_⟩;unfold cells8 at hu ⊢;rw [List.map_take,List.getElem?_take] at hu;split at hu
 ·exact hu
 ·cases hu

theorem Byt.below {w w' : World} {v:Value} {l:List UInt8} (h:Byt w v l) (hB:Below w.heap.size w w'):Byt w' v l:=h.keep fun _ _ hc=>hB.cell (Zz hc)
theorem Yw (a:Addr) (m j:Nat) (hj:0<j):(⟨(a.add m).block,(a.add m).off+j,none⟩:Addr)=a.add (m+j):=by
 unfold Addr.add;rw [if_neg (show ¬ (m+j=0) by omega)];by_cases b:m=0
 ·subst b; simp
 ·rw [if_neg b]; simp [Nat.add_assoc]
theorem Byt.drop {w:World} {A:Option Addr} {n c:Nat} {l:List UInt8} (h:Byt w (.slice A n c) l) (k:Nat) (hk:k<=n):Byt w (.slice (A.map (·.add k)) (n - k) (c - k)) (l.drop k):=by
 obtain⟨g,i,e,b,m,o⟩:=h;injection e with e1 e2 e3
 subst e1 e2 e3;refine⟨_,_,by rw [List.length_drop],fun hn=>?_,by simp; omega,by omega⟩;obtain⟨d,rfl,f⟩:=b (by intro a; apply hn; unfold cells8 at a ⊢; rw [List.map_drop,a,List.drop_nil]);refine⟨d.add k,rfl,fun j u hu=>?_⟩;unfold cells8 at hu;rw [List.map_drop,List.getElem?_drop] at hu;rw [Go.Addr.add_add];exact f _ u hu
def strOf (l:List UInt8):ByteArray:=⟨l.toArray⟩
theorem run_str {P:Program} (w:World) (src dst e:TypeId) (v:Value) (l:List UInt8) (hs:P.underlying src=some (.slice e)) (he:P.underlying e=some (.int .u8)) (hd:P.underlying dst=some .string) (h:Byt w v l) :
    (convert src dst v).run P w=.ok (.string (strOf l)) w:=by
  obtain⟨A,c,rfl,hr,_,_⟩:=h
  have hnil:l=[]->strOf l=ByteArray.empty:=fun h=>by subst h; rfl
  rcases A with _ | ad
  · have hl:l=[]:=by
      rcases l with _ | ⟨x,l⟩
      · rfl
      · obtain⟨ad,h,_⟩:=hr (by simp [cells8]); cases h
    rw [hnil hl]
    exact run_convert_bytes_nil w src e hs he _ _ dst hd
  · have hload:(loadCells ad l.length).run P w=.ok ((l.map fun c:UInt8=>(c.toNat:Int)).map (Value.int .u8)).toArray w:=by
      have:=run_loadCells_list (P:=P) w ad ((l.map fun c:UInt8=>(c.toNat:Int)).map (Value.int .u8)) (fun j v hj=>by
        obtain ⟨ad', h, hc⟩ := hr (by rintro h0; unfold cells8 at h0; rw [List.map_map] at hj; have : l = [] := by simpa using h0
                                      subst this; simp at hj)
        injection h with h
        subst h
        refine hc j v ?_
        rw [List.map_map] at hj
        exact hj)
      simpa using this
    rw [run_convert_bytes_string w src dst e _ _ _ hs he hd,run_bytesToString w _ _ _ _ hload,foldl_push_bytes]
    congr 2
    simp [strOf,ByteArray.empty,ByteArray.emptyWithCapacity,List.map_map,Function.comp_def]
    rfl
def Ret (φ:Value->World->Prop) (e:Ending) (w' : World):Prop:=∃v,e=.returned v/\φ v w'
theorem info8:(Tryd.prog.info? 5).map (fun i=>(i.zero,i.size,i.bytes))=some (some (.int .u8 0),1,1):=by kernel_rfl
theorem YG {v:Value} {l:List UInt8} (H:Sp w0 L w) (hb:Byt w v l) (hl:l.length<=1000000000) :
  Calls Tryd.prog 8 #[v] w (Ret fun v' w'=>Sp w0 (Row 5 1 v' l.length (cells8 l)::L) w'):=by
 obtain⟨A,c,rfl,d,q,j⟩:=hb;unfold maxLen at j;have k:=fun(W:World)=>Lib.run_eql_slice_nil (P:=Tryd.prog) W 25 5 A l.length c 0 0 Tryd.underlying25;have e:=hid d;cases A with
 | none =>
  have b:l=[]:=by
   rcases l with _ | ⟨x,l⟩
   ·rfl
   ·obtain⟨r,h,_⟩:=d (by simp [cells8]); cases h
  clear d;have m:=hid b;clear b;go_enter Tryd.func8,Tryd.ntmps8
  go_wp2;go_ret;obtain rfl:=m.out;exact⟨_,rfl,H.rowNil _ _⟩
 | some a =>
  clear d;go_enter Tryd.func8,Tryd.ntmps8
  obtain⟨n,o,f,g,i⟩:=info_parts info8;go_wp2_with (at_builtin; refine wpList_append_sp rfl _ _ 25 rfl 5 n (.int .u8 0) 1 1 Tryd.underlying25 o f g i rfl (by decide) (.slice (some ⟨w.heap.size,0,none⟩) 0 0) 0 [] rfl ((H.newBk [] _).bkRow 1 0 rfl (by decide)) (some a) l.length c (cells8 l) rfl (by simp [cells8]) (e.out.alloc _) (Zr l) (by unfold maxLen; omega) (by omega) ?_)
  intro v' w' p _;clear k;go_wp2;go_ret;exact⟨_,rfl,p⟩
theorem Sp.row_rd (H:Sp w0 L w) (k:Nat) {e:TypeId} {z n:Nat} {v:Value} {xs:List Value} (hk:L[k]?=some (Row e z v n xs)) :
  ∃A c,v=.slice A n c/\Rd w A xs/\n<=c/\c<=maxLen:=by
 have h:=H.owns k hk;rcases h.2 with ⟨rfl,rfl⟩ | ⟨g,cap,cur,rfl,hb,hh,h1,h2,h3,h4⟩
 ·have:xs=[]:=List.eq_nil_of_length_eq_zero (by simpa using h.1);subst this;exact⟨none,0,rfl,Rd.nil,Nat.le_refl _,by simp [maxLen]⟩
 ·refine⟨_,_,rfl,fun _=>⟨_,rfl,fun j u hu=>?_⟩,h1,h2⟩;have a:j<n * z:=by
   have:=(List.getElem?_eq_some_iff.1 hu).1;rw [h.1] at this;exact this
  have b:(Addr.add ⟨g,0,none⟩ j)=⟨g,j,none⟩:=by
   unfold Addr.add; split
   ·rename_i h0; subst h0; rfl
   ·simp
  rw [b,h.cellAt j a];exact hu
theorem Rd.part {w:World} {A:Option Addr} {xs:List Value} (h:Rd w A xs) (q k:Nat):Rd w (A.map (·.add q)) ((xs.drop q).take k):=fun hn=>by
 obtain⟨a,rfl,b⟩:=h (by rintro rfl; simp at hn);refine⟨a.add q,rfl,fun j u hu=>?_⟩;rw [List.getElem?_take] at hu;split at hu
 ·rw [List.getElem?_drop] at hu;rw [Go.Addr.add_add];exact b _ u hu
 ·cases hu
theorem Sp.rowSet {e:TypeId} {n i:Nat} {v:Value} {xs:List Value} (H:Sp w0 (Row e 1 v n xs::L) w) (hi:i<n) :
  ∃ad c,v=.slice (some ad) n c/\n<=c/\w.cell? (ad.add i)=xs[i]?/\w.frozen? (ad.add i)=false/\∀u,Sp w0 (Row e 1 v n (xs.set i u)::L) (w.setCell (ad.add i) u):=by
 have h:=H.owns 0 rfl;rcases h.2 with ⟨rfl,rfl⟩ | ⟨g,cap,cur,rfl,_,hh,h1,h2,h3,h4⟩
 ·omega
 ·have d:(Addr.add ⟨g,0,none⟩ i)=⟨g,i,none⟩:=by
   unfold Addr.add; split
   ·rename_i h0; subst h0; rfl
   ·simp
  refine⟨⟨g,0,none⟩,cap,rfl,h1,?_,?_,fun u=>?_⟩
  ·rw [d,h.cellAt i (by omega)]
  ·rw [d]; simp [World.frozen?,hh]
  ·rw [d];have f : (w.setCell ⟨g,i,none⟩ u).heap[g]?=some (.cells (cur.setIfInBounds i u) e (0,0)):=by
    simp [World.setCell,Array.getElem?_modify,hh]
   refine H.turn rfl rfl rfl fun s hs=>?_;have a:s g:=by
    rcases hs.2 with ⟨hv,_⟩ | ⟨g',cap',cur',hv,hg',_⟩
    ·cases hv
    ·injection hv with hv
     injection hv with hv
     injection hv with hv
     subst hv;exact(Zm hg').1
   refine⟨fun b _ hsb=>Below.heap_setCell _ _ _ _ (by rintro rfl; exact hsb a),by simpa using h.1,.inr ⟨g,cap,cur.setIfInBounds i u,rfl,(rs_pos (.inl a)).trans f,h1,h2,by simpa using h3,?_⟩⟩;rw [Array.toList_setIfInBounds,List.take_set,h4]
theorem Ent.of_same {w1:World} {φ:World->Prop} (k:Nat) (hk:L[k]?=some (Same w1)) (h:∀w,(∀b,b<w1.heap.size->w.heap[b]?=w1.heap[b]?)->φ w):Ent L φ:=fun w0 w H=>h w fun b hb=>by
 obtain⟨_,_,_,own,c⟩:=H;have a:=c k _ hk b hb;rw [Array.getElem?_eq_getElem hb] at a ⊢;exact(Zm a).2
theorem Ent.byt {W:World} (k:Nat) (hk:L[k]?=some (Same W)) {v:Value} {l:List UInt8} (h:Byt W v l):Ent L (fun w=>Byt w v l) :=
 Ent.of_same k hk fun _ hs=>h.keep fun p _ hp=>World.cell?_of_block (hs p.block (Zz hp))
namespace SS
variable {α:Type} (key:α->Int)
def put:List α->α->List α
 | [],p=>[p]
 | x::l,p=>if key x<=key p then x::put l p else p::x::l
def mrg (u v:List α):List α:=v.foldl (put key) u
def isort (l:List α):List α:=mrg key [] l
def Srt (l:List α):Prop:=l.Pairwise fun x y=>key x<=key y
variable {key}
theorem mem_put {l:List α} {p z:α} : z ∈ put key l p↔z=p∨z ∈ l:=by
 induction l with
 | nil=>simp [put]
 | cons x l ih =>
  unfold put;split
  ·rw [List.mem_cons,ih,List.mem_cons]; constructor
   ·rintro(h | h | h)
    ·exact .inr (.inl h)
    ·exact .inl h
    ·exact .inr (.inr h)
   ·rintro(h | h | h)
    ·exact .inr (.inl h)
    ·exact .inl h
    ·exact .inr (.inr h)
  ·rw [List.mem_cons]
theorem len_put (l:List α) (p:α):(put key l p).length=l.length+1:=by
 induction l with
 | nil=>rfl
 | cons x l ih =>
  unfold put;split
  ·rw [List.length_cons,ih,List.length_cons]
  ·rfl
theorem srt_put {l:List α} (h:Srt key l) (p:α):Srt key (put key l p):=by
 induction l with
 | nil=>exact List.pairwise_singleton _ _
 | cons x l ih =>
  have a:=List.pairwise_cons.1 h;unfold put;split
  ·rename_i hx
   refine List.pairwise_cons.2 ⟨fun z hz=>?_,ih a.2⟩;rcases mem_put.1 hz with rfl | hz
   ·exact hx
   ·exact a.1 z hz
  ·rename_i hx
   refine List.pairwise_cons.2 ⟨fun z hz=>?_,h⟩;rcases List.mem_cons.1 hz with rfl | hz
   ·omega
   ·have:=a.1 z hz; omega
theorem mem_mrg {u v:List α} {z:α} : z ∈ mrg key u v↔z ∈ u∨z ∈ v:=by
 unfold mrg;induction v generalizing u with
 | nil=>simp
 | cons y v ih =>
  rw [List.foldl_cons,ih,mem_put,List.mem_cons]; constructor
  ·rintro((h | h) | h)
   ·exact .inr (.inl h)
   ·exact .inl h
   ·exact .inr (.inr h)
  ·rintro(h | h | h)
   ·exact .inl (.inr h)
   ·exact .inl (.inl h)
   ·exact .inr h
theorem len_mrg (u v:List α):(mrg key u v).length=u.length+v.length:=by
 unfold mrg;induction v generalizing u with
 | nil=>simp
 | cons y v ih=>rw [List.foldl_cons,ih,len_put,List.length_cons]; omega
theorem srt_mrg {u:List α} (h:Srt key u) (v:List α):Srt key (mrg key u v):=by
 unfold mrg;induction v generalizing u with
 | nil=>exact h
 | cons y v ih=>exact ih (srt_put h y)
theorem srt_isort (l:List α):Srt key (isort key l):=srt_mrg List.Pairwise.nil l
theorem len_isort (l:List α):(isort key l).length=l.length:=by unfold isort; rw [len_mrg]; simp
theorem mem_isort {l:List α} {z:α} : z ∈ isort key l↔z ∈ l:=by unfold isort; rw [mem_mrg]; simp
theorem mrg_app (u v w:List α):mrg key u (v++w)=mrg key (mrg key u v) w:=List.foldl_append
theorem isort_snoc (l:List α) (x:α):isort key (l++[x])=put key (isort key l) x:=mrg_app _ _ _
theorem isort_app (l m:List α):isort key (l++m)=mrg key (isort key l) m:=mrg_app _ _ _
theorem put_back {s t:List α} {y:α} (h:∀x ∈ s,key x<=key y):put key (s++t) y=s++put key t y:=by
 induction s with
 | nil=>rfl
 | cons x s ih =>
  show(if key x<=key y then x::put key (s++t) y else _)=_;rw [if_pos (h x (List.mem_cons_self ..)),ih fun z hz=>h z (List.mem_cons_of_mem _ hz)]; rfl
theorem put_end {s:List α} {y:α} (h:∀x ∈ s,key x<=key y):put key s y=s++[y]:=by
 have:=put_back (t:=[]) h
 rwa [List.append_nil] at this
theorem put_front {t:List α} {y:α} (h:∀x ∈ t,key y<key x):put key t y=y::t:=by
 cases t with
 | nil=>rfl
 | cons x t =>
  show(if key x<=key y then _ else y::x::t)=_;rw [if_neg (by have:=h x (List.mem_cons_self ..); omega)]
theorem put_ahead {s t:List α} {y:α} (h:∀x ∈ t,key y<key x):put key (s++t) y=put key s y++t:=by
 induction s with
 | nil=>exact put_front h
 | cons x s ih =>
  show(if key x<=key y then x::put key (s++t) y else y::x::(s++t))=(if key x<=key y then x::put key s y else y::x::s)++t;split
  ·rw [ih]; rfl
  ·rfl
theorem put_at {s t:List α} {y:α} (h1:∀x ∈ s,key x<=key y) (h2:∀x ∈ t,key y<key x):put key (s++t) y=s++y::t:=by
 rw [put_back h1,put_front h2]
theorem mrg_nil {v:List α} (h:Srt key v):mrg key [] v=v:=by
 suffices ∀u,Srt key (u++v)->mrg key u v=u++v from this [] h
 induction v with
 | nil=>intro u _; simp [mrg]
 | cons y v ih =>
  intro u a;have b:put key u y=u++[y]:=put_end fun x hx=>(List.pairwise_append.1 a).2.2 x hx y (List.mem_cons_self ..);show mrg key (put key u y) v=_;rw [b,ih (List.pairwise_cons.1 h).2 (u++[y]) (by rw [List.append_assoc]; exact a),List.append_assoc]; rfl
theorem mrg_ahead {u t v:List α} (h:∀x ∈ t,∀y ∈ v,key y<key x):mrg key (u++t) v=mrg key u v++t:=by
 unfold mrg;induction v generalizing u with
 | nil=>rfl
 | cons y v ih =>
  rw [List.foldl_cons,put_ahead fun x hx=>h x hx y (List.mem_cons_self ..),ih fun x hx z hz=>h x hx z (List.mem_cons_of_mem _ hz)]; rfl
theorem mrg_back {s u v:List α} (h:∀x ∈ s,∀y ∈ v,key x<=key y):mrg key (s++u) v=s++mrg key u v:=by
 unfold mrg;induction v generalizing u with
 | nil=>rfl
 | cons y v ih =>
  rw [List.foldl_cons,put_back fun x hx=>h x hx y (List.mem_cons_self ..),ih fun x hx z hz=>h x hx z (List.mem_cons_of_mem _ hz)]; rfl
theorem mrg_split {u1 u2 v1 v2:List α} (hv:Srt key (v1++v2)) (h1:∀x ∈ u1,∀y ∈ v2,key x<=key y) (h2:∀x ∈ u2,∀y ∈ v1,key y<key x) :
  mrg key (u1++u2) (v1++v2)=mrg key u1 v1++mrg key u2 v2:=by
 rw [mrg_app,mrg_ahead h2,mrg_back];intro x a y b;rcases mem_mrg.1 a with a | a
 ·exact h1 x a y b
 ·exact(List.pairwise_append.1 hv).2.2 x a y b
theorem put_comm (u:List α) {x y:α} (h:key y<key x):put key (put key u y) x=put key (put key u x) y:=by
 induction u with
 | nil =>
  show(if key y<=key x then y::[x] else x::y::[])=(if key x<=key y then x::[y] else y::x::[]);rw [if_pos (by omega),if_neg (by omega)]
 | cons z u ih =>
  by_cases b:key z<=key y
  ·have a:key z<=key x:=by omega
   simp only [put,if_pos b,if_pos a,ih]
  ·by_cases a:key z<=key x
   ·have c:key y<=key x:=by omega
    simp only [put,if_neg b,if_pos a,if_pos c]
   ·have c:key y<=key x:=by omega
    have d:¬ key x<=key y:=by omega
    simp only [put,if_neg b,if_neg a,if_pos c,if_neg d]
theorem mrg_comm (u:List α) {v:List α} {y:α} (h:∀x ∈ v,key y<key x):mrg key (put key u y) v=put key (mrg key u v) y:=by
 unfold mrg;induction v generalizing u with
 | nil=>rfl
 | cons x v ih =>
  rw [List.foldl_cons,List.foldl_cons,put_comm u (h x (List.mem_cons_self ..)),ih _ fun z hz=>h z (List.mem_cons_of_mem _ hz)]
theorem mrg_put (u:List α) {v:List α} (hv:Srt key v) (y:α):mrg key u (put key v y)=put key (mrg key u v) y:=by
 induction v generalizing u with
 | nil=>rfl
 | cons x v ih =>
  have a:=List.pairwise_cons.1 hv;by_cases h:key x<=key y
  ·rw [show put key (x::v) y=x::put key v y from if_pos h];exact ih _ a.2
  ·rw [show put key (x::v) y=y::x::v from if_neg h];refine mrg_comm u fun z hz=>?_;rcases List.mem_cons.1 hz with rfl | hz
   ·omega
   ·have:=a.1 z hz; omega
theorem mrg_isort (u l:List α):mrg key u (isort key l)=mrg key u l:=by
 suffices ∀m:List α,l=m.reverse->mrg key u (isort key l)=mrg key u l from this l.reverse (by simp)
 intro m;induction m generalizing l with
 | nil=>rintro rfl; rfl
 | cons x m ih =>
  rintro rfl;rw [List.reverse_cons,isort_snoc,mrg_put u (srt_isort _),ih _ rfl,mrg_app]; rfl
theorem mrg_isorts (x y:List α):mrg key (isort key x) (isort key y)=isort key (x++y):=by rw [mrg_isort,isort_app]
theorem isort_isort (l:List α):isort key (isort key l)=isort key l:=mrg_isort [] l
inductive Chs (key:α->Int) (s:Nat):Nat->List α->List α->Prop
 | nil:Chs key s 0 [] []
 | cons {k:Nat} {x d l:List α} : x.length=s->Chs key s k d l->Chs key s (k+1) (isort key x++d) (x++l)
theorem Chs.len {s k:Nat} {d l:List α} (h:Chs key s k d l):d.length=k * s/\l.length=k * s:=by
 induction h with
 | nil=>simp
 | cons hx _ ih=>rw [List.length_append,List.length_append,len_isort,hx,ih.1,ih.2,Nat.succ_mul]; omega
theorem Chs.snoc {s k:Nat} {d l x:List α} (h:Chs key s k d l) (hx:x.length=s):Chs key s (k+1) (d++isort key x) (l++x):=by
 induction h with
 | nil =>
  have:=Chs.cons (key:=key) hx Chs.nil
  rwa [List.append_nil,List.append_nil] at this
 | cons hy _ ih=>rw [List.append_assoc,List.append_assoc]; exact Chs.cons hy ih
theorem Chs.inv {s k:Nat} {d l:List α} (h:Chs key s (k+1) d l):∃x d' l',x.length=s/\d=isort key x++d'/\l=x++l'/\Chs key s k d' l':=by
 cases h with
 | cons hx h=>exact⟨_,_,_,hx,rfl,rfl,h⟩
theorem Chs.zero {s:Nat} {d l:List α} (h:Chs key s 0 d l):d=[]/\l=[]:=by cases h; exact⟨rfl,rfl⟩
theorem Chs.end_ {s k:Nat} {d l y:List α} (h:Chs key s k d l) (hn:l.length+y.length<=s):d++isort key y=isort key (l++y):=by
 cases k with
 | zero=>obtain⟨rfl,rfl⟩:=h.zero; rfl
 | succ k =>
  obtain⟨x,c,e,f,rfl,rfl,g⟩:=h.inv;have a:=g.len;rw [List.length_append,f] at hn;have i:y=[]:=List.eq_nil_of_length_eq_zero (by omega);have b:e=[]:=List.eq_nil_of_length_eq_zero (by omega);have j:c=[]:=List.eq_nil_of_length_eq_zero (by rw [a.1,<- a.2,b]; rfl);subst i b j;simp [isort,mrg]
def sw (d:α) (l:List α) (i j:Nat):List α:=(l.set i (l.getD j d)).set j (l.getD i d)
theorem getD_app (d:α) (a b:List α) (x:α) {i:Nat} (h:a.length=i):(a++x::b).getD i d=x:=by
 subst h;rw [List.getD_eq_getElem?_getD,List.getElem?_append_right (Nat.le_refl _),Nat.sub_self]; rfl
theorem set_app (a b:List α) (x y:α) {i:Nat} (h:a.length=i):(a++x::b).set i y=a++y::b:=by
 subst h;rw [List.set_append_right _ _ (Nat.le_refl _),Nat.sub_self]; rfl
theorem sw_app (d:α) (a b c:List α) (x y:α) {i j:Nat} (hi:a.length=i) (hj:a.length+1+b.length=j):sw d (a++x::b++y::c) i j=a++y::b++x::c:=by
 have e:a++x::b++y::c=a++x::(b++y::c):=by simp
 have g:∀z,a++z::b++y::c=(a++z::b)++y::c:=fun z=>rfl;unfold sw;rw [getD_app d (a++x::b) c y (by rw [List.length_append,List.length_cons]; omega),e,getD_app d a _ x hi,set_app a _ x y hi];have f:a++y::(b++y::c)=(a++y::b)++y::c:=by simp
 rw [f,set_app (a++y::b) c y x (by rw [List.length_append,List.length_cons]; omega)]
theorem sw_comm (d:α) (l:List α) (i j:Nat) (h:i≠j):sw d l i j=sw d l j i:=by
 unfold sw;rw [List.set_comm _ _ h]
end SS
def Lit (g:Nat) (l:List UInt8):Pr:=Is g (.cells (cells8 l).toArray 5 (l.length,l.length+1))
theorem Sp.lit (H:Sp w0 L w) (k:Nat) {g:Nat} {l:List UInt8} (hk:L[k]?=some (Lit g l)) (hl:l.length<=maxLen):Byt w (.slice (some ⟨g,0,none⟩) l.length l.length) l:=by
 have h:=H.is_ k hk;refine⟨_,_,rfl,fun _=>⟨_,rfl,fun j u hu=>?_⟩,Nat.le_refl _,hl⟩;have a:(Addr.add ⟨g,0,none⟩ j)=⟨g,j,none⟩:=by
  unfold Addr.add; split
  ·rename_i h0; subst h0; rfl
  ·simp
 rw [a];simp [World.cell?,h,hu]
theorem ZK (w:World) (g:Nat) (cur cs:Array Value) (t:TypeId) (fr:Nat × Nat) (hg:w.heap[g]?=some (.cells cur t fr)):w.setRow g cs={ w with heap:=w.heap.setIfInBounds g (.cells cs t fr) }:=by
 unfold World.setRow;refine congrArg (fun x=>{ w with heap:=x }) ?_;have b:=(Array.getElem?_eq_some_iff.1 hg).1;apply Array.ext_getElem?;intro i;rw [Array.getElem?_modify,Array.getElem?_setIfInBounds];by_cases a:g=i
 ·subst a;rw [if_pos rfl,if_pos rfl,if_pos b,hg];rfl
 ·rw [if_neg a,if_neg a]
def RB (g n:Nat) (c:UInt8) (bp:Nat):Pr:=Ex fun cur:Array Value=>Ex fun(_:n<=cur.size/\bp<=n/\cur.toList.take bp=cells8 (List.replicate bp c))=>Is g (.cells cur 5 (0,0))
theorem RB.rd {g n bp:Nat} {c:UInt8} (H:Sp w0 (RB g n c bp::L) w):Rd w (some ⟨g,0,none⟩) (cells8 (List.replicate bp c)):=by
 obtain⟨a,H⟩:=H.unex;obtain⟨⟨h,i,b⟩,H⟩:=H.unex;have d:=H.is_ 0 rfl;refine fun _=>⟨_,rfl,fun j u hu=>?_⟩;have e:(Addr.add ⟨g,0,none⟩ j)=⟨g,j,none⟩:=by
  unfold Addr.add; split
  ·rename_i h0; subst h0; rfl
  ·simp
 rw [e];have f:j<bp:=by
  have:=(List.getElem?_eq_some_iff.1 hu).1;simpa [cells8] using this
 rw [<- b,List.getElem?_take_of_lt f] at hu;simp [World.cell?,d];simpa using hu
theorem RB.byt {g n:Nat} {c:UInt8} (H:Sp w0 (RB g n c n::L) w) (hn:n<=maxLen):Byt w (.slice (some ⟨g,0,none⟩) n n) (List.replicate n c) :=
 ⟨some ⟨g,0,none⟩,n,by rw [List.length_replicate],RB.rd H,by rw [List.length_replicate]; exact Nat.le_refl _,hn⟩
theorem RB.copy {g n bp k:Nat} {c:UInt8} (H:Sp w0 (RB g n c bp::L) w) (a:Addr) (sLen sCap dCap:Nat) (ty:TypeId) (hk:k=min sLen (n - bp))
  (hsrc:∀j u,(cells8 (List.replicate k c))[j]?=some u->w.cell? (a.add j)=some u) :
  ∃w',(Builtin.copy_ #[25,25] ty #[.slice (some ⟨g,bp,none⟩) (n - bp) dCap,.slice (some a) sLen sCap]).run Tryd.prog w=.ok (.int .i64 k) w'/\Sp w0 (RB g n c (bp+k)::L) w':=by
 obtain⟨p,e,l,f,m⟩:=info_parts info8;obtain⟨b,H⟩:=H.unex;obtain⟨⟨q,r,o⟩,H⟩:=H.unex;have h:=H.is_ 0 rfl;have d:(cells8 (List.replicate k c)).length=k:=by simp [cells8]
 have i:=run_copy_row (P:=Tryd.prog) w 25 25 ty 5 g bp (n - bp) dCap a sLen sCap b 5 (cells8 (List.replicate k c)) Tryd.underlying25 (by rw [e]; simp [f]) h (by rw [d]; exact hk) hsrc (by rw [d]; omega) (Zr _);rw [d] at i;refine⟨_,i,?_⟩;rw [ZK w g b _ _ _ h];refine Sp.ex _ (Sp.ex ⟨?_,?_,?_⟩ (H.put _))
 ·simp [d]; omega
 ·omega
 ·show List.take (bp+k) (b.toList.take bp++cells8 (List.replicate k c)++b.toList.drop (bp+k))=_;have s:(b.toList.take bp++cells8 (List.replicate k c)).length=bp+k:=by
   rw [List.length_append,d,List.length_take];simp only [Array.length_toList];omega
  rw [List.take_append_of_le_length (by omega),List.take_of_length_le (by omega),o,<- List.replicate_append_replicate];exact List.map_append.symm
theorem XB (n:Nat) (hn:n<=65536) (w:World) :
  Calls Tryd.prog 158 #[.int .u64 1,.int .u64 n] w fun e w'=>e=.returned (.tuple #[.int .u64 0,.int .u64 n])/\w=w':=by
 have b:bits .and .u64 (n:Int) 4294967295=(n:Int):=by
  rw [Go.Proofs.Mul64.maskN n (by omega)];omega
 have c:(n:Int) / 4294967296=0:=by omega
 have d:bits .and .u64 1 4294967295=1:=by decide +kernel
 have f:bits .and .u64 0 4294967295=0:=by decide +kernel
 have a:Calls Tryd.prog 164 #[.int .u64 1,.int .u64 n] w fun e w'=>e=.returned (.tuple #[.int .u64 0,.int .u64 n])/\w=w':=by
  go_enter Tryd.func164,Tryd.ntmps164
  go_wp2;go_ret2;exact⟨rfl,rfl⟩
 go_enter Tryd.func158,Tryd.ntmps158
 go_wp2_with fail
 refine a.mono ?_;rintro _ _ ⟨rfl,rfl⟩;go_wp2_with fail
 go_ret2;exact⟨rfl,rfl⟩
section
variable {P:Program}
theorem YS (g j:Nat):(⟨g,0,none⟩:Addr).add j=⟨g,j,none⟩:=by
 unfold Addr.add; split
 ·rename_i h0; subst h0; rfl
 ·simp
theorem Yq {w:World} {g:Nat} {t te:TypeId} {cs:List Value} (hb:Blk w g te cs) (ha:∀w,(isAgg t).run P w=.ok true w) (hs:∀w,(sizeOf t).run P w=.ok cs.length w) :
  (Instr.loadAt t (.pointer (some ⟨g,0,none⟩))).run P w=.ok (.agg cs.toArray) w:=by
 have a:=run_loadCells_list (P:=P) w ⟨g,0,none⟩ cs (fun j v hj=>by rw [YS,hb.cell]; exact hj);simp [Instr.loadAt,Instr.sureAddr,loadVar,ha,hs,a,Result.andThen]
theorem Yg {w:World} {g:Nat} {t te:TypeId} {cs ds:List Value} (hb:Blk w g te cs) (hl:ds.length=cs.length) (ha:∀w,(sizeOf t).run P w=.ok ds.length w) (h1:∀v ∈ ds,v.oneCell'=true) :
  (Instr.storeAt t (.pointer (some ⟨g,0,none⟩)) (.agg ds.toArray)).run P w=.ok () { w with heap:=w.heap.setIfInBounds g (.cells ds.toArray te (0,0)) }:=by
 have a:=run_storeCells_at P g 0 te ds 0 cs.toArray w hb (by simp; omega) h1;rw [ZK w g _ _ _ _ hb] at a;have e:(List.take (0+0) cs.toArray.toList++ds++List.drop (0+0+ds.length) cs.toArray.toList).toArray=ds.toArray:=by
  simp [hl]
 rw [e] at a;simp [Instr.storeAt,Instr.sureAddr,storeVar,ha,a,Result.andThen,Value.cells]
theorem Zk {w:World} {ops:Array Oper} {rest:List Oper} {o:Oper} {a:Act} {Q:Exit->Act->World->Prop} (hgd:o.guard=none) (t:TypeId) (x:Operand) (ho:o.op=.load t x)
  (g:Nat) (te:TypeId) (cs:List Value) (hx:a.eval x=.pointer (some ⟨g,0,none⟩)) (hb:Blk w g te cs) (ha:∀w,(isAgg t).run P w=.ok true w) (hs:∀w,(sizeOf t).run P w=.ok cs.length w)
  (h:wpList P ops Q rest (a.put o.dst (.agg cs.toArray)) w):wpList P ops Q (o::rest) a w :=
 wpList_plain hgd fun K hK=>by
  unfold Oper.wp execOp;simp only [ho,Sem.run_bind,Sem.run_pure,Result.andThen_ok,hx,Yq hb ha hs];exact hK _ _ h
theorem Za {ops:Array Oper} {rest:List Oper} {o:Oper} {a:Act} {Q:Exit->Act->World->Prop} (hgd:o.guard=none) (t:TypeId) (x y:Operand) (ho:o.op=.store t x y)
  (g:Nat) (te:TypeId) (cs ds:List Value) (hx:a.eval x=.pointer (some ⟨g,0,none⟩)) (hy:a.eval y=.agg ds.toArray) (H:Sp w0 (Bk g te cs::L) w) (hl:ds.length=cs.length) (ha:∀w,(sizeOf t).run P w=.ok ds.length w) (h1:∀v ∈ ds,v.oneCell'=true)
  (h:∀w',Sp w0 (Bk g te ds::L) w'->wpList P ops Q rest (a.put o.dst undef) w'):wpList P ops Q (o::rest) a w :=
 wpList_plain hgd fun K hK=>by
  unfold Oper.wp execOp;simp only [ho,Sem.run_bind,Sem.run_pure,Result.andThen_ok,hx,hy,Yg (H.blk 0 rfl) hl ha h1];exact hK _ _ (h _ (H.put _))
theorem wpList_make_sp {ops:Array Oper} {rest:List Oper} {o:Oper} {a:Act} {Q:Exit->Act->World->Prop} (hg:o.guard=none) (l c:Operand) (t:TypeId) (hop:o.op=Op.makeSlice t l c)
  (e:TypeId) (i:TypeInfo) (z:Value) (h1:P.underlying t=some (.slice e)) (h2:P.info? e=some i) (h3:i.zero=some z) (h4:i.size=1) (hz1:z.cells=#[z])
  (n:Nat) (hl:a.eval l=.int .i64 n) (hc:a.eval c=.int .i64 n) (b2:i.bytes * n<=281474976710656) (b3:n<=maxLen) (H:Sp w0 L w)
  (hK:∀(ad:Addr) w',Sp w0 (Row e 1 (.slice (some ad) n n) n (List.replicate n z)::L) w'->wpList P ops Q rest (a.put o.dst (.slice (some ad) n n)) w') :
  wpList P ops Q (o::rest) a w:=by
 refine wpList_plain hg fun K hK'=>?_;have b:=run_make (P:=P) w t e i z h1 h2 h3 .i64 .i64 (n:Int) (n:Int) (by omega) (Int.le_refl _) (by rw [<- Int.natCast_mul]; omega) (by have h3:=b3; unfold maxLen at h3; omega);rw [hz1,h4,Nat.mul_one,show((n:Int)).toNat=n from rfl] at b;have d:=(H.newBk (List.replicate n z) e).bkRow 1 n (by rw [List.length_replicate,Nat.mul_one]) b3;unfold Oper.wp;simp [execOp,hop,hl,hc,b,Result.andThen];refine hK' _ _ (hK _ _ ?_);have f:madeCells #[z] n=(List.replicate n z).toArray:=by rw [<- toList_madeCells_one]
 rw [f];exact d
end
end Go.Proofs.YteajimobgkempaaDoor

