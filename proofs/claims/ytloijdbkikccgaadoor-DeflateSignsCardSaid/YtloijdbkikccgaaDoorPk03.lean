/- A pack of texts: Lib2 Stable Lib3 BytesRep Lib4 Pack HuffPlain HuffA HuffB HuffC. -/
import Derived.Laws.CopyRow
import Derived.Lib.MakeNoZero
import Derived.Lib.SlBuf
import Derived.Shelf.Bits.Mul64
import Derived.Test.YtloijdbkikccgaaDoorPk02
namespace Go.Proofs.YtloijdbkikccgaaDoor
open Go.RowKit
theorem Sp.row_rd {w0 w:World} {L:List Pr} (H:Sp w0 L w) (k:Nat) {e:TypeId} {z n:Nat} {v:Value} {xs:List Value} (hk:L[k]?=some (Row e z v n xs)) :
  ∃A c,v=.slice A n c/\Rd w A xs/\n<=c/\c<=maxLen:=by
 have h:=H.owns k hk
 rcases h.2 with ⟨rfl,rfl⟩ | ⟨g,cap,cur,rfl,hb,hh,h1,h2,h3,h4⟩
 ·have:xs=[]:=List.eq_nil_of_length_eq_zero (by simpa using h.1)
  subst this
  exact⟨none,0,rfl,Rd.nil,Nat.le_refl _,by simp [maxLen]⟩
 ·refine⟨_,_,rfl,fun _=>⟨_,rfl,fun j u hu=>?_⟩,h1,h2⟩
  have hj:j<n * z:=by
   have:=(List.getElem?_eq_some_iff.1 hu).1
   rw [h.1] at this
   exact this
  have e1:(Addr.add ⟨g,0,none⟩ j)=⟨g,j,none⟩:=by
   unfold Addr.add; split
   ·rename_i h0; subst h0; rfl
   ·simp
  rw [e1,h.cellAt j hj]
  exact hu
theorem Rd.part {w:World} {A:Option Addr} {xs:List Value} (h:Rd w A xs) (q k:Nat):Rd w (A.map (·.add q)) ((xs.drop q).take k):=fun hn=>by
 obtain⟨ad,rfl,hc⟩:=h (by rintro rfl; simp at hn)
 refine⟨ad.add q,rfl,fun j u hu=>?_⟩
 rw [List.getElem?_take] at hu
 split at hu
 ·rw [List.getElem?_drop] at hu
  rw [Go.Addr.add_add]
  exact hc _ u hu
 ·cases hu
theorem Sp.rowSet {w0 w:World} {L:List Pr} {e:TypeId} {n i:Nat} {v:Value} {xs:List Value} (H:Sp w0 (Row e 1 v n xs::L) w) (hi:i<n) :
  ∃ad c,v=.slice (some ad) n c/\n<=c/\w.cell? (ad.add i)=xs[i]?/\w.frozen? (ad.add i)=false/\∀u,Sp w0 (Row e 1 v n (xs.set i u)::L) (w.setCell (ad.add i) u):=by
 have h:=H.owns 0 rfl
 rcases h.2 with ⟨rfl,rfl⟩ | ⟨g,cap,cur,rfl,_,hh,h1,h2,h3,h4⟩
 ·omega
 ·have e1:(Addr.add ⟨g,0,none⟩ i)=⟨g,i,none⟩:=by
   unfold Addr.add; split
   ·rename_i h0; subst h0; rfl
   ·simp
  refine⟨⟨g,0,none⟩,cap,rfl,h1,?_,?_,fun u=>?_⟩
  ·rw [e1,h.cellAt i (by omega)]
  ·rw [e1]; simp [World.frozen?,hh]
  ·rw [e1]
   have hb' : (w.setCell ⟨g,i,none⟩ u).heap[g]?=some (.cells (cur.setIfInBounds i u) e (0,0)):=by
    simp [World.setCell,Array.getElem?_modify,hh]
   refine H.turn rfl rfl rfl fun s hs=>?_
   have hsg:s g:=by
    rcases hs.2 with ⟨hv,_⟩ | ⟨g',cap',cur',hv,hg',_⟩
    ·cases hv
    ·injection hv with hv
     injection hv with hv
     injection hv with hv
     subst hv
     exact(rs_some hg').1
   refine⟨fun b _ hsb=>Below.heap_setCell _ _ _ _ (by rintro rfl; exact hsb hsg),by simpa using h.1,.inr ⟨g,cap,cur.setIfInBounds i u,rfl,(rs_pos (.inl hsg)).trans hb',h1,h2,by simpa using h3,?_⟩⟩
   rw [Array.toList_setIfInBounds,List.take_set,h4]
theorem Ent.of_same {w1:World} {L:List Pr} {φ:World->Prop} (k:Nat) (hk:L[k]?=some (Same w1)) (h:∀w,(∀b,b<w1.heap.size->w.heap[b]?=w1.heap[b]?)->φ w):Ent L φ:=fun w0 w H=>h w fun b hb=>by
 obtain⟨_,_,_,own,hs⟩:=H
 have h5:=hs k _ hk b hb
 rw [Array.getElem?_eq_getElem hb] at h5 ⊢
 exact(rs_some h5).2
namespace SS
variable {α:Type} (key:α->Int)
def put:List α->α->List α
 | [],p=>[p]
 | x::l,p=>if key x<=key p then x::put l p else p::x::l
def mrg (u v:List α):List α:=v.foldl (put key) u
def isort (l:List α):List α:=mrg key [] l
def Srt (l:List α):Prop:=l.Pairwise fun x y=>key x<=key y
variable {key}
theorem mem_put {l:List α} {p z:α} : z ∈ put key l p↔z=p∨z ∈ l:=by
 induction l with
 | nil=>simp [put]
 | cons x l ih =>
  unfold put
  split
  ·rw [List.mem_cons,ih,List.mem_cons]; constructor
   ·rintro(h | h | h)
    ·exact .inr (.inl h)
    ·exact .inl h
    ·exact .inr (.inr h)
   ·rintro(h | h | h)
    ·exact .inr (.inl h)
    ·exact .inl h
    ·exact .inr (.inr h)
  ·rw [List.mem_cons]
theorem len_put (l:List α) (p:α):(put key l p).length=l.length+1:=by
 induction l with
 | nil=>rfl
 | cons x l ih =>
  unfold put
  split
  ·rw [List.length_cons,ih,List.length_cons]
  ·rfl
theorem srt_put {l:List α} (h:Srt key l) (p:α):Srt key (put key l p):=by
 induction l with
 | nil=>exact List.pairwise_singleton _ _
 | cons x l ih =>
  have h2:=List.pairwise_cons.1 h
  unfold put
  split
  ·rename_i hx
   refine List.pairwise_cons.2 ⟨fun z hz=>?_,ih h2.2⟩
   rcases mem_put.1 hz with rfl | hz
   ·exact hx
   ·exact h2.1 z hz
  ·rename_i hx
   refine List.pairwise_cons.2 ⟨fun z hz=>?_,h⟩
   rcases List.mem_cons.1 hz with rfl | hz
   ·omega
   ·have:=h2.1 z hz; omega
theorem mem_mrg {u v:List α} {z:α} : z ∈ mrg key u v↔z ∈ u∨z ∈ v:=by
 unfold mrg
 induction v generalizing u with
 | nil=>simp
 | cons y v ih =>
  rw [List.foldl_cons,ih,mem_put,List.mem_cons]; constructor
  ·rintro((h | h) | h)
   ·exact .inr (.inl h)
   ·exact .inl h
   ·exact .inr (.inr h)
  ·rintro(h | h | h)
   ·exact .inl (.inr h)
   ·exact .inl (.inl h)
   ·exact .inr h
theorem len_mrg (u v:List α):(mrg key u v).length=u.length+v.length:=by
 unfold mrg
 induction v generalizing u with
 | nil=>simp
 | cons y v ih=>rw [List.foldl_cons,ih,len_put,List.length_cons]; omega
theorem srt_mrg {u:List α} (h:Srt key u) (v:List α):Srt key (mrg key u v):=by
 unfold mrg
 induction v generalizing u with
 | nil=>exact h
 | cons y v ih=>exact ih (srt_put h y)
theorem srt_isort (l:List α):Srt key (isort key l):=srt_mrg List.Pairwise.nil l
theorem len_isort (l:List α):(isort key l).length=l.length:=by unfold isort; rw [len_mrg]; simp
theorem mem_isort {l:List α} {z:α} : z ∈ isort key l↔z ∈ l:=by unfold isort; rw [mem_mrg]; simp
theorem mrg_app (u v w:List α):mrg key u (v++w)=mrg key (mrg key u v) w:=List.foldl_append
theorem isort_snoc (l:List α) (x:α):isort key (l++[x])=put key (isort key l) x:=mrg_app _ _ _
theorem isort_app (l m:List α):isort key (l++m)=mrg key (isort key l) m:=mrg_app _ _ _
theorem put_back {s t:List α} {y:α} (h:∀x ∈ s,key x<=key y):put key (s++t) y=s++put key t y:=by
 induction s with
 | nil=>rfl
 | cons x s ih =>
  show(if key x<=key y then x::put key (s++t) y else _)=_
  rw [if_pos (h x (List.mem_cons_self ..)),ih fun z hz=>h z (List.mem_cons_of_mem _ hz)]; rfl
theorem put_end {s:List α} {y:α} (h:∀x ∈ s,key x<=key y):put key s y=s++[y]:=by
 have:=put_back (t:=[]) h
 rwa [List.append_nil] at this
theorem put_front {t:List α} {y:α} (h:∀x ∈ t,key y<key x):put key t y=y::t:=by
 cases t with
 | nil=>rfl
 | cons x t =>
  show(if key x<=key y then _ else y::x::t)=_
  rw [if_neg (by have:=h x (List.mem_cons_self ..); omega)]
theorem put_ahead {s t:List α} {y:α} (h:∀x ∈ t,key y<key x):put key (s++t) y=put key s y++t:=by
 induction s with
 | nil=>exact put_front h
 | cons x s ih =>
  show(if key x<=key y then x::put key (s++t) y else y::x::(s++t))=(if key x<=key y then x::put key s y else y::x::s)++t
  split
  ·rw [ih]; rfl
  ·rfl
theorem put_at {s t:List α} {y:α} (h1:∀x ∈ s,key x<=key y) (h2:∀x ∈ t,key y<key x):put key (s++t) y=s++y::t:=by
 rw [put_back h1,put_front h2]
theorem mrg_nil {v:List α} (h:Srt key v):mrg key [] v=v:=by
 suffices ∀u,Srt key (u++v)->mrg key u v=u++v from this [] h
 induction v with
 | nil=>intro u _; simp [mrg]
 | cons y v ih =>
  intro u hu
  have h1:put key u y=u++[y]:=put_end fun x hx=>(List.pairwise_append.1 hu).2.2 x hx y (List.mem_cons_self ..)
  show mrg key (put key u y) v=_
  rw [h1,ih (List.pairwise_cons.1 h).2 (u++[y]) (by rw [List.append_assoc]; exact hu),List.append_assoc]; rfl
theorem mrg_ahead {u t v:List α} (h:∀x ∈ t,∀y ∈ v,key y<key x):mrg key (u++t) v=mrg key u v++t:=by
 unfold mrg
 induction v generalizing u with
 | nil=>rfl
 | cons y v ih =>
  rw [List.foldl_cons,put_ahead fun x hx=>h x hx y (List.mem_cons_self ..),ih fun x hx z hz=>h x hx z (List.mem_cons_of_mem _ hz)]; rfl
theorem mrg_back {s u v:List α} (h:∀x ∈ s,∀y ∈ v,key x<=key y):mrg key (s++u) v=s++mrg key u v:=by
 unfold mrg
 induction v generalizing u with
 | nil=>rfl
 | cons y v ih =>
  rw [List.foldl_cons,put_back fun x hx=>h x hx y (List.mem_cons_self ..),ih fun x hx z hz=>h x hx z (List.mem_cons_of_mem _ hz)]; rfl
theorem mrg_split {u1 u2 v1 v2:List α} (hv:Srt key (v1++v2)) (h1:∀x ∈ u1,∀y ∈ v2,key x<=key y) (h2:∀x ∈ u2,∀y ∈ v1,key y<key x) :
  mrg key (u1++u2) (v1++v2)=mrg key u1 v1++mrg key u2 v2:=by
 rw [mrg_app,mrg_ahead h2,mrg_back]
 intro x hx y hy
 rcases mem_mrg.1 hx with hx | hx
 ·exact h1 x hx y hy
 ·exact(List.pairwise_append.1 hv).2.2 x hx y hy
theorem put_comm (u:List α) {x y:α} (h:key y<key x):put key (put key u y) x=put key (put key u x) y:=by
 induction u with
 | nil =>
  show(if key y<=key x then y::[x] else x::y::[])=(if key x<=key y then x::[y] else y::x::[])
  rw [if_pos (by omega),if_neg (by omega)]
 | cons z u ih =>
  by_cases h1:key z<=key y
  ·have h2:key z<=key x:=by omega
   simp only [put,if_pos h1,if_pos h2,ih]
  ·by_cases h2:key z<=key x
   ·have h3:key y<=key x:=by omega
    simp only [put,if_neg h1,if_pos h2,if_pos h3]
   ·have h3:key y<=key x:=by omega
    have h4:¬ key x<=key y:=by omega
    simp only [put,if_neg h1,if_neg h2,if_pos h3,if_neg h4]
theorem mrg_comm (u:List α) {v:List α} {y:α} (h:∀x ∈ v,key y<key x):mrg key (put key u y) v=put key (mrg key u v) y:=by
 unfold mrg
 induction v generalizing u with
 | nil=>rfl
 | cons x v ih =>
  rw [List.foldl_cons,List.foldl_cons,put_comm u (h x (List.mem_cons_self ..)),ih _ fun z hz=>h z (List.mem_cons_of_mem _ hz)]
theorem mrg_put (u:List α) {v:List α} (hv:Srt key v) (y:α):mrg key u (put key v y)=put key (mrg key u v) y:=by
 induction v generalizing u with
 | nil=>rfl
 | cons x v ih =>
  have h2:=List.pairwise_cons.1 hv
  by_cases h:key x<=key y
  ·rw [show put key (x::v) y=x::put key v y from if_pos h]
   exact ih _ h2.2
  ·rw [show put key (x::v) y=y::x::v from if_neg h]
   refine mrg_comm u fun z hz=>?_
   rcases List.mem_cons.1 hz with rfl | hz
   ·omega
   ·have:=h2.1 z hz; omega
theorem mrg_isort (u l:List α):mrg key u (isort key l)=mrg key u l:=by
 suffices ∀m:List α,l=m.reverse->mrg key u (isort key l)=mrg key u l from this l.reverse (by simp)
 intro m
 induction m generalizing l with
 | nil=>rintro rfl; rfl
 | cons x m ih =>
  rintro rfl
  rw [List.reverse_cons,isort_snoc,mrg_put u (srt_isort _),ih _ rfl,mrg_app]; rfl
theorem mrg_isorts (x y:List α):mrg key (isort key x) (isort key y)=isort key (x++y):=by rw [mrg_isort,isort_app]
theorem isort_isort (l:List α):isort key (isort key l)=isort key l:=mrg_isort [] l
inductive Chs (key:α->Int) (s:Nat):Nat->List α->List α->Prop
 | nil:Chs key s 0 [] []
 | cons {k:Nat} {x d l:List α} : x.length=s->Chs key s k d l->Chs key s (k+1) (isort key x++d) (x++l)
theorem Chs.len {s k:Nat} {d l:List α} (h:Chs key s k d l):d.length=k * s/\l.length=k * s:=by
 induction h with
 | nil=>simp
 | cons hx _ ih=>rw [List.length_append,List.length_append,len_isort,hx,ih.1,ih.2,Nat.succ_mul]; omega
theorem Chs.snoc {s k:Nat} {d l x:List α} (h:Chs key s k d l) (hx:x.length=s):Chs key s (k+1) (d++isort key x) (l++x):=by
 induction h with
 | nil =>
  have:=Chs.cons (key:=key) hx Chs.nil
  rwa [List.append_nil,List.append_nil] at this
 | cons hy _ ih=>rw [List.append_assoc,List.append_assoc]; exact Chs.cons hy ih
theorem Chs.inv {s k:Nat} {d l:List α} (h:Chs key s (k+1) d l):∃x d' l',x.length=s/\d=isort key x++d'/\l=x++l'/\Chs key s k d' l':=by
 cases h with
 | cons hx h=>exact⟨_,_,_,hx,rfl,rfl,h⟩
theorem Chs.zero {s:Nat} {d l:List α} (h:Chs key s 0 d l):d=[]/\l=[]:=by cases h; exact⟨rfl,rfl⟩
theorem Chs.end_ {s k:Nat} {d l y:List α} (h:Chs key s k d l) (hn:l.length+y.length<=s):d++isort key y=isort key (l++y):=by
 cases k with
 | zero=>obtain⟨rfl,rfl⟩:=h.zero; rfl
 | succ k =>
  obtain⟨x,d',l',hx,rfl,rfl,h2⟩:=h.inv
  have hl:=h2.len
  rw [List.length_append,hx] at hn
  have h0:y=[]:=List.eq_nil_of_length_eq_zero (by omega)
  have h1:l'=[]:=List.eq_nil_of_length_eq_zero (by omega)
  have h3:d'=[]:=List.eq_nil_of_length_eq_zero (by rw [hl.1,<- hl.2,h1]; rfl)
  subst h0 h1 h3
  simp [isort,mrg]
def sw (d:α) (l:List α) (i j:Nat):List α:=(l.set i (l.getD j d)).set j (l.getD i d)
theorem getD_app (d:α) (a b:List α) (x:α) {i:Nat} (h:a.length=i):(a++x::b).getD i d=x:=by
 subst h
 rw [List.getD_eq_getElem?_getD,List.getElem?_append_right (Nat.le_refl _),Nat.sub_self]; rfl
theorem set_app (a b:List α) (x y:α) {i:Nat} (h:a.length=i):(a++x::b).set i y=a++y::b:=by
 subst h
 rw [List.set_append_right _ _ (Nat.le_refl _),Nat.sub_self]; rfl
theorem sw_app (d:α) (a b c:List α) (x y:α) {i j:Nat} (hi:a.length=i) (hj:a.length+1+b.length=j):sw d (a++x::b++y::c) i j=a++y::b++x::c:=by
 have e1:a++x::b++y::c=a++x::(b++y::c):=by simp
 have e2:∀z,a++z::b++y::c=(a++z::b)++y::c:=fun z=>rfl
 unfold sw
 rw [getD_app d (a++x::b) c y (by rw [List.length_append,List.length_cons]; omega),e1,getD_app d a _ x hi,set_app a _ x y hi]
 have e3:a++y::(b++y::c)=(a++y::b)++y::c:=by simp
 rw [e3,set_app (a++y::b) c y x (by rw [List.length_append,List.length_cons]; omega)]
theorem sw_comm (d:α) (l:List α) (i j:Nat) (h:i≠j):sw d l i j=sw d l j i:=by
 unfold sw
 rw [List.set_comm _ _ h]
end SS
theorem run_lit {P:Program} (w:World) (t e te:TypeId) (ht:P.underlying t=some (.slice e)) (he:P.underlying e=some (.int .u8)) (g n c:Nat) (cs:Array Value) (h:w.heap[g]?=some (.cells cs te (0,0))) :
  (convert t t (.slice (some ⟨g,0,none⟩) n c)).run P w=.ok (.slice (some ⟨g,0,none⟩) n c) { w with heap:=w.heap.setIfInBounds g (.cells cs te (cs.size,cs.size+1)) }:=by
 have hm:w.heap.modify g (fun | .cells c elem (lo,hi)=>.cells c elem (if lo == hi then (cs.size,cs.size+1) else (min lo cs.size,max hi (cs.size+1))) | o=>o)=w.heap.setIfInBounds g (.cells cs te (cs.size,cs.size+1)):=by
  have hg:=(Array.getElem?_eq_some_iff.1 h).1
  apply Array.ext_getElem?
  intro i
  rw [Array.getElem?_modify,Array.getElem?_setIfInBounds]
  by_cases hi:g=i
  ·subst hi
   rw [if_pos rfl,if_pos rfl,if_pos hg,h]
   rfl
  ·rw [if_neg hi,if_neg hi]
 have hs:(shape g).run P w=.ok (some (te,cs.size)) w:=by
  simp [shape,Sem.run,World.shape?,h]
 have hf:(freeze ⟨g,cs.size,none⟩ 1).run P w=.ok () (w.freeze ⟨g,cs.size,none⟩ 1):=rfl
 have hw:w.freeze ⟨g,cs.size,none⟩ 1={ w with heap:=w.heap.setIfInBounds g (.cells cs te (cs.size,cs.size+1)) }:=by
  unfold World.freeze
  rw [if_neg (by decide)]
  exact congrArg (fun x=>{ w with heap:=x }) hm
 simp [convert,run_underlying ht,run_underlying he,markStringish,hs,Result.andThen,hf,hw]
def Lit (g:Nat) (l:List UInt8):Pr:=Is g (.cells (cells8 l).toArray 5 (l.length,l.length+1))
theorem lit_ok {w0 w:World} {L:List Pr} (H:Sp w0 L w) (l:List UInt8):∃w1,(∀n,n=l.length->Sem.run Tryd.prog (convert 25 25 (.slice (some ⟨w.heap.size,0,none⟩) n n)) (w.alloc (.cells (cells8 l).toArray 5))=.ok (.slice (some ⟨w.heap.size,0,none⟩) n n) w1)/\Sp w0 (Lit w.heap.size l::L) w1:=by
 have H1:=H.newBk (cells8 l) 5
 refine⟨_,fun n _=>run_lit _ _ 5 5 Tryd.underlying25 Tryd.underlying5 _ _ _ _ (H1.is_ 0 rfl),?_⟩
 have h:=H1.put (.cells (cells8 l).toArray 5 ((cells8 l).toArray.size,(cells8 l).toArray.size+1))
 have e:(cells8 l).toArray.size=l.length:=by simp [cells8]
 rw [e] at h ⊢
 exact h
theorem Sp.lit {w0 w:World} {L:List Pr} (H:Sp w0 L w) (k:Nat) {g:Nat} {l:List UInt8} (hk:L[k]?=some (Lit g l)) (hl:l.length<=maxLen):Byt w (.slice (some ⟨g,0,none⟩) l.length l.length) l:=by
 have h:=H.is_ k hk
 refine⟨_,_,rfl,fun _=>⟨_,rfl,fun j u hu=>?_⟩,Nat.le_refl _,hl⟩
 have e1:(Addr.add ⟨g,0,none⟩ j)=⟨g,j,none⟩:=by
  unfold Addr.add; split
  ·rename_i h0; subst h0; rfl
  ·simp
 rw [e1]
 simp [World.cell?,h,hu]
theorem setRow_put (w:World) (g:Nat) (cur cs:Array Value) (t:TypeId) (fr:Nat × Nat) (hg:w.heap[g]?=some (.cells cur t fr)):w.setRow g cs={ w with heap:=w.heap.setIfInBounds g (.cells cs t fr) }:=by
 unfold World.setRow
 refine congrArg (fun x=>{ w with heap:=x }) ?_
 have hl:=(Array.getElem?_eq_some_iff.1 hg).1
 apply Array.ext_getElem?
 intro i
 rw [Array.getElem?_modify,Array.getElem?_setIfInBounds]
 by_cases hi:g=i
 ·subst hi
  rw [if_pos rfl,if_pos rfl,if_pos hl,hg]
  rfl
 ·rw [if_neg hi,if_neg hi]
def RB (g n:Nat) (c:UInt8) (bp:Nat):Pr:=Ex fun cur:Array Value=>Ex fun(_:n<=cur.size/\bp<=n/\cur.toList.take bp=cells8 (List.replicate bp c))=>Is g (.cells cur 5 (0,0))
theorem RB.rd {w0 w:World} {L:List Pr} {g n bp:Nat} {c:UInt8} (H:Sp w0 (RB g n c bp::L) w):Rd w (some ⟨g,0,none⟩) (cells8 (List.replicate bp c)):=by
 obtain⟨cur,H⟩:=H.unex
 obtain⟨⟨h1,h2,h3⟩,H⟩:=H.unex
 have hh:=H.is_ 0 rfl
 refine fun _=>⟨_,rfl,fun j u hu=>?_⟩
 have e1:(Addr.add ⟨g,0,none⟩ j)=⟨g,j,none⟩:=by
  unfold Addr.add; split
  ·rename_i h0; subst h0; rfl
  ·simp
 rw [e1]
 have hj:j<bp:=by
  have:=(List.getElem?_eq_some_iff.1 hu).1
  simpa [cells8] using this
 rw [<- h3,List.getElem?_take_of_lt hj] at hu
 simp [World.cell?,hh]
 simpa using hu
theorem RB.copy {w0 w:World} {L:List Pr} {g n bp k:Nat} {c:UInt8} (H:Sp w0 (RB g n c bp::L) w) (a:Addr) (sLen sCap dCap:Nat) (ty:TypeId) (hk:k=min sLen (n - bp))
  (hsrc:∀j u,(cells8 (List.replicate k c))[j]?=some u->w.cell? (a.add j)=some u) :
  ∃w',(Builtin.copy_ #[25,25] ty #[.slice (some ⟨g,bp,none⟩) (n - bp) dCap,.slice (some a) sLen sCap]).run Tryd.prog w=.ok (.int .i64 (k:Int)) w'/\Sp w0 (RB g n c (bp+k)::L) w':=by
 obtain⟨i0,hi0,hz0,hz1,hz2⟩:=info_parts info8
 obtain⟨cur,H⟩:=H.unex
 obtain⟨⟨h1,h2,h3⟩,H⟩:=H.unex
 have hg:=H.is_ 0 rfl
 have hl:(cells8 (List.replicate k c)).length=k:=by simp [cells8]
 have hr:=run_copy_row (P:=Tryd.prog) w 25 25 ty 5 g bp (n - bp) dCap a sLen sCap cur 5 (cells8 (List.replicate k c)) Tryd.underlying25 (by rw [hi0]; simp [hz1]) hg (by rw [hl]; exact hk) hsrc (by rw [hl]; omega) (cells8_one _)
 rw [hl] at hr
 refine⟨_,hr,?_⟩
 rw [setRow_put w g cur _ _ _ hg]
 refine Sp.ex _ (Sp.ex ⟨?_,?_,?_⟩ (H.put _))
 ·simp [hl]; omega
 ·omega
 ·show List.take (bp+k) (cur.toList.take bp++cells8 (List.replicate k c)++cur.toList.drop (bp+k))=_
  have e1:(cur.toList.take bp++cells8 (List.replicate k c)).length=bp+k:=by
   rw [List.length_append,hl,List.length_take]
   simp only [Array.length_toList]
   omega
  rw [List.take_append_of_le_length (by omega),List.take_of_length_le (by omega),h3,<- List.replicate_append_replicate]
  exact List.map_append.symm
section
variable {P:Program}
theorem addr_zero (g j:Nat):(⟨g,0,none⟩:Addr).add j=⟨g,j,none⟩:=by
 unfold Addr.add; split
 ·rename_i h0; subst h0; rfl
 ·simp
theorem run_load_whole {w:World} {g:Nat} {t te:TypeId} {cs:List Value} (hb:Blk w g te cs) (ha:∀w,(isAgg t).run P w=.ok true w) (hs:∀w,(sizeOf t).run P w=.ok cs.length w) :
  (Instr.loadAt t (.pointer (some ⟨g,0,none⟩))).run P w=.ok (.agg cs.toArray) w:=by
 have hl:=run_loadCells_list (P:=P) w ⟨g,0,none⟩ cs (fun j v hj=>by rw [addr_zero,hb.cell]; exact hj)
 simp [Instr.loadAt,Instr.sureAddr,loadVar,ha,hs,hl,Result.andThen]
theorem run_store_whole {w:World} {g:Nat} {t te:TypeId} {cs ds:List Value} (hb:Blk w g te cs) (hl:ds.length=cs.length) (ha:∀w,(sizeOf t).run P w=.ok ds.length w) (h1:∀v ∈ ds,v.oneCell'=true) :
  (Instr.storeAt t (.pointer (some ⟨g,0,none⟩)) (.agg ds.toArray)).run P w=.ok () { w with heap:=w.heap.setIfInBounds g (.cells ds.toArray te (0,0)) }:=by
 have hst:=run_storeCells_at P g 0 te ds 0 cs.toArray w hb (by simp; omega) h1
 rw [setRow_put w g _ _ _ _ hb] at hst
 have e:(List.take (0+0) cs.toArray.toList++ds++List.drop (0+0+ds.length) cs.toArray.toList).toArray=ds.toArray:=by
  simp [hl]
 rw [e] at hst
 simp [Instr.storeAt,Instr.sureAddr,storeVar,ha,hst,Result.andThen,Value.cells]
theorem wpList_load_whole {w:World} {ops:Array Oper} {rest:List Oper} {o:Oper} {a:Act} {Q:Exit->Act->World->Prop} (hgd:o.guard=none) (t:TypeId) (x:Operand) (ho:o.op=.load t x)
  (g:Nat) (te:TypeId) (cs:List Value) (hx:a.eval x=.pointer (some ⟨g,0,none⟩)) (hb:Blk w g te cs) (ha:∀w,(isAgg t).run P w=.ok true w) (hs:∀w,(sizeOf t).run P w=.ok cs.length w)
  (h:wpList P ops Q rest (a.put o.dst (.agg cs.toArray)) w):wpList P ops Q (o::rest) a w :=
 wpList_plain hgd fun K hK=>by
  unfold Oper.wp execOp
  simp only [ho,Sem.run_bind,Sem.run_pure,Result.andThen_ok,hx,run_load_whole hb ha hs]
  exact hK _ _ h
theorem wpList_store_whole {w0 w:World} {L:List Pr} {ops:Array Oper} {rest:List Oper} {o:Oper} {a:Act} {Q:Exit->Act->World->Prop} (hgd:o.guard=none) (t:TypeId) (x y:Operand) (ho:o.op=.store t x y)
  (g:Nat) (te:TypeId) (cs ds:List Value) (hx:a.eval x=.pointer (some ⟨g,0,none⟩)) (hy:a.eval y=.agg ds.toArray) (H:Sp w0 (Bk g te cs::L) w) (hl:ds.length=cs.length) (ha:∀w,(sizeOf t).run P w=.ok ds.length w) (h1:∀v ∈ ds,v.oneCell'=true)
  (h:∀w',Sp w0 (Bk g te ds::L) w'->wpList P ops Q rest (a.put o.dst undef) w'):wpList P ops Q (o::rest) a w :=
 wpList_plain hgd fun K hK=>by
  unfold Oper.wp execOp
  simp only [ho,Sem.run_bind,Sem.run_pure,Result.andThen_ok,hx,hy,run_store_whole (H.blk 0 rfl) hl ha h1]
  exact hK _ _ (h _ (H.put _))
theorem wpList_make_sp {w0 w:World} {L:List Pr} {ops:Array Oper} {rest:List Oper} {o:Oper} {a:Act} {Q:Exit->Act->World->Prop} (hg:o.guard=none) (l c:Operand) (t:TypeId) (hop:o.op=Op.makeSlice t l c)
  (e:TypeId) (i:TypeInfo) (z:Value) (h1:P.underlying t=some (.slice e)) (h2:P.info? e=some i) (h3:i.zero=some z) (h4:i.size=1) (hz1:z.cells=#[z])
  (n:Nat) (hl:a.eval l=.int .i64 (n:Int)) (hc:a.eval c=.int .i64 (n:Int)) (b2:i.bytes * n<=281474976710656) (b3:n<=maxLen) (H:Sp w0 L w)
  (hK:∀(ad:Addr) w',Sp w0 (Row e 1 (.slice (some ad) n n) n (List.replicate n z)::L) w'->wpList P ops Q rest (a.put o.dst (.slice (some ad) n n)) w') :
  wpList P ops Q (o::rest) a w:=by
 refine wpList_plain hg fun K hK'=>?_
 have hrun:=run_make (P:=P) w t e i z h1 h2 h3 .i64 .i64 (n:Int) (n:Int) (by omega) (Int.le_refl _) (by rw [<- Int.natCast_mul]; omega) (by have h3:=b3; unfold maxLen at h3; omega)
 rw [hz1,h4,Nat.mul_one,show((n:Int)).toNat=n from rfl] at hrun
 have hH:=(H.newBk (List.replicate n z) e).bkRow 1 n (by rw [List.length_replicate,Nat.mul_one]) b3
 unfold Oper.wp
 simp [execOp,hop,hl,hc,hrun,Result.andThen]
 refine hK' _ _ (hK _ _ ?_)
 have e2:madeCells #[z] n=(List.replicate n z).toArray:=by rw [<- toList_madeCells_one]
 rw [e2]
 exact hH
end
section
variable {P:Program}
theorem run_load_agg {w:World} {ad:Addr} {t:TypeId} {cs:List Value} (hc:∀j v,cs[j]?=some v->w.cell? (ad.add j)=some v) (ha:∀w,(isAgg t).run P w=.ok true w) (hs:∀w,(sizeOf t).run P w=.ok cs.length w) :
  (Instr.loadAt t (.pointer (some ad))).run P w=.ok (.agg cs.toArray) w:=by
 have hl:=run_loadCells_list (P:=P) w ad cs hc
 simp [Instr.loadAt,Instr.sureAddr,loadVar,ha,hs,hl,Result.andThen]
theorem wp_load_agg {w:World} {o:Oper} {a:Act} {K:Act->World->Prop} {Q:Exit->Act->World->Prop} (t:TypeId) (x:Operand) (ho:o.op=.load t x)
  (ad:Addr) (cs:List Value) (hx:a.eval x=.pointer (some ad)) (hc:∀j v,cs[j]?=some v->w.cell? (ad.add j)=some v) (ha:∀w,(isAgg t).run P w=.ok true w) (hs:∀w,(sizeOf t).run P w=.ok cs.length w)
  (h:K (a.put o.dst (.agg cs.toArray)) w):o.wp P a w K Q:=by
 unfold Oper.wp execOp
 simp only [ho,Sem.run_bind,Sem.run_pure,Result.andThen_ok,hx,run_load_agg hc ha hs]
 exact h
theorem wpList_load_agg {w:World} {ops:Array Oper} {rest:List Oper} {o:Oper} {a:Act} {Q:Exit->Act->World->Prop} (hgd:o.guard=none) (t:TypeId) (x:Operand) (ho:o.op=.load t x)
  (ad:Addr) (cs:List Value) (hx:a.eval x=.pointer (some ad)) (hc:∀j v,cs[j]?=some v->w.cell? (ad.add j)=some v) (ha:∀w,(isAgg t).run P w=.ok true w) (hs:∀w,(sizeOf t).run P w=.ok cs.length w)
  (h:wpList P ops Q rest (a.put o.dst (.agg cs.toArray)) w):wpList P ops Q (o::rest) a w :=
 wpList_plain hgd fun _ hK=>wp_load_agg t x ho ad cs hx hc ha hs (hK _ _ h)
theorem Sp.rowStore {w0 w:World} {L:List Pr} {e:TypeId} {z n i:Nat} {v:Value} {xs ds:List Value} (H:Sp w0 (Row e z v n xs::L) w) (hi:i<n) (hd:ds.length=z) (h1:∀v ∈ ds,v.oneCell'=true) :
  ∃ad c w',v=.slice (some ad) n c/\n<=c/\(storeCells (ad.add (i * z)) ds 0).run P w=.ok () w'/\Sp w0 (Row e z v n (xs.take (i * z)++ds++xs.drop (i * z+z))::L) w':=by
 have h:=H.owns 0 rfl
 rcases h.2 with ⟨rfl,rfl⟩ | ⟨g,cap,cur,rfl,_,hh,h2,h3,h4,h5⟩
 ·omega
 ·have e1:((⟨g,0,none⟩:Addr).add (i * z))=⟨g,i * z,none⟩:=addr_zero g _
  have hiz:i * z+z<=n * z:=by rw [<- Nat.succ_mul]; exact Nat.mul_le_mul_right _ hi
  have hnz:n * z<=cap * z:=Nat.mul_le_mul_right _ h2
  have hst:=run_storeCells_at P g (i * z) e ds 0 cur w hh (by rw [hd,h4]; omega) h1
  rw [setRow_put w g _ _ _ _ hh] at hst
  refine⟨⟨g,0,none⟩,cap,_,rfl,h2,by rw [e1]; exact hst,?_⟩
  have hg:=(Array.getElem?_eq_some_iff.1 hh).1
  refine H.turn rfl rfl rfl fun s hs=>?_
  have hsg:s g:=by
   rcases hs.2 with ⟨hv,_⟩ | ⟨g',cap',cur',hv,hg',_⟩
   ·cases hv
   ·injection hv with hv
    injection hv with hv
    injection hv with hv
    subst hv
    exact(rs_some hg').1
  have hxl:xs.length=n * z:=h.1
  refine⟨fun b _ hsb=>?_,?_,.inr ⟨g,cap,(cur.toList.take (i * z+0)++ds++cur.toList.drop (i * z+0+ds.length)).toArray,rfl,(rs_pos (.inl hsg)).trans ?_,h2,h3,?_,?_⟩⟩
  ·show(w.heap.setIfInBounds g _)[b]?=_
   rw [Array.getElem?_setIfInBounds,if_neg]
   rintro rfl
   exact hsb hsg
  ·rw [List.length_append,List.length_append,List.length_take,List.length_drop,hd,hxl]; omega
  ·show(w.heap.setIfInBounds g _)[g]?=_
   rw [Array.getElem?_setIfInBounds,if_pos rfl,if_pos hg]
  ·simp only [Nat.add_zero,List.size_toArray,List.length_append,List.length_take,List.length_drop,Array.length_toList,hd,h4]
   omega
  ·rw [Nat.add_zero,hd,<- h5,List.take_take,Nat.min_eq_left (by omega),List.drop_take]
   have e2:(cur.toList.take (i * z)++ds).length=i * z+z:=by rw [List.length_append,List.length_take,Array.length_toList,h4,hd]; omega
   rw [List.toList_toArray,List.take_append,e2,List.take_of_length_le (by omega)]
theorem run_store_agg {w w' : World} {ad:Addr} {t:TypeId} {ds:List Value} (hst:(storeCells ad ds 0).run P w=.ok () w') (ha:∀w,(sizeOf t).run P w=.ok ds.length w) :
  (Instr.storeAt t (.pointer (some ad)) (.agg ds.toArray)).run P w=.ok () w':=by
 simp [Instr.storeAt,Instr.sureAddr,storeVar,ha,hst,Result.andThen,Value.cells]
theorem wp_store_agg {w w' : World} {o:Oper} {a:Act} {K:Act->World->Prop} {Q:Exit->Act->World->Prop} (t:TypeId) (x y:Operand) (ho:o.op=.store t x y)
  (ad:Addr) (ds:List Value) (hx:a.eval x=.pointer (some ad)) (hy:a.eval y=.agg ds.toArray) (hst:(storeCells ad ds 0).run P w=.ok () w') (ha:∀w,(sizeOf t).run P w=.ok ds.length w)
  (h:K (a.put o.dst undef) w'):o.wp P a w K Q:=by
 unfold Oper.wp execOp
 simp only [ho,Sem.run_bind,Sem.run_pure,Result.andThen_ok,hx,hy,run_store_agg hst ha]
 exact h
end
structure PK where
 c:Int
 s:Int
 p:Option Nat
def PK.ptr (x:PK):Value:=.pointer (x.p.map fun g=>⟨g,0,none⟩)
def PK.cells (x:PK):List Value:=[.int .i64 x.c,.int .i64 x.s,x.ptr]
def PK.val (x:PK):Value:=.agg #[.int .i64 x.c,.int .i64 x.s,x.ptr]
theorem PK.one (x:PK):∀u ∈ x.cells,u.oneCell'=true:=by
 intro u hu
 simp only [PK.cells,List.mem_cons,List.not_mem_nil,or_false] at hu
 rcases hu with rfl | rfl | rfl <;> rfl
def pk0:PK:=⟨0,0,none⟩
def cellsK (l:List PK):List Value:=l.flatMap PK.cells
theorem cellsK_len (l:List PK):(cellsK l).length=l.length * 3:=by
 induction l with
 | nil=>rfl
 | cons x l ih =>
  show(x.cells++cellsK l).length=_
  rw [List.length_append,ih,List.length_cons]
  show 3+_=_
  omega
theorem cellsK_append (a b:List PK):cellsK (a++b)=cellsK a++cellsK b:=List.flatMap_append
theorem cellsK_one (l:List PK):∀u ∈ cellsK l,u.oneCell'=true:=by
 intro u hu
 obtain⟨x,_,hx⟩:=List.mem_flatMap.1 hu
 exact x.one u hx
theorem cellsK_get (l:List PK) (i j:Nat) (hi:i<l.length) (u:Value) (hj:(l.getD i pk0).cells[j]?=some u):(cellsK l)[i * 3+j]?=some u:=by
 induction l generalizing i with
 | nil=>simp at hi
 | cons x l ih =>
  have hj3:j<3:=by
   have:=(List.getElem?_eq_some_iff.1 hj).1
   exact this
  show(x.cells++cellsK l)[i * 3+j]?=_
  cases i with
  | zero =>
   rw [List.getElem?_append_left (by show _<3; omega),Nat.zero_mul,Nat.zero_add]
   exact hj
  | succ i =>
   rw [List.getElem?_append_right (by show 3<=_; omega),show(i+1) * 3+j - x.cells.length=i * 3+j by show _ - 3=_; omega]
   exact ih i (by simpa using hi) (by simpa using hj)
theorem cellsK_set (l:List PK) (i:Nat) (hi:i<l.length) (x:PK):(cellsK l).take (i * 3)++x.cells++(cellsK l).drop (i * 3+3)=cellsK (l.set i x):=by
 have h1:l=l.take i++l.getD i pk0::l.drop (i+1):=by
  rw [List.getD_eq_getElem?_getD,List.getElem?_eq_getElem hi]
  simp
 obtain⟨a,ha⟩:∃a,l.take i=a:=⟨_,rfl⟩
 obtain⟨b,hb⟩:∃b,l.drop (i+1)=b:=⟨_,rfl⟩
 rw [ha,hb] at h1
 have hal:a.length=i:=by rw [<- ha,List.length_take]; omega
 generalize l.getD i pk0=y at h1
 subst h1
 rw [SS.set_app a b y x hal,cellsK_append,cellsK_append]
 have e1:(cellsK a).length=i * 3:=by rw [cellsK_len,hal]
 rw [List.take_append_of_le_length (by omega),List.take_of_length_le (by omega),List.drop_append,e1]
 rw [List.drop_eq_nil_of_le (by omega),show i * 3+3 - i * 3=3 by omega]
 show cellsK a++x.cells++([]++(y.cells++cellsK b).drop 3)=cellsK a++(x.cells++cellsK b)
 rw [List.append_assoc]
 rfl
def RowK (v:Value) (l:List PK):Pr:=Row 141 3 v l.length (cellsK l)
theorem RowK.form {w0 w:World} {L:List Pr} (H:Sp w0 L w) (k:Nat) {v:Value} {l:List PK} (hk:L[k]?=some (RowK v l)):∃A c,v=.slice A l.length c/\l.length<=c/\c<=maxLen:=Row.form H k hk
theorem RowK.rd {w0 w:World} {L:List Pr} (H:Sp w0 L w) (k:Nat) {ad:Addr} {n c:Nat} {l:List PK} (hk:L[k]?=some (RowK (.slice (some ad) n c) l)) (i:Nat) (hi:i<l.length) :
  ∀j v,(l.getD i pk0).cells[j]?=some v->w.cell? ((ad.add (i * 3)).add j)=some v:=fun j v hj=>by
 obtain⟨A,c2,e,hr,_,_⟩:=H.row_rd k hk
 injection e with e
 obtain⟨ad',e2,hc⟩:=hr (by intro h0; have:=cellsK_len l; rw [h0] at this; simp at this; omega)
 rw [<- e] at e2
 injection e2 with e2
 subst e2
 rw [Go.Addr.add_add]
 exact hc _ _ (cellsK_get l i j hi v hj)
theorem RowK.store {w0 w:World} {L:List Pr} {ad:Addr} {n c i:Nat} {l:List PK} (x:PK) (H:Sp w0 (RowK (.slice (some ad) n c) l::L) w) (hi:i<l.length) :
  ∃w',(storeCells (ad.add (i * 3)) x.cells 0).run Tryd.prog w=.ok () w'/\Sp w0 (RowK (.slice (some ad) n c) (l.set i x)::L) w':=by
 obtain⟨ad',c',w',e,_,hr,H'⟩:=Sp.rowStore (P:=Tryd.prog) (ds:=x.cells) H hi rfl x.one
 injection e with e
 injection e with e
 subst e
 refine⟨w',hr,?_⟩
 rw [cellsK_set l i hi x] at H'
 unfold RowK
 rw [List.length_set]
 exact H'
namespace PH
def bad (n:Int):Bool:=decide (n<0∨15<n)
def may (l:List Int):Bool:=decide (l.length<=1024) && !l.any bad
def tal (l:List Nat) (n:Nat):Nat:=if n=0 then 0 else l.count n
theorem tal_le (l:List Nat) (n:Nat):tal l n<=l.length:=by
 unfold tal
 split
 ·exact Nat.zero_le _
 ·exact List.count_le_length
def share (l:List Nat):Nat->Nat
 | 0=>0
 | n+1=>share l n+tal l n * 2 ^ (15 - n)
theorem share_le (l:List Nat) (n:Nat):share l n<=n * (l.length * 32768):=by
 induction n with
 | zero=>exact Nat.zero_le _
 | succ n ih =>
  unfold share
  have h1:=tal_le l n
  have h2:2 ^ (15 - n)<=32768:=by
   have:(2:Nat) ^ (15 - n)<=2 ^ 15:=Nat.pow_le_pow_right (by omega) (by omega)
   exact this
  have h3:tal l n * 2 ^ (15 - n)<=l.length * 32768:=Nat.mul_le_mul h1 h2
  rw [Nat.succ_mul]
  omega
def sum (l:List Nat):Nat:=share l 16
def state (l:List Nat):Int:=if sum l<32768 then -1 else if 32768<sum l then 1 else 0
def fst (l:List Nat):Nat->Nat
 | 0=>0
 | 1=>0
 | n+2=>(fst l (n+1)+tal l (n+1)) * 2
theorem fst_share (l:List Nat) (n:Nat) (h1:1<=n) (h:n<=16):fst l n * 2 ^ (16 - n)=2 * share l n:=by
 induction n with
 | zero=>omega
 | succ n ih =>
  cases n with
  | zero =>
   show 0 * _=2 * (share l 0+tal l 0 * 2 ^ 15)
   simp [share,tal]
  | succ n =>
   have:=ih (by omega) (by omega)
   rw [show fst l (n+1+1)=(fst l (n+1)+tal l (n+1)) * 2 from rfl,show share l (n+1+1)=share l (n+1)+tal l (n+1) * 2 ^ (15 - (n+1)) from rfl]
   have e1:16 - (n+1)=(16 - (n+1+1))+1:=by omega
   have e2:15 - (n+1)=16 - (n+1+1):=by omega
   rw [e1,Nat.pow_succ] at this
   rw [e2]
   generalize 2 ^ (16 - (n+1+1))=p at this ⊢
   generalize fst l (n+1)=a at this ⊢
   generalize tal l (n+1)=b
   generalize share l (n+1)=c at this ⊢
   have h3:(a+b) * 2 * p=a * (p * 2)+2 * (b * p):=by
    rw [Nat.add_mul,Nat.add_mul,Nat.mul_assoc,Nat.mul_assoc b 2 p,Nat.mul_comm 2 p,<- Nat.mul_assoc b p 2,Nat.mul_comm (b * p) 2]
   rw [h3,this,Nat.mul_add]
theorem share_mono (l:List Nat) (n k:Nat) (h:n<=k):share l n<=share l k:=by
 obtain⟨d,rfl⟩:∃d,k=n+d:=⟨k - n,by omega⟩
 clear h
 induction d with
 | zero=>exact Nat.le_refl _
 | succ d ih=>rw [<- Nat.add_assoc,share]; omega
theorem fst_le (l:List Nat) (n:Nat) (h:n<=16) (hs:sum l<=32768):fst l n<=65536:=by
 rcases Nat.eq_zero_or_pos n with h0 | h0
 ·subst h0; exact Nat.zero_le _
 ·have h1:=fst_share l n h0 h
  have h2:=share_mono l n 16 h
  have h3:1<=2 ^ (16 - n):=Nat.one_le_two_pow
  have h4:fst l n * 1<=fst l n * 2 ^ (16 - n):=Nat.mul_le_mul_left _ h3
  unfold sum at hs
  omega
def codeAt (l:List Nat) (k:Nat):Nat:=if l.getD k 0=0 then 0 else fst l (l.getD k 0)+(l.take k).count (l.getD k 0)
def codes (l:List Nat):List Nat:=(List.range l.length).map (codeAt l)
def idx (l:List Nat) (n k:Nat):List Nat:=(List.range k).filter fun i=>l.getD i 0 == n
theorem idx_succ (l:List Nat) (n k:Nat):idx l n (k+1)=if l.getD k 0=n then idx l n k++[k] else idx l n k:=by
 unfold idx
 rw [List.range_succ,List.filter_append]
 have e:List.filter (fun i=>l.getD i 0 == n) [k]=if l.getD k 0=n then [k] else []:=by
  rw [List.filter_cons]
  by_cases h:l.getD k 0=n
  ·rw [if_pos h,if_pos (by rw [h]; exact beq_self_eq_true n)]; rfl
  ·rw [if_neg h,if_neg (by rw [beq_iff_eq]; exact h)]; rfl
 rw [e]
 split
 ·rfl
 ·rw [List.append_nil]
def rowsB (l:List Nat):Nat->List Nat
 | 0=>[]
 | n+1=>rowsB l n++idx l (n+1) l.length
def rows (l:List Nat):List Nat:=rowsB l 15
end PH
theorem Rd.at64 {w:World} {A:Option Addr} {l:List Int} (h:Rd w A (cells64 l)) {k:Nat} (hk:k<l.length) :
  ∃ad,A=some ad/\w.cell? (ad.add k)=some (.int .i64 l[k]):=by
 obtain⟨ad,e,hc⟩:=h.at_ (k:=k) (by simpa [cells64] using hk)
 exact⟨ad,e,by simpa [cells64] using hc⟩
theorem bad_ok (n:Int) (w:World):Calls Tryd.prog 161 #[.int .i64 n] w fun e w'=>e=.returned (.bool (PH.bad n))/\w=w':=by
 obtain⟨r,hr⟩:∃r,PH.bad n=r:=⟨_,rfl⟩
 have HR:=Lib.hid hr
 rw [hr]
 clear hr
 go_enter Tryd.func161,Tryd.ntmps161
 go_wp2
 all_goals (
  go_ret
  refine⟨ret_bool ?_,rfl⟩
  rw [<- HR.out]
  unfold PH.bad
  first
   | exact(decide_eq_true (by omega)).symm
   | exact(decide_eq_false (by omega)).symm
   | (rw [Bool.eq_iff_iff]; simp only [Bool.or_eq_true,decide_eq_true_eq]; done)
   | (rw [Bool.eq_iff_iff]; simp only [Bool.or_eq_true,decide_eq_true_eq]; omega))
set_option maxRecDepth 100000 in
theorem index_ok (A:Option Addr) (n c:Nat) (l:List Int) {w0 w:World} {L:List Pr} (H:Sp w0 L w) (hn:n=l.length) (hb:Ent L fun w=>Rd w A (cells64 l)) (hl:n<=1000000000) :
  Calls Tryd.prog 166 #[.slice A n c,.func (.func 161) #[] #[]] w fun e w'=>∃r:Int,e=.returned (.int .i64 r)/\(0<=r↔l.any PH.bad=true)/\Sp w0 L w':=by
 have HN:=Lib.hid hn
 have HB:=Lib.hid hb
 clear hn hb
 obtain⟨z,hz⟩:∃z,l.any PH.bad=z:=⟨_,rfl⟩
 rw [hz]
 have HZ:=Lib.hid hz
 clear hz
 go_enter Tryd.func166,Tryd.ntmps166
 go_wp2_with fail
 go_loopw [8] (fun iv wr=>∃i:Nat,iv=.int .i64 (i:Int)/\i<=n/\(l.take i).any PH.bad=false/\Sp w0 L wr) (fun iv _=>n - (intOf iv).toNat)
 case atStart=>exact⟨0,rfl,Nat.zero_le _,rfl,H⟩
 case round =>
  obtain⟨i,rfl,hi,hno,H⟩:=hrel
  have HNO:=Lib.hid hno
  clear hno
  by_cases hin:i<n
  ·have k1:(i:Int)<(n:Int):=by omega
   have hiX:i<l.length:=by rw [<- HN.out]; exact hin
   obtain⟨ad,rfl,hc⟩:=(HB.out _ _ H).at64 hiX
   obtain⟨x,hx⟩:∃x,l[i]=x:=⟨_,rfl⟩
   rw [hx] at hc
   have htk:(l.take (i+1)).any PH.bad=PH.bad x:=by
    rw [List.take_succ_eq_append_getElem hiX,List.any_append,HNO.out,hx]
    simp
   have HTK:=Lib.hid htk
   have hmem:x ∈ l:=by rw [<- hx]; exact List.getElem_mem hiX
   have HMEM:=Lib.hid hmem
   clear htk hx hmem
   go_wp2_with fail
   refine(bad_ok x _).mono ?_
   rintro _ _ ⟨rfl,rfl⟩
   cases hbx:PH.bad x
   ·rw [hbx] at HTK
    go_wp2_with fail
    go_roundw
    case rel=>exact⟨i+1,by go_num,by omega,HTK.out,H⟩
    case measure=>first | (simp [intOf]; omega) | simp [intOf]
   ·have HBX:=Lib.hid hbx
    clear hbx
    go_wp2_with fail
    go_ret
    exact⟨_,rfl,⟨fun _=>by rw [<- HZ.out]; exact List.any_eq_true.2 ⟨x,HMEM.out,HBX.out⟩,fun _=>by omega⟩,H⟩
  ·have k1:¬ (i:Int)<(n:Int):=by omega
   go_wp2_with fail
   go_ret
   have h0:=HNO.out
   rw [List.take_of_length_le (by rw [<- HN.out]; omega),HZ.out] at h0
   refine⟨_,rfl,?_,H⟩
   rw [h0]
   exact⟨fun h=>absurd h (by omega),fun h=>by cases h⟩
set_option maxRecDepth 100000 in
set_option maxHeartbeats 1000000 in
theorem contains_ok (A:Option Addr) (n c:Nat) (l:List Int) {w0 w:World} {L:List Pr} (H:Sp w0 L w) (hn:n=l.length) (hb:Ent L fun w=>Rd w A (cells64 l)) (hl:n<=1000000000) :
  Calls Tryd.prog 160 #[.slice A n c,.func (.func 161) #[] #[]] w fun e w'=>e=.returned (.bool (l.any PH.bad))/\Sp w0 L w':=by
 have hix:=index_ok A n c l H hn hb hl
 obtain⟨z,hz⟩:∃z,l.any PH.bad=z:=⟨_,rfl⟩
 rw [hz] at hix ⊢
 have HIX:=Lib.hid hix
 clear hix hz hb hn
 go_enter Tryd.func160,Tryd.ntmps160
 go_wp2_with fail
 refine HIX.out.mono ?_
 rintro _ w2 ⟨r,rfl,hr,H2⟩
 clear HIX
 by_cases h0:0<=r
 ·have h1:=hr.1 h0
  subst h1
  clear hr
  go_wp2
  go_ret
  exact⟨rfl,H2⟩
 ·have h1:z=false:=by
   cases z
   ·rfl
   ·exact absurd (hr.2 rfl) h0
  subst h1
  have k:decide (0<=r)=false:=decide_eq_false h0
  clear hr h0
  go_wp2
  go_ret
  exact⟨rfl,H2⟩
set_option maxRecDepth 100000 in
set_option maxHeartbeats 1000000 in
theorem hmay_ok (A:Option Addr) (n c:Nat) (l:List Int) {w0 w:World} {L:List Pr} (H:Sp w0 L w) (hn:n=l.length) (hb:Ent L fun w=>Rd w A (cells64 l)) (hl:n<=1000000000) :
  Calls Tryd.prog 143 #[.slice A n c] w fun e w'=>e=.returned (.bool (PH.may l))/\Sp w0 L w':=by
 have hc:=contains_ok A n c l H hn hb hl
 obtain⟨z,hz⟩:∃z,l.any PH.bad=z:=⟨_,rfl⟩
 obtain⟨m,hm⟩:∃m,PH.may l=m:=⟨_,rfl⟩
 rw [hz] at hc
 rw [hm]
 have HC:=Lib.hid hc
 have hmz:m=(decide (n<=1024) && !z):=by rw [<- hm,<- hz,hn]; rfl
 have HMZ:=Lib.hid hmz
 clear hc hz hm hmz hb hn
 by_cases h:n<=1024
 ·have k1:decide ((n:Int)<=1024)=true:=decide_eq_true (by omega)
  go_enter Tryd.func143,Tryd.ntmps143
  go_wp2_with fail
  refine HC.out.mono ?_
  rintro _ w2 ⟨rfl,H2⟩
  go_wp2
  go_ret
  exact⟨ret_bool (by rw [HMZ.out,decide_eq_true h]; rfl),H2⟩
 ·have k1:decide ((n:Int)<=1024)=false:=decide_eq_false (by omega)
  go_enter Tryd.func143,Tryd.ntmps143
  go_wp2
  go_ret
  exact⟨ret_bool (by rw [HMZ.out,decide_eq_false h]; rfl),H⟩
def cntV (f:Nat->Nat):List Value:=(List.range 16).map fun i=>.int .i64 (f i:Int)
theorem cntV_get (f:Nat->Nat) (i:Nat) (h:i<16):(cntV f)[i]?=some (.int .i64 (f i:Int)):=by
 unfold cntV
 rw [List.getElem?_map,List.getElem?_range h]
 rfl
theorem cntV_set (f:Nat->Nat) (x v:Nat):(cntV f).set x (.int .i64 (v:Int))=cntV fun i=>if i=x then v else f i:=by
 apply List.ext_getElem?
 intro i
 rw [List.getElem?_set]
 by_cases h:i<16
 ·rw [cntV_get _ _ h,cntV_get _ _ h]
  by_cases e:x=i
  ·subst e
   rw [if_pos rfl,if_pos (by simp [cntV]; exact h),if_pos rfl]
  ·rw [if_neg e,if_neg (fun h=>e h.symm)]
 ·have h1:(cntV f)[i]?=none:=List.getElem?_eq_none (by simp [cntV]; omega)
  have h2:(cntV fun i=>if i=x then v else f i)[i]?=none:=List.getElem?_eq_none (by simp [cntV]; omega)
  rw [h1,h2]
  split
  ·rw [if_neg (by simp [cntV]; omega)]
  ·rfl
theorem cntV_one (f:Nat->Nat):∀v ∈ cntV f,v.oneCell'=true:=by
 intro v hv
 obtain⟨i,_,rfl⟩:=List.mem_map.1 hv
 rfl
def tallyV (m:List Nat):Value:=.agg (cntV (PH.tal m)).toArray
theorem addr0 (g j:Nat):(⟨g,0,none⟩:Addr).add j=⟨g,j,none⟩:=by
 unfold Addr.add; split
 ·rename_i h0; subst h0; rfl
 ·simp
def castI (m:List Nat):List Int:=m.map fun n:Nat=>(n:Int)
set_option maxRecDepth 100000 in
set_option maxHeartbeats 4000000 in
theorem tally_ok (A:Option Addr) (n c:Nat) (m:List Nat) {w0 w:World} {L:List Pr} (H:Sp w0 L w) (hn:n=m.length) (hb:Ent L fun w=>Rd w A (cells64 (castI m))) (hl:n<=1000000000) (h15:∀x ∈ m,x<=15) :
  Calls Tryd.prog 102 #[.slice A n c] w fun e w'=>e=.returned (tallyV m)/\Sp w0 L w':=by
 have HN:=Lib.hid hn
 have HB:=Lib.hid hb
 clear hn hb
 obtain⟨t,ht⟩:∃t,tallyV m=t:=⟨_,rfl⟩
 rw [ht]
 have HT:=Lib.hid ht
 clear ht
 have es:(w.alloc (.cells #[.int .i64 0,.int .i64 0,.int .i64 0,.int .i64 0,.int .i64 0,.int .i64 0,.int .i64 0,.int .i64 0,.int .i64 0,.int .i64 0,.int .i64 0,.int .i64 0,.int .i64 0,.int .i64 0,.int .i64 0,.int .i64 0] 186)).heap.size=w.heap.size+1:=Array.size_push _
 have H1:=(H.newBk [.int .i64 0,.int .i64 0,.int .i64 0,.int .i64 0,.int .i64 0,.int .i64 0,.int .i64 0,.int .i64 0,.int .i64 0,.int .i64 0,.int .i64 0,.int .i64 0,.int .i64 0,.int .i64 0,.int .i64 0,.int .i64 0] 186).newBk [.int .i64 0,.int .i64 0,.int .i64 0,.int .i64 0,.int .i64 0,.int .i64 0,.int .i64 0,.int .i64 0,.int .i64 0,.int .i64 0,.int .i64 0,.int .i64 0,.int .i64 0,.int .i64 0,.int .i64 0,.int .i64 0] 186
 rw [es] at H1
 clear es
 go_enter Tryd.func102,Tryd.ntmps102
 go_wp2_with fail
 generalize w.heap.size+1=g3 at H1 ⊢
 generalize w.heap.size=g2 at H1 ⊢
 generalize (w.alloc _).alloc _=w1 at H1 ⊢
 obtain⟨G,hG⟩:∃G:Addr,(⟨g3,0,none⟩:Addr)=G:=⟨_,rfl⟩
 rw [hG]
 have HG:=Lib.hid hG
 clear hG
 go_loopw [8] (fun iv wr=>∃i:Nat,iv=.int .i64 (i:Int)/\i<=n/\Sp w0 (Bk g3 186 (cntV fun k=>(m.take i).count k)::Bk g2 186 [.int .i64 0,.int .i64 0,.int .i64 0,.int .i64 0,.int .i64 0,.int .i64 0,.int .i64 0,.int .i64 0,.int .i64 0,.int .i64 0,.int .i64 0,.int .i64 0,.int .i64 0,.int .i64 0,.int .i64 0,.int .i64 0]::L) wr) (fun iv _=>n - (intOf iv).toNat)
 case atStart=>exact⟨0,rfl,Nat.zero_le _,H1⟩
 case round =>
  obtain⟨i,rfl,hi,H2⟩:=hrel
  by_cases hin:i<n
  ·have k1:(i:Int)<(n:Int):=by omega
   have hiX:i<m.length:=by rw [<- HN.out]; exact hin
   obtain⟨ad,rfl,hc⟩:=(HB.out _ _ (H2.pick 2 [])).at64 (k:=i) (by simpa [castI] using hiX)
   obtain⟨x,hx⟩:∃x,m[i]=x:=⟨_,rfl⟩
   have hx15:x<=15:=by rw [<- hx]; exact h15 _ (List.getElem_mem hiX)
   replace hc:wr.cell? (ad.add i)=some (.int .i64 (x:Int)):=by
    rw [hc]
    simp [castI,hx]
   obtain⟨q,hq⟩:∃q,(m.take i).count x=q:=⟨_,rfl⟩
   have hqn:q<=i:=by
    rw [<- hq]
    refine Nat.le_trans List.count_le_length ?_
    rw [List.length_take]; omega
   have c1:wr.cell? (G.add x)=some (.int .i64 (q:Int)):=by
    rw [<- HG.out,addr0,H2.cell 0 rfl x,cntV_get _ _ (by omega),hq]
   have z1:wr.frozen? (G.add x)=false:=by
    rw [<- HG.out,addr0]
    exact H2.frozen 0 rfl x
   have k2:(x:Int)<16:=by omega
   have hset:Sp w0 (Bk g3 186 (cntV fun k=>(m.take (i+1)).count k)::Bk g2 186 [.int .i64 0,.int .i64 0,.int .i64 0,.int .i64 0,.int .i64 0,.int .i64 0,.int .i64 0,.int .i64 0,.int .i64 0,.int .i64 0,.int .i64 0,.int .i64 0,.int .i64 0,.int .i64 0,.int .i64 0,.int .i64 0]::L) (wr.setCell (G.add x) (.int .i64 ((q:Int)+1))):=by
    have h:=H2.set x (.int .i64 ((q+1:Nat):Int))
    rw [cntV_set] at h
    rw [<- HG.out,addr0]
    have e:(fun k=>(m.take (i+1)).count k)=fun k=>if k=x then q+1 else (m.take i).count k:=by
     funext k
     rw [List.take_succ_eq_append_getElem hiX,List.count_append,hx]
     by_cases ek:k=x
     ·subst ek
      rw [if_pos rfl,hq]
      simp
     ·rw [if_neg ek,List.count_singleton,beq_eq_false_iff_ne.2 (fun h=>ek h.symm)]
      simp
    rw [e]
    exact h
   have HS:=Lib.hid hset
   clear hset hq hx
   go_wp2_with fail
   go_roundw
   case rel=>exact⟨i+1,by go_num,by omega,HS.out⟩
   case measure=>first | (simp [intOf]; omega) | simp [intOf]
  ·have k1:¬ (i:Int)<(n:Int):=by omega
   rw [List.take_of_length_le (by rw [<- HN.out]; omega)] at H2
   have e0:(fun i=>if i=0 then 0 else m.count i)=PH.tal m:=by
    funext i; unfold PH.tal; rfl
   have H4:=H2.set 0 (.int .i64 ((0:Nat):Int))
   rw [cntV_set,e0] at H4
   have c0:wr.cell? ⟨g3,0,none⟩=some (.int .i64 (m.count 0:Int)):=by rw [H2.cell 0 rfl 0,cntV_get _ _ (by omega)]
   have z0:wr.frozen? ⟨g3,0,none⟩=false:=H2.frozen 0 rfl 0
   have HH4:=Lib.hid H4
   have hsw:=H4.swap
   have HSW:=Lib.hid hsw
   clear H4 hsw
   obtain rfl:=HG.out
   go_wp2_with (first | (refine wpList_load_whole rfl 186 _ rfl g3 186 (cntV (PH.tal m)) rfl (HH4.out.blk 0 rfl) Tryd.isAgg186 Tryd.sizeOf186 ?_) | (refine wpList_store_whole rfl 186 _ _ rfl g2 186 _ (cntV (PH.tal m)) rfl rfl HSW.out rfl Tryd.sizeOf186 (cntV_one _) ?_))
   intro w9 H9
   go_wp2_with fail
   have hld:=run_loadCells_list (P:=Tryd.prog) w9 ⟨g2,0,none⟩ (cntV (PH.tal m)) (fun j v hj=>by rw [addr0,H9.cell 0 rfl]; exact hj)
   rw [show(cntV (PH.tal m)).length=16 from rfl] at hld
   refine bodyPost_ret (v:=tallyV m) (by simp [results,Tryd.results102,Tryd.isAgg186,Tryd.sizeOf186,hld,Result.andThen,tallyV,asAddr,loadVar]) rfl ?_
   exact⟨by rw [HT.out],H9.pick 2 []⟩
def cmpI (x y:Int):Int:=if x<y then -1 else if y<x then 1 else 0
set_option maxRecDepth 100000 in
theorem nan_ok (x:Int) (w:World):Calls Tryd.prog 142 #[.int .i64 x] w fun e w'=>e=.returned (.bool false)/\w=w':=by
 go_enter Tryd.func142,Tryd.ntmps142
 go_wp2
 go_ret
 exact⟨rfl,rfl⟩
set_option maxRecDepth 100000 in
theorem cmp_ok (x y:Int) (w:World):Calls Tryd.prog 99 #[.int .i64 x,.int .i64 y] w fun e w'=>e=.returned (.int .i64 (cmpI x y))/\w=w':=by
 obtain⟨r,hr⟩:∃r,cmpI x y=r:=⟨_,rfl⟩
 rw [hr]
 have HR:=Lib.hid hr
 clear hr
 go_enter Tryd.func99,Tryd.ntmps99
 go_wp2_with fail
 refine(nan_ok x _).mono ?_
 rintro _ _ ⟨rfl,rfl⟩
 go_wp2_with fail
 refine(nan_ok y _).mono ?_
 rintro _ _ ⟨rfl,rfl⟩
 by_cases h1:x<y
 ·go_wp2_with fail
  go_ret
  exact⟨ret_i64 (by rw [<- HR.out]; unfold cmpI; rw [if_pos h1]),rfl⟩
 ·by_cases h2:y<x
  ·go_wp2_with fail
   go_ret
   exact⟨ret_i64 (by rw [<- HR.out]; unfold cmpI; rw [if_neg (by omega),if_pos (by omega)]),rfl⟩
  ·go_wp2_with fail
   go_ret
   exact⟨ret_i64 (by rw [<- HR.out]; unfold cmpI; rw [if_neg (by omega),if_neg (by omega)]),rfl⟩
theorem index16 (f:Nat->Nat) (i:Nat) (h:i<16) (w:World):(Instr.index 186 (.agg (cntV f).toArray) (.int .i64 (i:Int))).run Tryd.prog w=.ok (.int .i64 (f i:Int)) w:=by
 simp [Instr.index,run_underlying Tryd.underlying186,asIntOf,part,Result.andThen,cntV_get f i h]
 intro h2; omega
set_option maxRecDepth 100000 in
set_option maxHeartbeats 2000000 in
theorem state_ok (A:Option Addr) (n c:Nat) (m:List Nat) {w0 w:World} {L:List Pr} (H:Sp w0 L w) (hn:n=m.length) (hb:Ent L fun w=>Rd w A (cells64 (castI m))) (hl:n<=1024) (h15:∀x ∈ m,x<=15) :
  Calls Tryd.prog 100 #[.slice A n c] w fun e w'=>e=.returned (.tuple #[.int .i64 (PH.state m),.int .i64 0])/\Sp w0 L w':=by
 have hmay:=hmay_ok A n c (castI m) H (by simpa [castI] using hn) hb (by omega)
 have hmt:PH.may (castI m)=true:=by
  unfold PH.may
  rw [decide_eq_true (by rw [<- show n=(castI m).length by simpa [castI] using hn]; exact hl),Bool.true_and,Bool.not_eq_true',List.any_eq_false]
  intro x hx
  obtain⟨y,hy,rfl⟩:=List.mem_map.1 hx
  have:=h15 y hy
  unfold PH.bad
  simp only [decide_eq_true_eq]
  omega
 rw [hmt] at hmay
 have HN:=Lib.hid hn
 have HB:=Lib.hid hb
 have H15:=Lib.hid h15
 have hst:cmpI (PH.sum m:Int) 32768=PH.state m:=by
  unfold cmpI PH.state
  by_cases h1:PH.sum m<32768
  ·rw [if_pos h1,if_pos (by omega)]
  ·rw [if_neg h1,if_neg (by omega)]
   by_cases h2:32768<PH.sum m
   ·rw [if_pos h2,if_pos (by omega)]
   ·rw [if_neg h2,if_neg (by omega)]
 have HST:=Lib.hid hst
 clear hn hb h15 hmt hst
 obtain⟨st,hst⟩:∃st,PH.state m=st:=⟨_,rfl⟩
 rw [hst]
 rw [hst] at HST
 clear hst
 obtain⟨t,ht⟩:∃t,tallyV m=t:=⟨_,rfl⟩
 have hix:∀(i:Nat) (w:World),i<16->(Instr.index 186 t (.int .i64 (i:Int))).run Tryd.prog w=.ok (.int .i64 (PH.tal m i:Int)) w:=fun i w h=>by rw [<- ht]; exact index16 _ i h w
 have HIX:=Lib.hid hix
 have HT:=Lib.hid ht
 clear hix ht
 go_enter Tryd.func100,Tryd.ntmps100
 go_wp2_with fail
 refine hmay.mono ?_
 rintro _ w1 ⟨rfl,H1⟩
 clear hmay
 go_wp2_with fail
 refine(tally_ok A n c m H1 HN.out HB.out (by omega) H15.out).mono ?_
 rintro _ w2 ⟨rfl,H2⟩
 rw [HT.out]
 go_wp2_with fail
 go_loopw [4,12] (fun sv iv wr=>∃i:Nat,iv=.int .i64 (i:Int)/\sv=.int .i64 (PH.share m i:Int)/\i<=16/\Sp w0 L wr) (fun _ iv _=>16 - (intOf iv).toNat)
 case atStart=>exact⟨0,rfl,rfl,by omega,H2⟩
 case round =>
  obtain⟨i,rfl,rfl,hi,H3⟩:=hrel
  by_cases hin:i<16
  ·have k1:(i:Int)<16:=by omega
   have hx:=HIX.out i wr hin
   obtain⟨q,hq⟩:∃q,PH.tal m i=q:=⟨_,rfl⟩
   have hqn:q<=n:=by rw [<- hq,HN.out]; exact PH.tal_le m i
   obtain⟨s,hs⟩:∃s,PH.share m i=s:=⟨_,rfl⟩
   have hsn:s<=600000000:=by
    rw [<- hs]
    have:=PH.share_le m i
    rw [<- HN.out] at this
    have h2:i * (n * 32768)<=16 * (1024 * 32768):=Nat.mul_le_mul (by omega) (Nat.mul_le_mul_right _ hl)
    omega
   have hss:PH.share m (i+1)=s+q * 2 ^ (15 - i):=by rw [PH.share,hs,hq]
   rw [hq] at hx
   rw [hs]
   obtain⟨p,hp⟩:∃p,q * 2 ^ (15 - i)=p:=⟨_,rfl⟩
   have hpn:p<=40000000:=by
    rw [<- hp]
    have:(2:Nat) ^ (15 - i)<=2 ^ 15:=Nat.pow_le_pow_right (by omega) (by omega)
    have h2:q * 2 ^ (15 - i)<=1024 * 2 ^ 15:=Nat.mul_le_mul (by omega) this
    omega
   rw [hp] at hss
   have HSS:=Lib.hid hss
   have HP:=Lib.hid hp
   clear hss hp hq hs
   obtain⟨d,hd⟩:∃d,15 - i=d:=⟨_,rfl⟩
   have e1:(15:Int) - (i:Int)=(d:Int):=by omega
   have hd15:d<=15:=by omega
   rw [hd] at HP
   have e2:(q:Int) * 2 ^ d=(p:Int):=by
    rw [<- HP.out]
    simp
   clear hd
   go_wp2_with fail
   go_roundw
   case rel =>
    refine⟨i+1,by go_num,?_,by omega,H3⟩
    rw [HSS.out]
    exact congrArg (Value.int .i64) (by omega)
   case measure=>first | (simp [intOf]; omega) | simp [intOf]
  ·have k1:¬ (i:Int)<16:=by omega
   obtain rfl:i=16:=by omega
   obtain⟨s,hs⟩:∃s,PH.share m 16=s:=⟨_,rfl⟩
   have hs2:PH.sum m=s:=hs
   rw [hs2] at HST
   rw [hs]
   clear hs hs2
   go_wp2_with fail
   refine(cmp_ok (s:Int) 32768 _).mono ?_
   rintro _ _ ⟨rfl,rfl⟩
   rw [HST.out]
   go_wp2_with fail
   go_ret2
   exact⟨rfl,H3⟩
end Go.Proofs.YtloijdbkikccgaaDoor

