/- A pack. -/
import Derived.Test.YteajimobgkempaaGreatDoorPk04
set_option linter.all false
set_option maxRecDepth 100000
set_option maxHeartbeats 8000000
namespace Go.Proofs.YteajimobgkempaaGreatDoor
variable {w0 w:World} {L:List Pr}
open Go.RowKit
section
variable {P:Program}
theorem XC {w:World} {ad:Addr} {t:TypeId} {cs:List Value} (hc:∀j v,cs[j]?=some v->w.cell? (ad.add j)=some v) (ha:∀w,(isAgg t).run P w=.ok true w) (hs:∀w,(sizeOf t).run P w=.ok cs.length w) :
  (Instr.loadAt t (.pointer (some ad))).run P w=.ok (.agg cs.toArray) w:=by
 have a:=run_loadCells_list (P:=P) w ad cs hc;simp [Instr.loadAt,Instr.sureAddr,loadVar,ha,hs,a,Result.andThen]
theorem Zc {w:World} {o:Oper} {a:Act} {K:Act->World->Prop} {Q:Exit->Act->World->Prop} (t:TypeId) (x:Operand) (ho:o.op=.load t x)
  (ad:Addr) (cs:List Value) (hx:a.eval x=.pointer (some ad)) (hc:∀j v,cs[j]?=some v->w.cell? (ad.add j)=some v) (ha:∀w,(isAgg t).run P w=.ok true w) (hs:∀w,(sizeOf t).run P w=.ok cs.length w)
  (h:K (a.put o.dst (.agg cs.toArray)) w):o.wp P a w K Q:=by
 unfold Oper.wp execOp;simp only [ho,Sem.run_bind,Sem.run_pure,Result.andThen_ok,hx,XC hc ha hs];exact h
theorem YK {w:World} {ops:Array Oper} {rest:List Oper} {o:Oper} {a:Act} {Q:Exit->Act->World->Prop} (hgd:o.guard=none) (t:TypeId) (x:Operand) (ho:o.op=.load t x)
  (ad:Addr) (cs:List Value) (hx:a.eval x=.pointer (some ad)) (hc:∀j v,cs[j]?=some v->w.cell? (ad.add j)=some v) (ha:∀w,(isAgg t).run P w=.ok true w) (hs:∀w,(sizeOf t).run P w=.ok cs.length w)
  (h:wpList P ops Q rest (a.put o.dst (.agg cs.toArray)) w):wpList P ops Q (o::rest) a w :=
 wpList_plain hgd fun _ hK=>Zc t x ho ad cs hx hc ha hs (hK _ _ h)
theorem Sp.rowStore {e:TypeId} {z n i:Nat} {v:Value} {xs ds:List Value} (H:Sp w0 (Row e z v n xs::L) w) (hi:i<n) (hd:ds.length=z) (h1:∀v ∈ ds,v.oneCell'=true) :
  ∃ad c w',v=.slice (some ad) n c/\n<=c/\(storeCells (ad.add (i * z)) ds 0).run P w=.ok () w'/\Sp w0 (Row e z v n (xs.take (i * z)++ds++xs.drop (i * z+z))::L) w':=by
 have h:=H.owns 0 rfl;rcases h.2 with ⟨rfl,rfl⟩ | ⟨g,cap,cur,rfl,_,hh,h2,h3,h4,h5⟩
 ·omega
 ·have j:((⟨g,0,none⟩:Addr).add (i * z))=⟨g,i * z,none⟩:=Xz g _;have k:i * z+z<=n * z:=by rw [<- Nat.succ_mul]; exact Nat.mul_le_mul_right _ hi
  have l:n * z<=cap * z:=Nat.mul_le_mul_right _ h2;have a:=run_storeCells_at P g (i * z) e ds 0 cur w hh (by rw [hd,h4]; omega) h1;rw [Ys w g _ _ _ _ hh] at a;refine⟨⟨g,0,none⟩,cap,_,rfl,h2,by rw [j]; exact a,?_⟩;have m:=(Array.getElem?_eq_some_iff.1 hh).1;refine H.turn rfl rfl rfl fun s hs=>?_;have d:s g:=by
   rcases hs.2 with ⟨hv,_⟩ | ⟨g',cap',cur',hv,hg',_⟩
   ·cases hv
   ·injection hv with hv
    injection hv with hv
    injection hv with hv
    subst hv;exact(Zz hg').1
  have f:xs.length=n * z:=h.1;refine⟨fun b _ hsb=>?_,?_,.inr ⟨g,cap,(cur.toList.take (i * z+0)++ds++cur.toList.drop (i * z+0+ds.length)).toArray,rfl,(rs_pos (.inl d)).trans ?_,h2,h3,?_,?_⟩⟩
  ·show(w.heap.setIfInBounds g _)[b]?=_;rw [Array.getElem?_setIfInBounds,if_neg];rintro rfl;exact hsb d
  ·rw [List.length_append,List.length_append,List.length_take,List.length_drop,hd,f]; omega
  ·show(w.heap.setIfInBounds g _)[g]?=_;rw [Array.getElem?_setIfInBounds,if_pos rfl,if_pos m]
  ·simp only [Nat.add_zero,List.size_toArray,List.length_append,List.length_take,List.length_drop,Array.length_toList,hd,h4];omega
  ·rw [Nat.add_zero,hd,<- h5,List.take_take,Nat.min_eq_left (by omega),List.drop_take];have o:(cur.toList.take (i * z)++ds).length=i * z+z:=by rw [List.length_append,List.length_take,Array.length_toList,h4,hd]; omega
   rw [List.toList_toArray,List.take_append,o,List.take_of_length_le (by omega)]
theorem Xi {w w' : World} {ad:Addr} {t:TypeId} {ds:List Value} (hst:(storeCells ad ds 0).run P w=.ok () w') (ha:∀w,(sizeOf t).run P w=.ok ds.length w) :
  (Instr.storeAt t (.pointer (some ad)) (.agg ds.toArray)).run P w=.ok () w':=by
 simp [Instr.storeAt,Instr.sureAddr,storeVar,ha,hst,Result.andThen,Value.cells]
theorem Zl {w w' : World} {o:Oper} {a:Act} {K:Act->World->Prop} {Q:Exit->Act->World->Prop} (t:TypeId) (x y:Operand) (ho:o.op=.store t x y)
  (ad:Addr) (ds:List Value) (hx:a.eval x=.pointer (some ad)) (hy:a.eval y=.agg ds.toArray) (hst:(storeCells ad ds 0).run P w=.ok () w') (ha:∀w,(sizeOf t).run P w=.ok ds.length w)
  (h:K (a.put o.dst undef) w'):o.wp P a w K Q:=by
 unfold Oper.wp execOp;simp only [ho,Sem.run_bind,Sem.run_pure,Result.andThen_ok,hx,hy,Xi hst ha];exact h
end
structure PK where
 c:Int
 s:Int
 p:Option Nat
def PK.ptr (x:PK):Value:=.pointer (x.p.map fun g=>⟨g,0,none⟩)
def PK.cells (x:PK):List Value:=[.int .i64 x.c,.int .i64 x.s,x.ptr]
def PK.val (x:PK):Value:=.agg #[.int .i64 x.c,.int .i64 x.s,x.ptr]
theorem PK.one (x:PK):∀u ∈ x.cells,u.oneCell'=true:=by
 intro u a;simp only [PK.cells,List.mem_cons,List.not_mem_nil,or_false] at a;rcases a with rfl | rfl | rfl <;> rfl
def pk0:PK:=⟨0,0,none⟩
def cellsK (l:List PK):List Value:=l.flatMap PK.cells
theorem ZN (l:List PK):(cellsK l).length=l.length * 3:=by
 induction l with
 | nil=>rfl
 | cons x l ih =>
  show(x.cells++cellsK l).length=_;rw [List.length_append,ih,List.length_cons];show 3+_=_;omega
theorem ZE (a b:List PK):cellsK (a++b)=cellsK a++cellsK b:=List.flatMap_append
theorem Y5 (l:List PK):∀u ∈ cellsK l,u.oneCell'=true:=by
 intro u a;obtain⟨x,_,b⟩:=List.mem_flatMap.1 a;exact x.one u b
theorem Y6 (l:List PK) (i j:Nat) (hi:i<l.length) (u:Value) (hj:(l.getD i pk0).cells[j]?=some u):(cellsK l)[i * 3+j]?=some u:=by
 induction l generalizing i with
 | nil=>simp at hi
 | cons x l ih =>
  have a:j<3:=by
   have:=(List.getElem?_eq_some_iff.1 hj).1;exact this
  show(x.cells++cellsK l)[i * 3+j]?=_;cases i with
  | zero =>
   rw [List.getElem?_append_left (by show _<3; omega),Nat.zero_mul,Nat.zero_add];exact hj
  | succ i =>
   rw [List.getElem?_append_right (by show 3<=_; omega),show(i+1) * 3+j - x.cells.length=i * 3+j by show _ - 3=_; omega];exact ih i (by simpa using hi) (by simpa using hj)
theorem WE (l:List PK) (i:Nat) (hi:i<l.length) (x:PK):(cellsK l).take (i * 3)++x.cells++(cellsK l).drop (i * 3+3)=cellsK (l.set i x):=by
 have d:l=l.take i++l.getD i pk0::l.drop (i+1):=by
  rw [List.getD_eq_getElem?_getD,List.getElem?_eq_getElem hi];simp
 obtain⟨a,e⟩:=exq (l.take i);obtain⟨b,f⟩:=exq (l.drop (i+1));rw [e,f] at d;have c:a.length=i:=by rw [<- e,List.length_take]; omega
 generalize l.getD i pk0=y at d;subst d;rw [SS.set_app a b y x c,ZE,ZE];have g:(cellsK a).length=i * 3:=by rw [ZN,c]
 rw [List.take_append_of_le_length (by omega),List.take_of_length_le (by omega),List.drop_append,g];rw [List.drop_eq_nil_of_le (by omega),show i * 3+3 - i * 3=3 by omega];show cellsK a++x.cells++([]++(y.cells++cellsK b).drop 3)=cellsK a++(x.cells++cellsK b);rw [List.append_assoc];rfl
def RowK (v:Value) (l:List PK):Pr:=Row 143 3 v l.length (cellsK l)
theorem RowK.form (H:Sp w0 L w) (k:Nat) {v:Value} {l:List PK} (hk:L[k]?=some (RowK v l)):∃A c,v=.slice A l.length c/\l.length<=c/\c<=maxLen:=Row.form H k hk
theorem RowK.rd (H:Sp w0 L w) (k:Nat) {ad:Addr} {n c:Nat} {l:List PK} (hk:L[k]?=some (RowK (.slice (some ad) n c) l)) (i:Nat) (hi:i<l.length) :
  ∀j v,(l.getD i pk0).cells[j]?=some v->w.cell? ((ad.add (i * 3)).add j)=some v:=fun j v hj=>by
 obtain⟨A,h,e,b,_,_⟩:=H.row_rd k hk;injection e with e
 obtain⟨d,a,f⟩:=b (by intro g; have:=ZN l; rw [g] at this; simp at this; omega);rw [<- e] at a;injection a with a
 subst a;rw [Go.Addr.add_add];exact f _ _ (Y6 l i j hi v hj)
theorem RowK.store {ad:Addr} {n c i:Nat} {l:List PK} (x:PK) (H:Sp w0 (RowK (.slice (some ad) n c) l::L) w) (hi:i<l.length) :
  ∃w',(storeCells (ad.add (i * 3)) x.cells 0).run Tryz.prog w=.ok () w'/\Sp w0 (RowK (.slice (some ad) n c) (l.set i x)::L) w':=by
 obtain⟨b,f,w',e,_,d,a⟩:=Sp.rowStore (P:=Tryz.prog) (ds:=x.cells) H hi rfl x.one;injection e with e
 injection e with e
 subst e;refine⟨w',d,?_⟩;rw [WE l i hi x] at a;unfold RowK;rw [List.length_set];exact a
theorem ZQ (H:Sp w0 L w) (k:Nat) {g:Nat} {t:TypeId} {cs:List Value} (hk:L[k]?=some (Bk g t cs)):∀j v,cs[j]?=some v->w.cell? ((⟨g,0,none⟩:Addr).add j)=some v:=fun j v hv=>by
 have a:(Addr.add ⟨g,0,none⟩ j)=⟨g,j,none⟩:=by
  unfold Addr.add; split
  ·rename_i h0; subst h0; rfl
  ·simp
 rw [a,H.cell k hk j];exact hv
def putC:List Value->Nat->List Value->List Value
 | cs,_,[]=>cs
 | cs,i,v::vs=>putC (cs.set i v) (i+1) vs
theorem Xj {P:Program} {g:Nat} {t:TypeId} {w0:World} : ∀(vs:List Value) (i:Nat) (cs:List Value) (w:World),Sp w0 (Bk g t cs::L) w->i+vs.length<=cs.length->(∀u ∈ vs,u.oneCell'=true)->∃w',(storeCells ⟨g,0,none⟩ vs i).run P w=.ok () w'/\Sp w0 (Bk g t (putC cs i vs)::L) w'
 | [],i,cs,w,H,_,_=>⟨w,rfl,H⟩
 | v::vs,i,cs,w,H,hl,h1=>by
  rw [List.length_cons] at hl;have b:(Addr.add ⟨g,0,none⟩ i)=⟨g,i,none⟩:=by
   unfold Addr.add; split
   ·rename_i h0; subst h0; rfl
   ·simp
  have c:w.cell? ⟨g,i,none⟩=some cs[i]:=by rw [H.cell 0 rfl i,List.getElem?_eq_getElem]
  have a:(store ⟨g,i,none⟩ v).run P w=.ok () (w.setCell ⟨g,i,none⟩ v):=by
   rw [run_store _ _ _ _ _ (h1 v List.mem_cons_self),c];simp only [H.frozen 0 rfl i];rfl
  obtain⟨w',d,e⟩:=Xj (P:=P) vs (i+1) (cs.set i v) _ (H.set i v) (by rw [List.length_set]; omega) (fun u hu=>h1 u (List.mem_cons_of_mem _ hu));refine⟨w',?_,e⟩;unfold storeCells;rw [b];simp [a,Result.andThen,d]
section
variable {P:Program}
theorem WF {fn:Func} {s:Tmp} {ty:TypeId} (h:fn.results=#[.cell s ty]) (tmps:Array Value) {w:World} {ad:Addr} {cs:List Value} (hx:tmps[s]?.getD undef=.pointer (some ad)) (hc:∀j v,cs[j]?=some v->w.cell? (ad.add j)=some v) (ha:∀w,(isAgg ty).run P w=.ok true w) (hs:∀w,(sizeOf ty).run P w=.ok cs.length w) :
  (results fn tmps).run P w=.ok (.agg cs.toArray) w:=by
 have a:=run_loadCells_list (P:=P) w ad cs hc;simp [results,h,hx,asAddr,loadVar,ha,hs,a,Result.andThen]
theorem WG {fn:Func} {s t u:Tmp} {ty:TypeId} (h:fn.results=#[.cell s ty,.tmp t,.tmp u]) (tmps:Array Value) {w:World} {ad:Addr} {cs:List Value} (hx:tmps[s]?.getD undef=.pointer (some ad)) (hc:∀j v,cs[j]?=some v->w.cell? (ad.add j)=some v) (ha:∀w,(isAgg ty).run P w=.ok true w) (hs:∀w,(sizeOf ty).run P w=.ok cs.length w) :
  (results fn tmps).run P w=.ok (.tuple #[.agg cs.toArray,tmps.getD t undef,tmps.getD u undef]) w:=by
 have a:=run_loadCells_list (P:=P) w ad cs hc;simp [results,h,hx,asAddr,loadVar,ha,hs,a,Result.andThen]
theorem WH {fn:Func} {s t u v:Tmp} {ty:TypeId} (h:fn.results=#[.cell s ty,.tmp t,.tmp u,.tmp v]) (tmps:Array Value) {w:World} {ad:Addr} {cs:List Value} (hx:tmps[s]?.getD undef=.pointer (some ad)) (hc:∀j v,cs[j]?=some v->w.cell? (ad.add j)=some v) (ha:∀w,(isAgg ty).run P w=.ok true w) (hs:∀w,(sizeOf ty).run P w=.ok cs.length w) :
  (results fn tmps).run P w=.ok (.tuple #[.agg cs.toArray,tmps.getD t undef,tmps.getD u undef,tmps.getD v undef]) w:=by
 have a:=run_loadCells_list (P:=P) w ad cs hc;simp [results,h,hx,asAddr,loadVar,ha,hs,a,Result.andThen]
end
theorem TN (a b c d:Int) (A:Option Addr) (n m:Nat) (s t:ByteArray):∀u ∈ [Value.int .u8 a,.int .u8 b,.int .u8 c,.int .u32 d,.slice A n m,.string s,.string t],u.oneCell'=true:=by
 intro u e;simp only [List.mem_cons,List.not_mem_nil,or_false] at e;rcases e with rfl | rfl | rfl | rfl | rfl | rfl | rfl <;> rfl
theorem Zd (l m:List UInt8):cells8 (l++m)=cells8 l++cells8 m:=by unfold cells8; rw [List.map_append]
theorem Z4 {w:World} {A:Option Addr} {n c:Nat} {l:List UInt8} (h:Byt w (.slice A n c) l):Rd w A (cells8 l):=by
 obtain⟨b,d,e,a,_,_⟩:=h;injection e with e1 e2 e3
 subst e1;exact a
theorem Zh (l:List UInt8):(cells8 l).length=l.length * 1:=by unfold cells8; rw [List.length_map,Nat.mul_one]
theorem YE (z:Int):∀u ∈ [Value.int .u8 z],u.oneCell'=true:=by intro u a; rw [List.mem_singleton.1 a]; rfl
theorem Wc (z y:Int):∀u ∈ [Value.int .u8 z,Value.int .u8 y],u.oneCell'=true:=by
 intro u a;rcases List.mem_cons.1 a with rfl | a
 ·rfl
 ·rw [List.mem_singleton.1 a]; rfl
theorem Vh {w:World} {g:Nat} {t:TypeId} {A:Option Addr} {n c:Nat} {l:List UInt8} (hB:Blk w g t [.slice A n c]) (hb:Byt w (.slice A n c) l):Parts w (.slice (some ⟨g,0,none⟩) 1 1) [l]:=by
 refine⟨some ⟨g,0,none⟩,1,[.slice A n c],rfl,Rd.of_blk hB,rfl,by simp [maxLen],fun u hu=>?_,fun i h1 h2=>?_⟩
 ·rw [List.mem_singleton.1 hu]; exact⟨_,_,_,rfl⟩
 ·match i with
  | 0=>exact hb
  | i+1=>simp at h1
theorem Vi {g:Nat} {t:TypeId} {A:Option Addr} {n c:Nat} {l:List UInt8} (H:Sp w0 L w) (k:Nat) (hk:L[k]?=some (Bk g t [.slice A n c])) (hb:Byt w (.slice A n c) l) (ht:CrcTab w) (hl:l.length<=1000000000) :
  Calls Tryz.prog 35 #[.slice (some ⟨g,0,none⟩) 1 1] w fun e w'=>e=.returned (.int .u32 (PCrc.of l:Nat))/\Sp w0 L w':=by
 refine(TM _ [l] w (by unfold total; simp; omega) ht (Vh (H.blk k hk) hb)).mono ?_;rintro _ w' ⟨rfl,a⟩;refine⟨by simp,(Below.keep a).sep H⟩
namespace PG
def z0 (c:UInt8):UInt8:=if c=0 then 48 else c
theorem z0_ne (c:UInt8):z0 c≠0:=by
 unfold z0;split
 ·decide
 ·assumption
def txM (f:UInt8) (k:Nat) (s:List UInt8):List UInt8:=if has f k=true then (s.take 300).map z0 else []
def made (h:Hd):Hd:={ h with
 flags:=UInt8.ofNat (h.flags.toNat % 32)
 extra:=if has (UInt8.ofNat (h.flags.toNat % 32)) 4=true then h.extra.take 300 else []
 name:=txM (UInt8.ofNat (h.flags.toNat % 32)) 8 h.name
 note:=txM (UInt8.ofNat (h.flags.toNat % 32)) 16 h.note }
theorem txM_ok (f:UInt8) (k:Nat) (s:List UInt8):textOk f k (txM f k s):=by
 unfold txM;by_cases h:has f k=true
 ·rw [if_pos h];refine⟨?_,?_,.inr h⟩
  ·rw [List.length_map,List.length_take]; omega
  ·intro c a;obtain⟨d,_,rfl⟩:=List.mem_map.1 a;exact z0_ne d
 ·rw [if_neg h];exact⟨by decide,fun c a=>(by cases a),.inl rfl⟩
theorem made_flags (h:Hd):(made h).flags.toNat<32:=by
 show(UInt8.ofNat (h.flags.toNat % 32)).toNat<32;rw [UInt8.toNat_ofNat'];omega
theorem Yu (h:Hd):Ok (made h):=by
 refine⟨made_flags h,?_,?_,txM_ok _ _ _,txM_ok _ _ _⟩
 ·show(if has (UInt8.ofNat (h.flags.toNat % 32)) 4=true then h.extra.take 300 else []).length<=65535;split
  ·rw [List.length_take]; omega
  ·decide
 ·show(if has (UInt8.ofNat (h.flags.toNat % 32)) 4=true then h.extra.take 300 else [])=[]∨has (UInt8.ofNat (h.flags.toNat % 32)) 4=true;by_cases k:has (UInt8.ofNat (h.flags.toNat % 32)) 4=true
  ·exact .inr k
  ·rw [if_neg k]; exact .inl rfl
end PG
section
variable {P:Program} {Q:Exit->Act->World->Prop}
theorem putAll_defers (x:Nat->Value):∀(ds:List (Option Tmp)) (k:Nat) (a:Act),(putAll a ds k x).defers=a.defers
 | [],_,_=>rfl
 | d::ds,k,a=>by
  unfold putAll;rw [putAll_defers x ds (k+1) _];cases d <;> rfl
def freeAt4 (ds:List (Option Tmp)) (anc:List (List Nat)) (i t:Nat):Bool:=(List.range ds.length).all fun j=>if ds.getD j none=some t then (anc.getD j []).contains i else true
def StepsSr (P:Program) (Q:Exit->Act->World->Prop) (S:Nat->Value->Prop) (R:Nat->Value->List Pr) (I:Nat->List Pr) (ds:List (Option Tmp)) (ac:List (List Nat)) (env:List (Nat × Value)) (w0:World) (L:List Pr):Nat->List Oper->List (List Nat)->List (List Nat)->List (List Nat)->Prop
 | i,o::os,an::ans,us::uss,se::ses=>(∀(x:Nat->Value) (w:World) (A:Act) (rest:List Pr),
   A.defers=[]->(∀p,p ∈ env->freeAt4 ds ac i p.1=true->A.tmps[p.1]?.getD undef=p.2)->(∀j,j ∈ an->S j (x j)/\∀t,ds.getD j none=some t->A.tmps[t]?.getD undef=x j)->(∀φ,Ent L φ->Ent rest φ) ->
   Sp w0 (I i++(us.flatMap (fun j=>R j (x j))++(se.flatMap I++rest))) w ->
   ∀K:Act->World->Prop,(∀v w',S i v->Sp w0 (R i v++(se.flatMap I++rest)) w'->K (A.put o.dst v) w') ->
   StepOb P Q o x A w K)/\StepsSr P Q S R I ds ac env w0 L (i+1) os ans uss ses
 | _,[],[],[],[]=>True
 | _,_,_,_,_=>False
theorem stepsSr_get {S:Nat->Value->Prop} {R:Nat->Value->List Pr} {I:Nat->List Pr} {ds:List (Option Tmp)} {ac:List (List Nat)} {env:List (Nat × Value)} {w0:World} :
  ∀(l:List Oper) (k i:Nat) (o:Oper) (ans uss ses:List (List Nat)),StepsSr P Q S R I ds ac env w0 L k l ans uss ses->l[i]?=some o ->
  ∀(x:Nat->Value) (w:World) (A:Act) (rest:List Pr),
   A.defers=[]->(∀p,p ∈ env->freeAt4 ds ac (k+i) p.1=true->A.tmps[p.1]?.getD undef=p.2)->(∀j,j ∈ ans.getD i []->S j (x j)/\∀t,ds.getD j none=some t->A.tmps[t]?.getD undef=x j)->(∀φ,Ent L φ->Ent rest φ) ->
   Sp w0 (I (k+i)++((uss.getD i []).flatMap (fun j=>R j (x j))++((ses.getD i []).flatMap I++rest))) w ->
   ∀K:Act->World->Prop,(∀v w',S (k+i) v->Sp w0 (R (k+i) v++((ses.getD i []).flatMap I++rest)) w'->K (A.put o.dst v) w') ->
   StepOb P Q o x A w K
 | [],_,_,_,_,_,_,_,h=>by simp at h
 | o::os,k,i,o',[],uss,ses,hs,h=>by simp [StepsSr] at hs
 | o::os,k,i,o',an::ans,[],ses,hs,h=>by simp [StepsSr] at hs
 | o::os,k,i,o',an::ans,us::uss,[],hs,h=>by simp [StepsSr] at hs
 | o::os,k,0,o',an::ans,us::uss,se::ses,hs,h=>by
  have:o=o':=by simpa using h
  subst this;exact hs.1
 | o::os,k,i+1,o',an::ans,us::uss,se::ses,hs,h=>by
  have:=stepsSr_get os (k+1) i o' ans uss ses hs.2 (by simpa using h);rw [show k+1+i=k+(i+1) by omega] at this;exact this
theorem wp_region_sr {rid:Nat} {l:List Oper} {a0:Act} {w w0:World} {L:List Pr}
    (S:Nat->Value->Prop) (R:Nat->Value->List Pr) (I:Nat->List Pr) (n sz:Nat)
    (ds:List (Option Tmp)) (pre anc use see:List (List Nat)) (env:List (Nat × Value)) (hm:P.follows .mixedOrders=true)
    (hds:l.map (·.dst)=ds) (hdist:Distinct ds)
    (hpre:(l.map fun o=>(o.after.toList.filter (Region.binds .any ·)).map (·.on))=pre)
    (hn:pre.length=n) (hanc:ancOk pre anc=true) (hflow:flowOk n anc use see=true) (hgu:guardsOk l ds anc=true) (hanl:anc.length=n)
    (hdv:a0.defers=[]) (hsz:a0.tmps.size=sz) (hlt:ds.all (fun d=>match d with | some t=>decide (t<sz) | none=>true)=true)
    (henv:∀p,p ∈ env->a0.tmps[p.1]?.getD undef=p.2)
    (H:Sp w0 ((List.range n).flatMap I++L) w)
    (hstep:StepsSr P Q S R I ds anc env w0 L 0 l anc use see)
    (hend:∀(x:Nat->Value) (w:World) (A:Act),A=putAll a0 ds 0 x->(∀i,i<n->S i (x i)) ->
      Sp w0 ((List.range n).flatMap (fun i=>if (List.range n).any (fun k=>(use.getD k []).contains i) then [] else R i (x i))++L) w->Q .normal A w) :
    (Code.region rid l.toArray true).wp P Q a0 w:=by
  have hdl:ds.length=l.length:=by rw [<- hds]; simp
  have hpl:pre.length=l.length:=by rw [<- hpre]; simp
  refine wp_region_sp0 S R I n ds pre anc use see hm hds hdist hpre hn hanc hflow H (fun i o ho x w A rest hA hS hu hE hH=>?_) hend
  have hil:i<l.length:=(List.getElem?_eq_some_iff.1 ho).1
  have hslot:∀j,j<n->∀t,ds.getD j none=some t->A.tmps[t]?=some (x j):=fun j hj t ht=>by
    have hj' : j<ds.length:=by omega
    rw [List.getD_eq_getElem?_getD,List.getElem?_eq_getElem hj'] at ht
    simp only [Option.getD_some] at ht
    have htl:=List.all_eq_true.1 hlt _ (List.getElem_mem hj')
    rw [ht] at htl
    replace htl:t<sz:=by simpa using htl
    rw [hA,putAll_eval x ds 0 j t a0 hdist (by rw [List.getElem?_eq_getElem hj',ht]) (Nat.lt_of_lt_of_eq htl hsz.symm),Nat.zero_add]
  have hanlt:∀j,j ∈ anc.getD i []->j<n:=fun j hj=>by
    have h:=List.all_eq_true.1 hanc i (by simp; omega)
    simp only [Bool.and_eq_true] at h
    have:=List.all_eq_true.1 h.2 j hj
    simp only [Bool.and_eq_true,decide_eq_true_eq] at this
    omega
  have hob:=stepsSr_get l 0 i o anc use see hstep ho x w A rest (by rw [hA,putAll_defers]; exact hdv) (fun p hp hfr=>by
      rw [Nat.zero_add] at hfr
      rw [<- henv p hp,hA]
      by_cases hm:some p.1 ∈ ds
      · obtain⟨j,hj,hjt⟩:=List.getElem_of_mem hm
        have hfj:=List.all_eq_true.1 hfr j (by simpa using hj)
        have hdj:ds.getD j none=some p.1:=by rw [List.getD_eq_getElem?_getD,List.getElem?_eq_getElem hj,hjt]; rfl
        rw [if_pos hdj] at hfj
        have hb:=hu j (by simpa using hfj)
        have hpt:p.1<a0.tmps.size:=by
          have htl:=List.all_eq_true.1 hlt _ (List.getElem_mem hj)
          rw [hjt] at htl
          replace htl:p.1<sz:=by simpa using htl
          omega
        rw [putAll_eval x ds 0 j p.1 a0 hdist (by rw [List.getElem?_eq_getElem hj,hjt]) hpt,Nat.zero_add,hb]
        unfold base
        rw [hdj]
        show(some (a0.tmps.getD p.1 undef)).getD undef=_
        rw [Array.getD_eq_getD_getElem?]; rfl
      · rw [putAll_eval_far x p.1 ds 0 a0 hm]) (fun j hj=>⟨hS j hj,fun t ht=>by rw [hslot j (hanlt j hj) t ht]; rfl⟩) hE (by rw [Nat.zero_add]; exact hH)
    (Gave w0 S R i A o.dst ((see.getD i []).flatMap I++rest)) (fun v w' h1 h2=>⟨v,rfl,by rwa [Nat.zero_add] at h1,by rwa [Nat.zero_add] at h2⟩)
  unfold StepOb at hob
  unfold wpList
  cases hg:o.guard with
  | none =>
    rw [hg] at hob
    have hw:Region.wanted o (yielded l.toArray A.tmps)=true:=by simp [Region.wanted,hg]
    rw [if_pos hw]
    refine .inl ?_
    refine Oper.wp_mono (fun a w h=>?_) (upon_exits' hob)
    exact h
  | some p =>
    obtain⟨j,b⟩:=p
    rw [hg] at hob
    obtain⟨c,hc,hob⟩:=hob
    have hg2:=List.all_eq_true.1 hgu (o,anc.getD i []) (by
      rw [List.mem_iff_getElem?]
      refine⟨i,?_⟩
      rw [List.getElem?_zip_eq_some]
      refine⟨ho,?_⟩
      rw [List.getD_eq_getElem?_getD,List.getElem?_eq_getElem (by omega)]; rfl)
    simp only [hg,Bool.and_eq_true,List.contains_iff_mem] at hg2
    obtain⟨hja,hjs⟩:=hg2
    have hjn:=hanlt j hja
    obtain⟨t,ht⟩:=Option.isSome_iff_exists.1 hjs
    have hy:yielded l.toArray A.tmps j=c:=by
      unfold yielded
      have hdj:(l.toArray[j]?).bind (·.dst)=some t:=by
        have hj' : j<ds.length:=by omega
        rw [List.getD_eq_getElem?_getD,List.getElem?_eq_getElem hj'] at ht
        simp only [Option.getD_some] at ht
        subst hds
        have hj2:j<l.length:=by simpa using hj'
        rw [List.getElem_map] at ht
        simp [hj2,ht]
      rw [hdj]
      simp only [Option.bind_some,hslot j hjn t ht]
      rw [<- hc]
      cases x j <;> rfl
    have hw:Region.wanted o (yielded l.toArray A.tmps)=(c == some b):=by simp [Region.wanted,hg,hy]
    rw [hw]
    by_cases hcb:c=some b
    · rw [if_pos hcb] at hob
      rw [if_pos (by simp [hcb])]
      exact .inl (upon_exits' hob)
    · rw [if_neg hcb] at hob
      rw [if_neg (by simpa using hcb)]
      exact hob
end
section
variable {P:Program} {Q:Exit->Act->World->Prop}
def Sc (vals:List (Option Value)) (Sx:Nat->Value->Prop) (i:Nat) (v:Value):Prop:=match vals.getD i none with
 | some u=>v=u
 | none=>Sx i v
def FactsE (A:Act) (ds:List (Option Tmp)) (ac:List (List Nat)) (i:Nat):List (Nat × Value)->Prop->Prop
 | [],p=>p
 | (t,v)::r,p=>match freeAt4 ds ac i t with
  | true=>A.tmps[t]?.getD undef=v/\FactsE A ds ac i r p
  | false=>FactsE A ds ac i r p
def FactsA (A:Act) (an:List Nat):List (Option Tmp)->List (Option Value)->Nat->Prop
 | some t::ds,some v::vs,k=>match an.contains k with
  | true=>A.tmps[t]?.getD undef=v/\FactsA A an ds vs (k+1)
  | false=>FactsA A an ds vs (k+1)
 | none::ds,_::vs,k=>FactsA A an ds vs (k+1)
 | some _::ds,none::vs,k=>FactsA A an ds vs (k+1)
 | _,_,_=>True
theorem YL {A:Act} {ds:List (Option Tmp)} {ac:List (List Nat)} {i:Nat} : ∀(env:List (Nat × Value)) (p:Prop),p ->
  (∀q,q ∈ env->freeAt4 ds ac i q.1=true->A.tmps[q.1]?.getD undef=q.2)->FactsE A ds ac i env p
 | [],p,hp,_=>hp
 | (t,v)::r,p,hp,h=>by
  unfold FactsE;split
  ·rename_i hf
   exact⟨h (t,v) (List.mem_cons_self ..) hf,YL r p hp fun q hq=>h q (List.mem_cons_of_mem _ hq)⟩
  ·exact YL r p hp fun q hq=>h q (List.mem_cons_of_mem _ hq)
theorem Z5 {A:Act} {an:List Nat} : ∀(ds:List (Option Tmp)) (vs:List (Option Value)) (k:Nat),
  (∀j t v,j ∈ an->k<=j->ds[j - k]?=some (some t)->vs[j - k]?=some (some v)->A.tmps[t]?.getD undef=v)->FactsA A an ds vs k
 | [],vs,k,_=>by unfold FactsA; trivial
 | none::ds,[],k,_=>by unfold FactsA; trivial
 | some t::ds,[],k,_=>by unfold FactsA; trivial
 | none::ds,v::vs,k,h=>by
  unfold FactsA;exact Z5 ds vs (k+1) fun j t u hj hk h1 h2=>h j t u hj (by omega) (by rw [show j - k=(j - (k+1))+1 by omega]; simpa using h1) (by rw [show j - k=(j - (k+1))+1 by omega]; simpa using h2)
 | some t::ds,none::vs,k,h=>by
  unfold FactsA;exact Z5 ds vs (k+1) fun j t u hj hk h1 h2=>h j t u hj (by omega) (by rw [show j - k=(j - (k+1))+1 by omega]; simpa using h1) (by rw [show j - k=(j - (k+1))+1 by omega]; simpa using h2)
 | some t::ds,some v::vs,k,h=>by
  have a:FactsA A an ds vs (k+1):=Z5 ds vs (k+1) fun j t u hj hk h1 h2=>h j t u hj (by omega) (by rw [show j - k=(j - (k+1))+1 by omega]; simpa using h1) (by rw [show j - k=(j - (k+1))+1 by omega]; simpa using h2);unfold FactsA;split
  ·rename_i hf
   exact⟨h k t v (by simpa using hf) (Nat.le_refl _) (by simp) (by simp),a⟩
  ·exact a
theorem Za {A:Act} {ds:List (Option Tmp)} {ac:List (List Nat)} {i:Nat} : ∀ {env:List (Nat × Value)} {p:Prop},FactsE A ds ac i env p->∀q,q ∈ env->freeAt4 ds ac i q.1=true->A.tmps[q.1]?.getD undef=q.2
 | [],p,_,q,hq,_=>by cases hq
 | (t,v)::r,p,h,q,hq,hf=>by
  unfold FactsE at h;rcases List.mem_cons.1 hq with rfl | hq
  ·rw [hf] at h; exact h.1
  ·split at h
   ·exact Za h.2 q hq hf
   ·exact Za h q hq hf
def StepsSc (P:Program) (Q:Exit->Act->World->Prop) (vals:List (Option Value)) (Sx:Nat->Value->Prop) (R:Nat->Value->List Pr) (I:Nat->List Pr) (ds:List (Option Tmp)) (ac:List (List Nat)) (env:List (Nat × Value)) (w0:World) (L:List Pr):Nat->List Oper->List (List Nat)->List (List Nat)->List (List Nat)->Prop
 | i,o::os,an::ans,us::uss,se::ses=>(∀(x:Nat->Value) (w:World) (A:Act) (rest:List Pr),
   A.defers=[]->FactsE A ds ac i env (FactsA A an ds vals 0)->(∀j,j ∈ an->Sc vals Sx j (x j)/\∀t,ds.getD j none=some t->A.tmps[t]?.getD undef=x j)->(∀φ,Ent L φ->Ent rest φ) ->
   Sp w0 (I i++(us.flatMap (fun j=>R j (x j))++(se.flatMap I++rest))) w ->
   ∀K:Act->World->Prop,(∀v w',Sc vals Sx i v->Sp w0 (R i v++(se.flatMap I++rest)) w'->K (A.put o.dst v) w') ->
   StepOb P Q o x A w K)/\StepsSc P Q vals Sx R I ds ac env w0 L (i+1) os ans uss ses
 | _,[],[],[],[]=>True
 | _,_,_,_,_=>False
theorem Y7 {vals:List (Option Value)} {Sx:Nat->Value->Prop} {R:Nat->Value->List Pr} {I:Nat->List Pr} {ds:List (Option Tmp)} {ac:List (List Nat)} {env:List (Nat × Value)} {w0:World} :
  ∀(i:Nat) (os:List Oper) (ans uss ses:List (List Nat)),StepsSc P Q vals Sx R I ds ac env w0 L i os ans uss ses->StepsSr P Q (Sc vals Sx) R I ds ac env w0 L i os ans uss ses
 | i,[],[],[],[],h=>trivial
 | i,o::os,an::ans,us::uss,se::ses,h=>by
  refine⟨fun x w A rest hd hN hS hE H K hK=>h.1 x w A rest hd ?_ hS hE H K hK,Y7 (i+1) os ans uss ses h.2⟩;refine YL env _ (Z5 ds vals 0 fun j t v hj _ h1 h2=>?_) hN;rw [Nat.sub_zero] at h1 h2;obtain⟨a,b⟩:=hS j hj;rw [b t (by rw [List.getD_eq_getElem?_getD,h1]; rfl)];unfold Sc at a;rw [List.getD_eq_getElem?_getD,h2] at a;exact a
 | i,[],an::ans,uss,ses,h=>by simp [StepsSc] at h
 | i,[],[],us::uss,ses,h=>by simp [StepsSc] at h
 | i,[],[],[],se::ses,h=>by simp [StepsSc] at h
 | i,o::os,[],uss,ses,h=>by simp [StepsSc] at h
 | i,o::os,an::ans,[],ses,h=>by simp [StepsSc] at h
 | i,o::os,an::ans,us::uss,[],h=>by simp [StepsSc] at h
theorem Zb {rid:Nat} {l:List Oper} {a0:Act} {w w0:World}
  (vals:List (Option Value)) (Sx:Nat->Value->Prop) (R:Nat->Value->List Pr) (I:Nat->List Pr) (n sz:Nat)
  (ds:List (Option Tmp)) (pre anc use see:List (List Nat)) (env:List (Nat × Value)) (hm:P.follows .mixedOrders=true)
  (hds:l.map (·.dst)=ds) (hdist:Distinct ds)
  (hpre:(l.map fun o=>(o.after.toList.filter (Region.binds .any ·)).map (·.on))=pre)
  (hok:(pre.length == n && ancOk pre anc && flowOk n anc use see && guardsOk l ds anc && anc.length == n && ds.all (fun d=>match d with | some t=>decide (t<sz) | none=>true))=true)
  (hdv:a0.defers=[]) (hsz:a0.tmps.size=sz)
  (henv:∀p,p ∈ env->a0.tmps[p.1]?.getD undef=p.2)
  (H:Sp w0 ((List.range n).flatMap I++L) w)
  (hstep:StepsSc P Q vals Sx R I ds anc env w0 L 0 l anc use see)
  (hend:∀(x:Nat->Value) (w:World) (A:Act),A=putAll a0 ds 0 x->(∀i,i<n->Sc vals Sx i (x i)) ->
   Sp w0 ((List.range n).flatMap (fun i=>if (List.range n).any (fun k=>(use.getD k []).contains i) then [] else R i (x i))++L) w->Q .normal A w) :
  (Code.region rid l.toArray true).wp P Q a0 w:=by
 simp only [Bool.and_eq_true,beq_iff_eq] at hok;obtain⟨⟨⟨⟨⟨a,b⟩,c⟩,e⟩,f⟩,g⟩:=hok;exact wp_region_sr (Sc vals Sx) R I n sz ds pre anc use see env hm hds hdist hpre a b c e f hdv hsz g henv H (Y7 0 l anc use see hstep) hend
end
end Go.Proofs.YteajimobgkempaaGreatDoor

