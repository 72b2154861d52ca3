/- A pack. -/
import Derived.BigQuiet
import Derived.Lib.Hide
import Derived.OpenShut
import Derived.ProofKit
import Derived.WalkLawsBesides
import Derived.WalkSpells
set_option linter.all false
set_option maxRecDepth 100000
set_option maxHeartbeats 8000000
namespace Go.Proofs.YteajimobgkempaaGreatDoor
theorem hid {p:Prop} (h:p):RowKit.Hid p:=Lib.hid h
theorem exq.{u} {α:Sort u} (x:α):∃y,x=y:=⟨x,rfl⟩
open Go.RowKit

def Rd (w:World) (A:Option Addr) (xs:List Value):Prop:=xs≠[]->∃ad,A=some ad/\∀j u,xs[j]?=some u->w.cell? (ad.add j)=some u
theorem Rd.at_ {w:World} {A:Option Addr} {xs:List Value} (h:Rd w A xs) {k:Nat} (hk:k<xs.length):∃ad,A=some ad/\w.cell? (ad.add k)=some xs[k]:=by
 obtain⟨ad,e,a⟩:=h (by rintro rfl; simp at hk);exact⟨ad,e,a k _ (List.getElem?_eq_getElem hk)⟩
theorem Rd.nil {w:World} {A:Option Addr} : Rd w A []:=fun h=>absurd rfl h
theorem Rd.keep {w w' : World} {A:Option Addr} {xs:List Value} (h:Rd w A xs) (hk:∀(p:Addr) u,u ∈ xs->w.cell? p=some u->w'.cell? p=w.cell? p):Rd w' A xs:=fun hn=>by
 obtain⟨b,e,a⟩:=h hn;exact⟨b,e,fun j u hu=>by rw [hk _ u (List.mem_of_getElem? hu) (a j u hu)]; exact a j u hu⟩
def cells64 (l:List Int):List Value:=l.map (Value.int .i64)
def cellsN (l:List Nat):List Value:=l.map fun n:Nat=>Value.int .i64 n
def cells8 (l:List UInt8):List Value:=l.map fun c:UInt8=>Value.int .u8 c.toNat
theorem Rd.at8 {w:World} {A:Option Addr} {l:List UInt8} (h:Rd w A (cells8 l)) {k:Nat} (hk:k<l.length) :
  ∃ad,A=some ad/\w.cell? (ad.add k)=some (.int .u8 (l[k].toNat:Int)):=by
 obtain⟨ad,e,a⟩:=h.at_ (k:=k) (by simpa [cells8] using hk);exact⟨ad,e,by simpa [cells8] using a⟩
def Byt (w:World) (v:Value) (l:List UInt8):Prop:=∃A c,v=.slice A l.length c/\Rd w A (cells8 l)/\l.length<=c/\c<=maxLen
theorem Byt.keep {w w' : World} {v:Value} {l:List UInt8} (h:Byt w v l) (hk:∀(p:Addr) (n:Int),w.cell? p=some (.int .u8 n)->w'.cell? p=w.cell? p):Byt w' v l:=by
 obtain⟨A,c,e,a,b,d⟩:=h;exact⟨A,c,e,a.keep fun p u hu hc=>by
  simp only [cells8,List.mem_map] at hu;obtain⟨x,_,rfl⟩:=hu;exact hk p _ hc,b,d⟩

def Blk (w:World) (g:Nat) (t:TypeId) (cs:List Value):Prop:=w.heap[g]?=some (.cells cs.toArray t (0,0))
section
variable {w w' : World} {g:Nat} {t:TypeId} {cs:List Value}
theorem Blk.lt (h:Blk w g t cs):g<w.heap.size:=by
 rcases Nat.lt_or_ge g w.heap.size with hlt | hge
 ·exact hlt
 ·unfold Blk at h; rw [Array.getElem?_eq_none hge] at h; cases h
theorem Blk.cell (h:Blk w g t cs) (i:Nat):w.cell? ⟨g,i,none⟩=cs[i]?:=by
 unfold Blk at h;simp [World.cell?,h]
theorem Blk.cell_any (h:Blk w g t cs) {p:Addr} (hp:p.block=g) {u:Value} (hu:w.cell? p=some u):u ∈ cs:=by
 unfold Blk at h;subst hp;simp only [World.cell?,h] at hu;split at hu
 ·cases hu
 ·exact List.mem_of_getElem? (by simpa using hu)
theorem Blk.frozen (h:Blk w g t cs) (i:Nat):w.frozen? ⟨g,i,none⟩=false:=by
 unfold Blk at h;simp [World.frozen?,h]
theorem Blk.drewN (h:Blk w g t cs) (n:Nat):Blk (w.drewN n) g t cs:=h
theorem Blk.alloc (h:Blk w g t cs) (o:Obj):Blk (w.alloc o) g t cs:=(Below.heap_alloc w o g h.lt).trans h
theorem Blk.new (w:World) (t:TypeId) (cs:List Value):Blk (w.alloc (.cells cs.toArray t)) w.heap.size t cs:=heap_alloc_new w _
theorem Blk.set_ (h:Blk w g t cs) (i:Nat) (u:Value):Blk (w.setCell ⟨g,i,none⟩ u) g t (cs.set i u):=by
 unfold Blk at h ⊢;simp [World.setCell,Array.getElem?_modify,h]
theorem Blk.far (h:Blk w g t cs) {p:Addr} (hp:g≠p.block) (u:Value):Blk (w.setCell p u) g t cs:=(Below.heap_setCell w p u g hp).trans h
end

theorem Rd.of_blk {w:World} {g:Nat} {t:TypeId} {cs:List Value} (h:Blk w g t cs):Rd w (some ⟨g,0,none⟩) cs:=fun _=>⟨_,rfl,fun j u hu=>by
 unfold Addr.add;split
 ·rename_i h0; subst h0; rw [h.cell]; exact hu
 ·show w.cell? ⟨g,0+j,none⟩=_;rw [Nat.zero_add,h.cell]; exact hu⟩
theorem Byt.of_blk {w:World} {g:Nat} {t:TypeId} (l:List UInt8) (h:Blk w g t (cells8 l)) (hm:l.length<=maxLen):Byt w (.slice (some ⟨g,0,none⟩) l.length l.length) l :=
 ⟨_,_,rfl,Rd.of_blk h,Nat.le_refl _,hm⟩
theorem Byt.nil (w:World):Byt w (.slice none 0 0) []:=⟨none,0,rfl,Rd.nil,Nat.le_refl _,by simp [maxLen]⟩
theorem X6 {w:World} {p:Addr} {u:Value} (h:w.cell? p=some u):p.block<w.heap.size:=by
 rcases Nat.lt_or_ge p.block w.heap.size with hlt | hge
 ·exact hlt
 ·unfold World.cell? at h; rw [Array.getElem?_eq_none hge] at h; cases h
theorem ZS {w:World} {p:Addr} {u:Value} (o:Obj) (h:w.cell? p=some u):(w.alloc o).cell? p=w.cell? p :=
 World.cell?_of_block (Below.heap_alloc w o p.block (X6 h))
theorem Rd.alloc {w:World} {A:Option Addr} {xs:List Value} (h:Rd w A xs) (o:Obj):Rd (w.alloc o) A xs:=h.keep fun _ _ _ hc=>ZS o hc
theorem Byt.alloc {w:World} {v:Value} {l:List UInt8} (h:Byt w v l) (o:Obj):Byt (w.alloc o) v l:=h.keep fun _ _ hc=>ZS o hc
theorem Rd.new {w:World} {g:Nat} (cs:List Value) (t:TypeId) (fr:Nat × Nat) (hg:w.heap.size=g):Rd (w.alloc (.cells cs.toArray t fr)) (some ⟨g,0,none⟩) cs:=fun _=>⟨_,rfl,fun j u hu=>by
 subst hg
 have hb:(w.alloc (.cells cs.toArray t fr)).heap[w.heap.size]?=some (.cells cs.toArray t fr):=heap_alloc_new w _
 have hc:∀i,(w.alloc (.cells cs.toArray t fr)).cell? ⟨w.heap.size,i,none⟩=cs[i]?:=fun i=>by unfold World.cell?; rw [hb]; simp
 unfold Addr.add
 split
 ·rename_i h0; subst h0; rw [hc]; exact hu
 ·show(w.alloc _).cell? ⟨w.heap.size,0+j,none⟩=_
  rw [Nat.zero_add,hc]; exact hu⟩
theorem Byt.new {w:World} {g n c:Nat} (l:List UInt8) (t:TypeId) (fr:Nat × Nat) (hg:w.heap.size=g) (hn:n=l.length) (hc:c=l.length) (hm:l.length<=maxLen) :
  Byt (w.alloc (.cells (cells8 l).toArray t fr)) (.slice (some ⟨g,0,none⟩) n c) l:=by
 subst hn hc;exact⟨_,_,rfl,Rd.new _ t fr hg,Nat.le_refl _,hm⟩
structure Mod (M:Nat->Prop) (w w' : World):Prop where
 os:w'.os=w.os
 tape:w'.tape=w.tape
 output:w'.output=w.output
 size:w.heap.size<=w'.heap.size
 block:∀k,k<w.heap.size->¬ M k->w'.heap[k]?=w.heap[k]?
section
variable {M M' : Nat->Prop} {w w1 w2 w' : World}
theorem Mod.refl (M:Nat->Prop) (w:World):Mod M w w:=⟨rfl,rfl,rfl,Nat.le_refl _,fun _ _ _=>rfl⟩
theorem Mod.trans (h:Mod M w w1) (k:Mod M' w1 w2) (hm:∀b,M' b->b<w.heap.size->M b):Mod M w w2 :=
 ⟨k.os.trans h.os,k.tape.trans h.tape,k.output.trans h.output,Nat.le_trans h.size k.size,fun i hi hM =>
  (k.block i (Nat.lt_of_lt_of_le hi h.size) (fun hc=>hM (hm i hc hi))).trans (h.block i hi hM)⟩
theorem Mod.mono (h:Mod M w w') (hm:∀b,b<w.heap.size->M b->M' b):Mod M' w w' :=
 ⟨h.os,h.tape,h.output,h.size,fun i hi hM=>h.block i hi fun hc=>hM (hm i hi hc)⟩
theorem Mod.drewN (h:Mod M w w1) (n:Nat):Mod M w (w1.drewN n):=⟨h.os,h.tape,h.output,h.size,h.block⟩
theorem Mod.drew (h:Mod M w w1):Mod M w w1.drew:=⟨h.os,h.tape,h.output,h.size,h.block⟩
theorem Mod.alloc (h:Mod M w w1) (o:Obj):Mod M w (w1.alloc o) :=
 h.trans (M':=fun _=>False) ⟨rfl,rfl,rfl,by simp,fun k hk _=>Below.heap_alloc _ _ _ hk⟩ (fun _ hb=>hb.elim)
theorem Mod.setCell (h:Mod M w w1) {p:Addr} (hp:p.block<w.heap.size->M p.block) (u:Value):Mod M w (w1.setCell p u) :=
 h.trans (M':=fun b=>b=p.block) ⟨rfl,rfl,rfl,by simp [World.setCell],fun k _ hM=>Below.heap_setCell _ _ _ _ hM⟩ (fun b hb hlt=>by subst hb; exact hp hlt)
theorem Mod.cell (h:Mod M w w') {p:Addr} (hp:p.block<w.heap.size) (hm:¬ M p.block):w'.cell? p=w.cell? p:=World.cell?_of_block (h.block p.block hp hm)
theorem Zr {p:Addr} {u:Value} (h:w.cell? p=some u):p.block<w.heap.size:=X6 h
theorem Mod.below {B:Nat} (h:Mod M w w') (hB:B<=w.heap.size) (hm:∀b,b<B->¬ M b):Below B w w' :=
 ⟨h.os,h.tape,h.output,h.size,fun k hk=>h.block k (by omega) (hm k hk)⟩
theorem Mod.blk {g:Nat} {t:TypeId} {cs:List Value} (h:Mod M w w') (hb:Blk w g t cs) (hm:¬ M g):Blk w' g t cs:=(h.block g hb.lt hm).trans hb
theorem Mod.cell_kind {g:Nat} {t:TypeId} {cs:List Value} (h:Mod (·=g) w w') (hb:Blk w g t cs) {p:Addr} {u:Value} (hu:w.cell? p=some u) (hne:u ∉ cs):w'.cell? p=w.cell? p :=
 h.cell (Zr hu) (fun e=>hne (hb.cell_any e hu))
end
theorem XP {a:Int} {b:Nat} (h:a=b):Ending.returned (.int .u32 a)=.returned (.int .u32 b):=by rw [h]
theorem Z1 {a b:Int} (h:a=b):Ending.returned (.int .i64 a)=.returned (.int .i64 b):=by rw [h]
theorem Xe {a b:Bool} (h:a=b):Ending.returned (.bool a)=.returned (.bool b):=by rw [h]
open Go.ChangeShapes Go.WideShapes Go.ChangeAt Go.RowKit

def IsRow (k:IntKind) (w:World) (a:Option Addr) (len cap:Nat) (zs:List Int):Prop :=
 (a=none/\len=0/\cap=0/\zs=[]) ∨
 ∃x,a=some x/\len<=cap/\cap<=maxLen/\zs.length=cap/\(∀i,i<zs.length->w.cell? (x.add i)=some (.int k (zs.getD i 0)))/\∀n ∈ zs,(Lit.int k n).wf=true
theorem TY {n:Int} (h:(Lit.int .u8 n).wf=true):0<=n/\n<256:=by
 have:=bounds_u8 h; omega
theorem IsRow.byt {w:World} {a:Option Addr} {len cap:Nat} {zs:List Int} (h:IsRow .u8 w a len cap zs):∃l:List UInt8,len=l.length/\Byt w (.slice a len cap) l:=by
 rcases h with ⟨rfl,rfl,rfl,rfl⟩ | ⟨x,rfl,hl,hm,hz,hc,hw⟩
 ·exact⟨[],rfl,Byt.nil w⟩
 ·refine⟨(zs.take len).map fun n=>UInt8.ofNat n.toNat,by simp; omega,some x,cap,by simp; omega,fun _=>⟨x,rfl,fun j u hu=>?_⟩,by simp; omega,hm⟩;unfold cells8 at hu;rw [List.map_map,List.getElem?_map,List.getElem?_take] at hu;split at hu
  ·rename_i hj
   have b:j<zs.length:=by omega
   rw [List.getElem?_eq_getElem b] at hu;simp only [Option.map_some,Function.comp_apply,Option.some.injEq] at hu;rw [hc j b,<- hu,List.getD_eq_getElem?_getD,List.getElem?_eq_getElem b];have c:=TY (hw _ (List.getElem_mem b));simp only [Option.getD_some];congr 2;rw [UInt8.toNat_ofNat'];omega
  ·simp at hu

section
variable {P:Program} (w:World)
theorem YV (base:Nat) (t ty e:TypeId) (i:TypeInfo) (size:Nat) (ht:P.underlying t=some (.slice e)) (hi:P.info? e=some i)
  (v:Value) (n:Nat) (xs:List Value) (hown:w.ownsRow base e size v n xs) (c:Nat):(Builtin.append_ #[t,t] ty #[v,.slice none 0 c]).run P w=.ok v w:=by
 rcases hown.2 with ⟨rfl,rfl⟩ | ⟨g,cap,cur,rfl,_,_,hnc,_⟩
 ·simp [Builtin.append_,run_underlying ht,sizeOf,typeInfo,hi,Builtin.lenOf,Builtin.firstCells]
 ·simp [Builtin.append_,run_underlying ht,sizeOf,typeInfo,hi,Builtin.lenOf,Builtin.firstCells,hnc,storeCells]
theorem Xf (base:Nat) (t ty e:TypeId) (i:TypeInfo) (z:Value) (size bytes:Nat) (ht:P.underlying t=some (.slice e)) (hi:P.info? e=some i) (hz:i.zero=some z)
  (hsize:i.size=size) (hby:i.bytes=bytes) (hzs:z.cells.size=size) (hsz:0<size)
  (v:Value) (n:Nat) (xs:List Value) (hown:w.ownsRow base e size v n xs)
  (A:Option Addr) (m c:Nat) (news:List Value) (hl:news.length=m * size) (hr:Rd w A news) (h1:∀u ∈ news,u.oneCell'=true)
  (h63:n+m<=maxLen) (hbytes:(n+m) * bytes<=140737488355328) (hbase:base<=w.heap.size) :
  ∃v' w',(Builtin.append_ #[t,t] ty #[v,.slice A m c]).run P w=.ok v' w'/\w'.ownsRow base e size v' (n+m) (xs++news)/\w.grownBy w' v.ownBlock /\
   (v'=.slice none 0 0↔v=.slice none 0 0/\m=0)/\(v'.ownBlock=v.ownBlock∨v'.ownBlock=some w.heap.size):=by
 rcases A with _ | ad
 ·have a:news=[]:=by
   rcases news with _ | ⟨x,news⟩
   ·rfl
   ·obtain⟨ad,h,_⟩:=hr (by simp); cases h
  subst a;have b:m=0:=by
   rcases Nat.eq_zero_or_pos m with h | h
   ·exact h
   ·have:=Nat.mul_pos h hsz;simp at hl; omega
  subst b;exact⟨v,w,YV w base t ty e i size ht hi v n xs hown c,by simpa using hown,World.grownBy.refl w _,by simp,.inl rfl⟩
 ·refine run_append_own_at w base t ty e i z size bytes ht hi hz hsize hby hzs hsz v n xs hown ad m c news hl (fun j u hu=>?_) h1 h63 hbytes hbase;obtain⟨d,h,f⟩:=hr (by rintro rfl; simp at hu);injection h with h
  subst h;exact f j u hu
end
theorem Zf (l:List UInt8):∀u ∈ cells8 l,u.oneCell'=true:=by
 intro u a;obtain⟨x,_,rfl⟩:=List.mem_map.1 a;rfl
theorem UZ {w:World} {base:Nat} {e:TypeId} {v:Value} {l:List UInt8} (h:w.ownsRow base e 1 v l.length (cells8 l)):Byt w v l:=by
 rcases h.2 with ⟨rfl,h0⟩ | ⟨g,cap,cur,rfl,hb,hh,h1,h2,h3,h4⟩
 ·have:l=[]:=List.eq_nil_of_length_eq_zero h0;subst this;exact Byt.nil w
 ·refine⟨_,_,rfl,fun _=>⟨_,rfl,fun j u hu=>?_⟩,h1,h2⟩;have b:j<l.length:=by
   have:=(List.getElem?_eq_some_iff.1 hu).1;simpa [cells8] using this
  have a:(Addr.add ⟨g,0,none⟩ j)=⟨g,j,none⟩:=by
   unfold Addr.add; split
   ·rename_i h0; subst h0; rfl
   ·simp
  rw [a,h.cellAt j (by omega)];exact hu
theorem U0 {w:World} {g:Nat} {o:Obj} (h:w.heap[g]?=some o):g<w.heap.size:=by
 rcases Nat.lt_or_ge g w.heap.size with hlt | hge
 ·exact hlt
 ·rw [Array.getElem?_eq_none hge] at h; cases h

abbrev Hp:=Nat->Option Obj
def hpOf (w:World):Hp:=fun b=>w.heap[b]?
abbrev Pr:=Hp->Prop
open Classical in
noncomputable def rs (s:Nat->Prop) (h:Hp):Hp:=fun b=>if s b then h b else none
theorem rs_pos {s:Nat->Prop} {h:Hp} {b:Nat} (e:s b):rs s h b=h b:=if_pos e
theorem Z2 {s:Nat->Prop} {h:Hp} {b:Nat} (e:¬ s b):rs s h b=none:=if_neg e
theorem Zz {s:Nat->Prop} {h:Hp} {b:Nat} {o:Obj} (e:rs s h b=some o):s b/\h b=some o:=by
 by_cases k:s b
 ·rw [rs_pos k] at e; exact⟨k,e⟩
 ·rw [Z2 k] at e; cases e
theorem TZ {s t:Nat->Prop} {h h' : Hp} (k:∀b,(s b/\t b/\h b=h' b)∨(¬ s b/\¬ t b)∨(h b=none/\¬ t b)∨(¬ s b/\h' b=none)):rs s h=rs t h':=by
 funext b;rcases k b with ⟨h1,h2,h3⟩ | ⟨h1,h2⟩ | ⟨h1,h2⟩ | ⟨h1,h2⟩
 ·rw [rs_pos h1,rs_pos h2,h3]
 ·rw [Z2 h1,Z2 h2]
 ·rw [Z2 h2];by_cases e:s b
  ·rw [rs_pos e,h1]
  ·rw [Z2 e]
 ·rw [Z2 h1];by_cases e:t b
  ·rw [rs_pos e,h2]
  ·rw [Z2 e]
theorem U3 {s t:Nat->Prop} {h:Hp} : rs s (rs t h)=rs (fun b=>s b/\t b) h:=by
 funext b;by_cases e:s b
 ·rw [rs_pos e];by_cases a:t b
  ·rw [rs_pos a,rs_pos ⟨e,a⟩]
  ·rw [Z2 a,Z2 (fun k=>a k.2)]
 ·rw [Z2 e,Z2 (fun k=>e k.1)]
theorem Y1 {s t:Nat->Prop} {h:Hp} (k:∀b,s b↔t b):rs s h=rs t h:=by
 have:s=t:=funext fun b=>propext (k b);rw [this]
noncomputable def cut (h:Hp) (own:Nat->Nat) (i:Nat):Hp:=rs (fun b=>own b=i) h
structure Sp (w0:World) (L:List Pr) (w:World):Prop where
 os:w.os=w0.os
 tape:w.tape=w0.tape
 output:w.output=w0.output
 own:∃own:Nat->Nat,∀(i:Nat) (A:Pr),L[i]?=some A->A (cut (hpOf w) own i)
def Emp:Pr:=fun _=>True
def Is (g:Nat) (o:Obj):Pr:=fun h=>h g=some o
def Bk (g:Nat) (t:TypeId) (cs:List Value):Pr:=Is g (.cells cs.toArray t (0,0))
def Same (w0:World):Pr:=fun h=>∀b,b<w0.heap.size->h b=w0.heap[b]?
def Ex {α:Sort _} (A:α->Pr):Pr:=fun h=>∃x,A x h
def Star (A B:Pr):Pr:=fun h=>∃s:Nat->Prop,A (rs s h)/\B (rs (fun b=>¬ s b) h)
def Ent (L:List Pr) (φ:World->Prop):Prop:=∀w0 w,Sp w0 L w->φ w

theorem Ent.mono {L:List Pr} {φ ψ:World->Prop} (h:Ent L φ) (k:∀w,φ w->ψ w):Ent L ψ:=fun _ _ H=>k _ (h _ _ H)
theorem Sp.get {w0 w:World} {L:List Pr} {φ:World->Prop} (H:Sp w0 L w) (h:Ent L φ):φ w:=h _ _ H

theorem W8 {h h' : Hp} {own own' : Nat->Nat} {i j:Nat} (k:∀b,(own b=i/\own' b=j/\h b=h' b)∨(own b≠i/\own' b≠j)∨(h b=none/\own' b≠j)∨(own b≠i/\h' b=none)):cut h own i=cut h' own' j:=TZ k
theorem ZT {h:Hp} {own own' : Nat->Nat} {i j:Nat} (k:∀b,own b=i↔own' b=j):cut h own i=cut h own' j:=Y1 k

theorem Sp.start (w:World):Sp w [Same w] w:=⟨rfl,rfl,rfl,fun _=>0,fun i A h=>by
 match i with
 | 0 =>
  obtain rfl:Same w=A:=by simpa using h
  intro b hb; exact rs_pos rfl
 | i+1=>simp at h⟩
theorem Sp.below {w0 w:World} {L:List Pr} (H:Sp w0 L w) (k:Nat) (hk:L[k]?=some (Same w0)):Below w0.heap.size w0 w:=by
 obtain⟨e,f,g,own,h⟩:=H;have i:=h k _ hk;have a:∀b,b<w0.heap.size->w.heap[b]?=w0.heap[b]?:=fun b a=>by
  have c:=i b a;rw [Array.getElem?_eq_getElem a] at c ⊢;exact(Zz c).2
 refine⟨e,f,g,?_,a⟩;rcases Nat.eq_zero_or_pos w0.heap.size with h0 | h0
 ·omega
 ·have d:=a (w0.heap.size - 1) (by omega);rw [Array.getElem?_eq_getElem (show w0.heap.size - 1<w0.heap.size by omega)] at d;have:=(Array.getElem?_eq_some_iff.1 d).1;omega
theorem Sp.pick {w0 w:World} {L:List Pr} (n:Nat) (σ:List Nat) (H:Sp w0 L w) (hσ:σ.Nodup/\∀i ∈ σ,i<n:=by decide) :
  Sp w0 (σ.map (fun i=>L.getD i Emp)++L.drop n) w:=by
 obtain⟨l,m,o,own,h⟩:=H;obtain⟨f,g⟩:=hσ;refine⟨l,m,o,fun b=>if own b ∈ σ then σ.idxOf (own b) else if own b<n then σ.length+L.length else σ.length+(own b - n),fun j A hj=>?_⟩;by_cases a:j<σ.length
 ·rw [List.getElem?_append_left (by simpa using a),List.getElem?_map,List.getElem?_eq_getElem a] at hj;simp only [Option.map_some,Option.some.injEq] at hj;rw [List.getD_eq_getElem?_getD] at hj;cases hl:L[σ[j]]? with
  | none=>rw [hl] at hj; subst hj; trivial
  | some B =>
   rw [hl] at hj;simp only [Option.getD_some] at hj;subst hj;have:=h _ _ hl;rw [ZT (own:=own) (i:=σ[j]) (j:=j) (fun b=>?_)] at this
   ·exact this
   ·constructor
    ·intro e;simp only [e,List.getElem_mem,if_true];exact f.idxOf_getElem j a
    ·intro e;by_cases c:own b ∈ σ
     ·rw [if_pos c] at e;have k:=List.getElem_idxOf (List.idxOf_lt_length_of_mem c);simp only [e] at k;exact k.symm
     ·rw [if_neg c] at e;by_cases d:own b<n
      ·rw [if_pos d] at e; omega
      ·rw [if_neg d] at e; omega
 ·rw [List.getElem?_append_right (by simpa using a),List.getElem?_drop,List.length_map] at hj;have:=h _ _ hj;have p:n+(j - σ.length)<L.length:=(List.getElem?_eq_some_iff.1 hj).1;rw [ZT (own:=own) (i:=n+(j - σ.length)) (j:=j) (fun b=>?_)] at this
  ·exact this
  ·constructor
   ·intro e;rw [if_neg (fun c=>by have:=g _ c; omega),if_neg (by omega)]; omega
   ·intro e;by_cases c:own b ∈ σ
    ·rw [if_pos c] at e;have:=List.idxOf_lt_length_of_mem c;omega
    ·rw [if_neg c] at e;by_cases d:own b<n
     ·rw [if_pos d] at e; omega
     ·rw [if_neg d] at e; omega
theorem Sp.tail {w0 w:World} {A:Pr} {L:List Pr} (H:Sp w0 (A::L) w):Sp w0 L w:=H.pick 1 []
theorem Ent.cons {L:List Pr} {φ:World->Prop} (A:Pr) (h:Ent L φ):Ent (A::L) φ:=fun _ _ H=>h _ _ H.tail
theorem Ent.pick {L:List Pr} {φ:World->Prop} (n:Nat) (σ:List Nat) (h:Ent (σ.map (fun i=>L.getD i Emp)++L.drop n) φ) (hσ:σ.Nodup/\∀i ∈ σ,i<n:=by decide):Ent L φ:=fun _ _ H=>h _ _ (H.pick n σ hσ)
theorem Sp.tail2 {w0 w:World} {A B:Pr} {L:List Pr} (H:Sp w0 (A::B::L) w):Sp w0 L w:=H.tail.tail
theorem Sp.swap {w0 w:World} {A B:Pr} {L:List Pr} (H:Sp w0 (A::B::L) w):Sp w0 (B::A::L) w:=H.pick 2 [1,0]

theorem Sp.grow {w0 w w' : World} {L:List Pr} (H:Sp w0 L w) (hos:w'.os=w.os) (ht:w'.tape=w.tape) (ho:w'.output=w.output) (hb:∀k,k<w.heap.size->w'.heap[k]?=w.heap[k]?):Sp w0 L w':=by
 obtain⟨c,d,f,own,h⟩:=H;refine⟨hos.trans c,ht.trans d,ho.trans f,fun b=>if b<w.heap.size then own b else L.length,fun i A hi=>?_⟩;have g:=(List.getElem?_eq_some_iff.1 hi).1;refine cast (congrArg A (W8 fun b=>?_)) (h i A hi);by_cases a:b<w.heap.size
 ·by_cases e:own b=i
  ·exact .inl ⟨e,by rw [if_pos a]; exact e,(hb b a).symm⟩
  ·exact .inr (.inl ⟨e,by rw [if_pos a]; exact e⟩)
 ·exact .inr (.inr (.inl ⟨Array.getElem?_eq_none (by omega),by rw [if_neg a]; omega⟩))
theorem Sp.drew {w0 w:World} {L:List Pr} (H:Sp w0 L w):Sp w0 L w.drew:=⟨H.os,H.tape,H.output,H.own⟩
theorem Sp.drewN {w0 w:World} {L:List Pr} (H:Sp w0 L w) (n:Nat):Sp w0 L (w.drewN n):=⟨H.os,H.tape,H.output,H.own⟩
theorem Sp.new {w0 w:World} {L:List Pr} (H:Sp w0 L w) (o:Obj):Sp w0 (Is w.heap.size o::L) (w.alloc o):=by
 obtain⟨c,d,f,own,h⟩:=H;refine⟨c,d,f,fun b=>if b=w.heap.size then 0 else own b+1,fun i A hi=>?_⟩
 match i with
 | 0 =>
  obtain rfl:Is w.heap.size o=A:=by simpa using hi
  exact(rs_pos (by simp)).trans (heap_alloc_new w o)
 | i+1 =>
  refine cast (congrArg A (W8 fun b=>?_)) (h i A (by simpa using hi));by_cases e:b=w.heap.size
  ·exact .inr (.inr (.inl ⟨Array.getElem?_eq_none (by omega),by rw [if_pos e]; omega⟩))
  ·have g:(w.alloc o).heap[b]?=w.heap[b]?:=by
    show(w.heap.push o)[b]?=_;rw [Array.getElem?_push,if_neg e]
   rw [if_neg e];by_cases a:own b=i
   ·exact .inl ⟨a,by omega,g.symm⟩
   ·exact .inr (.inl ⟨a,by omega⟩)
theorem Sp.alloc {w0 w:World} {L:List Pr} (H:Sp w0 L w) (o:Obj):Sp w0 L (w.alloc o):=(H.new o).tail
theorem Sp.newBk {w0 w:World} {L:List Pr} (H:Sp w0 L w) (cs:List Value) (t:TypeId):Sp w0 (Bk w.heap.size t cs::L) (w.alloc (.cells cs.toArray t)):=H.new _

theorem Sp.turn {w0 w w' : World} {A A' : Pr} {L:List Pr} (H:Sp w0 (A::L) w) (hos:w'.os=w.os) (ht:w'.tape=w.tape) (ho:w'.output=w.output)
  (h:∀s:Nat->Prop,A (rs s (hpOf w))->(∀b,b<w.heap.size->¬ s b->w'.heap[b]?=w.heap[b]?)/\A' (rs (fun b=>s b∨w.heap.size<=b) (hpOf w'))):Sp w0 (A'::L) w':=by
 obtain⟨d,f,g,own,c⟩:=H;obtain⟨j,k⟩:=h (fun b=>own b=0) (c 0 A rfl);refine⟨hos.trans d,ht.trans f,ho.trans g,fun b=>if w.heap.size<=b then 0 else own b,fun i B hi=>?_⟩
 match i with
 | 0 =>
  obtain rfl:A'=B:=by simpa using hi
  refine cast (congrArg A' (Y1 fun b=>?_)) k;show _↔(if w.heap.size<=b then 0 else own b)=0;by_cases e:w.heap.size<=b
  ·rw [if_pos e]; simp [e]
  ·rw [if_neg e]; simp [e]
 | i+1 =>
  refine cast (congrArg B (W8 fun b=>?_)) (c (i+1) B (by simpa using hi));by_cases e:w.heap.size<=b
  ·exact .inr (.inr (.inl ⟨Array.getElem?_eq_none e,by rw [if_pos e]; omega⟩))
  ·rw [if_neg e];by_cases a:own b=i+1
   ·exact .inl ⟨a,a,(j b (by omega) (by omega)).symm⟩
   ·exact .inr (.inl ⟨a,a⟩)
open Classical in
theorem Sp.unstar {w0 w:World} {A B:Pr} {L:List Pr} (H:Sp w0 (Star A B::L) w):Sp w0 (A::B::L) w:=by
 obtain⟨g,h,j,own,f⟩:=H;obtain⟨s,a,c⟩:=f 0 _ rfl;refine⟨g,h,j,fun b=>if own b=0 then (if s b then 0 else 1) else own b+1,fun i C hi=>?_⟩;unfold cut at a c;rw [U3] at a c
 match i with
 | 0 =>
  obtain rfl:A=C:=by simpa using hi
  refine cast (congrArg A (Y1 fun b=>?_)) a;by_cases e:own b=0 <;> by_cases d:s b <;> simp [e,d]
 | 1 =>
  obtain rfl:B=C:=by simpa using hi
  refine cast (congrArg B (Y1 fun b=>?_)) c;by_cases e:own b=0 <;> by_cases d:s b <;> simp [e,d]
 | i+2 =>
  refine cast (congrArg C (ZT fun b=>?_)) (f (i+1) C (by simpa using hi));by_cases e:own b=0
  ·rw [if_pos e]; split <;> omega
  ·rw [if_neg e]; omega
theorem Sp.star {w0 w:World} {A B:Pr} {L:List Pr} (H:Sp w0 (A::B::L) w):Sp w0 (Star A B::L) w:=by
 obtain⟨d,f,g,own,a⟩:=H;have h:=a 0 _ rfl;have j:=a 1 _ rfl;refine⟨d,f,g,fun b=>if own b<=1 then 0 else own b - 1,fun i C hi=>?_⟩
 match i with
 | 0 =>
  obtain rfl:Star A B=C:=by simpa using hi
  refine⟨fun b=>own b=0,?_,?_⟩
  ·unfold cut; rw [U3];refine cast (congrArg A (Y1 fun b=>?_)) h;by_cases e:own b=0 <;> simp [e]
  ·unfold cut; rw [U3];refine cast (congrArg B (Y1 fun b=>?_)) j;by_cases e:own b=0
   ·simp [e]
   ·by_cases c:own b=1
    ·simp [c]
    ·have:¬ own b<=1:=by omega
     have k:¬ (own b - 1=0):=by omega
     simp [e,c,this,k]
 | i+1 =>
  refine cast (congrArg C (ZT fun b=>?_)) (a (i+2) C (by simpa using hi));by_cases e:own b<=1
  ·rw [if_pos e]; omega
  ·rw [if_neg e]; omega
theorem Sp.unex {α:Sort _} {w0 w:World} {A:α->Pr} {L:List Pr} (H:Sp w0 (Ex A::L) w):∃x,Sp w0 (A x::L) w:=by
 obtain⟨b,c,d,own,a⟩:=H;obtain⟨x,e⟩:=a 0 _ rfl;refine⟨x,b,c,d,own,fun i C hi=>?_⟩
 match i with
 | 0 =>
  obtain rfl:A x=C:=by simpa using hi
  exact e
 | i+1=>exact a (i+1) C (by simpa using hi)
theorem Sp.ex {α:Sort _} {w0 w:World} {A:α->Pr} {L:List Pr} (x:α) (H:Sp w0 (A x::L) w):Sp w0 (Ex A::L) w:=by
 obtain⟨b,c,d,own,a⟩:=H;refine⟨b,c,d,own,fun i C hi=>?_⟩
 match i with
 | 0 =>
  obtain rfl:Ex A=C:=by simpa using hi
  exact⟨x,a 0 _ rfl⟩
 | i+1=>exact a (i+1) C (by simpa using hi)

theorem Sp.is_ {w0 w:World} {L:List Pr} (H:Sp w0 L w) (k:Nat) {g:Nat} {o:Obj} (hk:L[k]?=some (Is g o)):w.heap[g]?=some o:=by
 obtain⟨_,_,_,own,h⟩:=H;have:=h k _ hk;exact(Zz this).2
theorem Sp.blk {w0 w:World} {L:List Pr} (H:Sp w0 L w) (k:Nat) {g:Nat} {t:TypeId} {cs:List Value} (hk:L[k]?=some (Bk g t cs)):Blk w g t cs:=H.is_ k hk
theorem Sp.cell {w0 w:World} {L:List Pr} (H:Sp w0 L w) (k:Nat) {g:Nat} {t:TypeId} {cs:List Value} (hk:L[k]?=some (Bk g t cs)) (i:Nat):w.cell? ⟨g,i,none⟩=cs[i]?:=(H.blk k hk).cell i
theorem Sp.frozen {w0 w:World} {L:List Pr} (H:Sp w0 L w) (k:Nat) {g:Nat} {t:TypeId} {cs:List Value} (hk:L[k]?=some (Bk g t cs)) (i:Nat):w.frozen? ⟨g,i,none⟩=false:=(H.blk k hk).frozen i
theorem Sp.set {w0 w:World} {L:List Pr} {g:Nat} {t:TypeId} {cs:List Value} (H:Sp w0 (Bk g t cs::L) w) (i:Nat) (u:Value):Sp w0 (Bk g t (cs.set i u)::L) (w.setCell ⟨g,i,none⟩ u):=by
 have c : Blk (w.setCell ⟨g,i,none⟩ u) g t (cs.set i u):=(H.blk 0 rfl).set_ i u;refine H.turn rfl rfl rfl fun s hs=>?_;have a:=(Zz hs).1;exact⟨fun b _ hsb=>Below.heap_setCell _ _ _ _ (by rintro rfl; exact hsb a),(rs_pos (.inl a)).trans c⟩
theorem Sp.put {w0 w:World} {L:List Pr} {g:Nat} {o:Obj} (H:Sp w0 (Is g o::L) w) (o' : Obj):Sp w0 (Is g o'::L) { w with heap:=w.heap.setIfInBounds g o' }:=by
 have c:=U0 (H.is_ 0 rfl);refine H.turn rfl rfl rfl fun s hs=>?_;have a:=(Zz hs).1;refine⟨fun b _ hsb=>?_,(rs_pos (.inl a)).trans ?_⟩
 ·show(w.heap.setIfInBounds g o')[b]?=_;rw [Array.getElem?_setIfInBounds,if_neg];rintro rfl;exact hsb a
 ·show(w.heap.setIfInBounds g o')[g]?=_;rw [Array.getElem?_setIfInBounds,if_pos rfl,if_pos c]

def Row (e:TypeId) (size:Nat) (v:Value) (n:Nat) (xs:List Value):Pr:=fun h =>
 xs.length=n * size/\((v=.slice none 0 0/\n=0) ∨
  ∃g cap cur,v=.slice (some ⟨g,0,none⟩) n cap/\h g=some (.cells cur e (0,0))/\n<=cap/\cap<=maxLen/\cur.size=cap * size/\cur.toList.take (n * size)=xs)
theorem Sp.owns {w0 w:World} {L:List Pr} (H:Sp w0 L w) (k:Nat) {e:TypeId} {size n:Nat} {v:Value} {xs:List Value} (hk:L[k]?=some (Row e size v n xs)):w.ownsRow 0 e size v n xs:=by
 obtain⟨_,_,_,own,h⟩:=H;obtain⟨c,d⟩:=h k _ hk;refine⟨c,d.imp id ?_⟩;rintro⟨g,a,b,f,i,r⟩;exact⟨g,a,b,f,Nat.zero_le _,(Zz i).2,r⟩
theorem Sp.rowNil {w0 w:World} {L:List Pr} (H:Sp w0 L w) (e:TypeId) (size:Nat):Sp w0 (Row e size (.slice none 0 0) 0 []::L) w:=by
 obtain⟨a,c,d,own,h⟩:=H;refine⟨a,c,d,fun b=>own b+1,fun i A hi=>?_⟩
 match i with
 | 0 =>
  obtain rfl:Row e size (.slice none 0 0) 0 []=A:=by simpa using hi
  exact⟨by simp,.inl ⟨rfl,rfl⟩⟩
 | i+1=>exact cast (congrArg A (ZT fun b=>by omega)) (h i A (by simpa using hi))
theorem Sp.appended {w0 w w' : World} {L:List Pr} {e:TypeId} {size n n' : Nat} {v v' : Value} {xs xs' : List Value} (H:Sp w0 (Row e size v n xs::L) w)
  (ho:w'.ownsRow 0 e size v' n' xs') (hg:w.grownBy w' v.ownBlock) (ha:v'.ownBlock=v.ownBlock∨v'.ownBlock=some w.heap.size):Sp w0 (Row e size v' n' xs'::L) w':=by
 refine H.turn hg.os hg.tape hg.output fun s hs=>?_;have a:∀g,v.ownBlock=some g->s g:=fun g hv=>by
  rcases hs.2 with ⟨rfl,_⟩ | ⟨g',cap,cur,rfl,hh,_⟩
  ·simp [Value.ownBlock] at hv
  ·simp only [Value.ownBlock,Option.some.injEq] at hv;subst hv;exact(Zz hh).1
 refine⟨fun b hb hsb=>hg.block b hb fun e=>hsb (a b e.symm),ho.1,ho.2.imp id ?_⟩;rintro⟨g,cap,cur,rfl,_,hh,r⟩;refine⟨g,cap,cur,rfl,(rs_pos ?_).trans hh,r⟩;rcases ha with ha | ha
 ·exact .inl (a g (by rw [<- ha]; rfl))
 ·simp only [Value.ownBlock,Option.some.injEq] at ha;exact .inr (by omega)
theorem Sp.bkRow {w0 w:World} {L:List Pr} {g:Nat} {t:TypeId} {cs:List Value} (H:Sp w0 (Bk g t cs::L) w) (size n:Nat) (hn:cs.length=n * size) (hm:n<=maxLen):Sp w0 (Row t size (.slice (some ⟨g,0,none⟩) n n) n cs::L) w :=
 H.turn rfl rfl rfl fun s hs=>⟨fun _ _ _=>rfl,hn,.inr ⟨g,n,cs.toArray,rfl,(rs_pos (.inl (Zz hs).1)).trans (Zz hs).2,Nat.le_refl _,hm,by simpa using hn,by simp [<- hn]⟩⟩

def Sl (w:World) (v:Value) (xs:List Value):Prop:=∃A c,v=.slice A xs.length c/\Rd w A xs/\xs.length<=c/\c<=maxLen
theorem Byt.sl {w:World} {v:Value} {l:List UInt8} (h:Byt w v l):Sl w v (cells8 l):=by
 obtain⟨A,c,e,r⟩:=h;exact⟨A,c,by simpa [cells8] using e,r.1,by simpa [cells8] using r.2⟩
theorem Sp.row_byt {w0 w:World} {L:List Pr} (H:Sp w0 L w) (k:Nat) {e:TypeId} {v:Value} {l:List UInt8} (hk:L[k]?=some (Row e 1 v l.length (cells8 l))):Byt w v l:=UZ (H.owns k hk)
theorem Ent.same {w0:World} {L:List Pr} (k:Nat) (hk:L[k]?=some (Same w0)) {v:Value} {l:List UInt8} (h:Byt w0 v l):∀w,Sp w0 L w->Byt w v l:=fun w H=>by
 have a:=H.below k hk;exact h.keep fun p n hp=>a.cell (Zr hp)
def Keep (w w' : World):Prop:=w'.os=w.os/\w'.tape=w.tape/\w'.output=w.output/\w.heap.size<=w'.heap.size/\∀k,k<w.heap.size->w'.heap[k]?=w.heap[k]?
theorem Keep.refl (w:World):Keep w w:=⟨rfl,rfl,rfl,Nat.le_refl _,fun _ _=>rfl⟩
theorem Keep.trans {a b c:World} (h:Keep a b) (k:Keep b c):Keep a c :=
 ⟨k.1.trans h.1,k.2.1.trans h.2.1,k.2.2.1.trans h.2.2.1,Nat.le_trans h.2.2.2.1 k.2.2.2.1,fun i hi=>(k.2.2.2.2 i (Nat.lt_of_lt_of_le hi h.2.2.2.1)).trans (h.2.2.2.2 i hi)⟩
theorem Keep.sep {w0 w w' : World} {L:List Pr} (h:Keep w w') (H:Sp w0 L w):Sp w0 L w':=H.grow h.1 h.2.1 h.2.2.1 h.2.2.2.2
theorem Keep.below {w w' : World} (h:Keep w w'):Below w.heap.size w w':=⟨h.1,h.2.1,h.2.2.1,h.2.2.2.1,h.2.2.2.2⟩
theorem Below.keep {w w' : World} (h:Below w.heap.size w w'):Keep w w':=⟨h.os,h.tape,h.output,h.size,h.block⟩
theorem Keep.alloc (w:World) (o:Obj):Keep w (w.alloc o):=Below.keep ((Below.refl _ _).alloc (Nat.le_refl _) _)
theorem Keep.drew (w:World):Keep w w.drew:=⟨rfl,rfl,rfl,Nat.le_refl _,fun _ _=>rfl⟩
theorem Keep.drewN (w:World) (n:Nat):Keep w (w.drewN n):=⟨rfl,rfl,rfl,Nat.le_refl _,fun _ _=>rfl⟩
theorem U4 {P:Program} {f:FuncId} {args:Array Value} {w:World} (h:Calls P f args w fun e w'=>e=.returned (.bool true)/\Sp w [Same w] w') :
  Calls P f args w fun e w'=>e=.returned (.bool true)/\Below w.heap.size w w':=h.mono fun _ _ k=>⟨k.1,k.2.below 0 rfl⟩
end Go.Proofs.YteajimobgkempaaGreatDoor

namespace Go.Proofs.YteajimobgkempaaGreatDoor.PCrc
def tab:List Nat:=[0,498536548,997073096,651767980,1994146192,1802195444,1303535960,1342533948,3988292384,4027552580,3604390888,3412177804,2607071920,2262029012,2685067896,3183342108]
def whn:List Nat:=[0,1,3,2,6,7,5,4,13,12,14,15,11,10,8,9]
def half (x:Nat):Nat:=x / 16 ^^^ tab.getD (x % 16) 0
def whole (x:Nat):Nat:=half (half x)
def undone (x:Nat):Nat:=((x ^^^ tab.getD (whn.getD (x / 268435456) 0) 0) * 16) % 4294967296 ^^^ whn.getD (x / 268435456) 0
def put (x:Nat) (c:UInt8):Nat:=whole (x ^^^ c.toNat)
def reg (x:Nat) (l:List UInt8):Nat:=l.foldl put x
def inv (x:Nat):Nat:=4294967295 - x
def of (l:List UInt8):Nat:=inv (reg 4294967295 l)

theorem tab_lt:∀i,i<16->tab.getD i 0<4294967296:=by decide
theorem tab_lt' (i:Nat):tab.getD i 0<4294967296:=by
 by_cases h:i<16
 ·exact tab_lt i h
 ·have a:tab.length<=i:=by rw [show tab.length=16 from rfl]; omega
  have:tab.getD i 0=0:=by rw [List.getD_eq_getElem?_getD,List.getElem?_eq_none a]; rfl
  omega
theorem half_lt (x:Nat) (h:x<4294967296):half x<4294967296:=by
 unfold half;exact Nat.xor_lt_two_pow (n:=32) (by omega) (tab_lt' _)
theorem whole_lt (x:Nat) (h:x<4294967296):whole x<4294967296:=half_lt _ (half_lt _ h)
theorem put_lt (x:Nat) (c:UInt8) (h:x<4294967296):put x c<4294967296 :=
 whole_lt _ (Nat.xor_lt_two_pow (n:=32) h (by have:=c.toNat_lt; omega))
theorem reg_lt (l:List UInt8):∀x,x<4294967296->reg x l<4294967296:=by
 induction l with
 | nil=>intro x h; exact h
 | cons c l ih=>intro x h; exact ih _ (put_lt x c h)
theorem inv_lt (x:Nat) (_h:x<4294967296):inv x<4294967296:=by unfold inv; omega
theorem inv_xor:∃m:Nat,m=4294967295/\m<4294967296/\∀x,x<4294967296->inv x=m ^^^ x:=by
 refine⟨2 ^ 32 - 1,by omega,by omega,fun x h=>?_⟩;unfold inv;apply Nat.eq_of_testBit_eq;intro i;rw [show 4294967295 - x=2 ^ 32 - (x+1) by omega,Nat.testBit_two_pow_sub_succ h,Nat.testBit_xor,Nat.testBit_two_pow_sub_one];by_cases a:i<32
 ·simp [a]
 ·have:x.testBit i=false:=Nat.testBit_lt_two_pow (Nat.lt_of_lt_of_le h (by rw [show(4294967296:Nat)=2 ^ 32 by omega]; exact Nat.pow_le_pow_right (by decide) (by omega)));simp [a,this]
theorem of_lt (l:List UInt8):of l<4294967296:=inv_lt _ (reg_lt _ _ (by omega))
theorem reg_append (x:Nat) (l m:List UInt8):reg x (l++m)=reg (reg x l) m:=by unfold reg; rw [List.foldl_append]
theorem xor_join (n z k:Nat) (h:k<2 ^ n):z * 2 ^ n ^^^ k=z * 2 ^ n+k:=by
 apply Nat.eq_of_testBit_eq;intro i;rw [Nat.testBit_xor,Nat.mul_comm,Nat.testBit_two_pow_mul,Nat.testBit_two_pow_mul_add z h];by_cases a:i<n
 ·rw [if_pos a,show decide (i≥n)=false by simp; omega]; simp
 ·have:k.testBit i=false:=Nat.testBit_lt_two_pow (Nat.lt_of_lt_of_le h (Nat.pow_le_pow_right (by decide) (by omega)));rw [if_neg a,show decide (i≥n)=true by simp; omega,this]; simp
theorem xor_u8_lt (x:Nat) (c:UInt8) (h:x<4294967296):x ^^^ c.toNat<4294967296 :=
 Nat.xor_lt_two_pow (n:=32) h (by have:=c.toNat_lt; omega)
def word (a b c d:UInt8):Nat:=a.toNat ^^^ 256 * (b.toNat ^^^ 256 * (c.toNat ^^^ 256 * d.toNat))
def w4 (x:Nat):Nat:=whole (whole (whole (whole x)))
/-! the four bytes that bring it anywhere -/
def u8 (x:Nat):Nat:=undone (undone (undone (undone (undone (undone (undone (undone x)))))))
def tail (sum want:Nat):Nat:=u8 (inv want) ^^^ inv sum
/-! bit by bit -/
def bitstep (x:Nat):Nat:=if x % 2=1 then x / 2 ^^^ 3988292384 else x / 2
def step (x:Nat) (c:UInt8):Nat :=
 bitstep (bitstep (bitstep (bitstep (bitstep (bitstep (bitstep (bitstep (x ^^^ c.toNat))))))))
theorem bitstep_eq (x:Nat):bitstep x=x / 2 ^^^ [0,3988292384].getD (x % 2) 0:=by
 unfold bitstep;rcases Nat.mod_two_eq_zero_or_one x with h | h <;> simp [h]
theorem bitstep_lin (x y:Nat):bitstep (x ^^^ y)=bitstep x ^^^ bitstep y:=by
 simp only [bitstep_eq];have a:(x ^^^ y) / 2=x / 2 ^^^ y / 2:=Nat.xor_div_two_pow (n:=1);have b:(x ^^^ y) % 2=x % 2 ^^^ y % 2:=Nat.xor_mod_two_pow (n:=1);have c:∀i,i<2->∀j,j<2->[0,3988292384].getD (i ^^^ j) 0=[0,3988292384].getD i 0 ^^^ [0,3988292384].getD j 0:=by decide
 rw [a,b,c _ (Nat.mod_lt _ (by decide)) _ (Nat.mod_lt _ (by decide))]
 ac_rfl
theorem bitstep_2 (y:Nat):bitstep (2 * y)=y:=by
 unfold bitstep; rw [if_neg (by omega)]; omega
theorem four_bits (x:Nat):bitstep (bitstep (bitstep (bitstep x)))=half x:=by
 have a:=xor_join 4 (x / 16) (x % 16) (by omega);rw [show(2:Nat) ^ 4=16 from rfl,show x / 16 * 16+x % 16=x by omega] at a;have e:x / 16 * 16=2 * (2 * (2 * (2 * (x / 16)))):=by omega
 conv=>lhs; rw [<- a,e]
 simp only [bitstep_lin,bitstep_2];have b:∀i,i<16->bitstep (bitstep (bitstep (bitstep i)))=tab.getD i 0:=by decide
 rw [b _ (Nat.mod_lt _ (by decide))];rfl
theorem step_eq (x:Nat) (c:UInt8):step x c=put x c:=by
 unfold step put whole;rw [four_bits,four_bits]
theorem bitstep_lt (x:Nat) (h:x<4294967296):bitstep x<4294967296:=by
 unfold bitstep;split
 ·exact Nat.xor_lt_two_pow (n:=32) (by omega) (by omega)
 ·omega
end Go.Proofs.YteajimobgkempaaGreatDoor.PCrc

