/- A pack. -/
import Derived.Lib.AppendZeros
import Derived.Lib.LazyBuf
import Derived.Lib.MakeNoZero
import Derived.Lib.SlBuf
import Derived.Shelf.Bits.Mul64
import Derived.StillTailTactics
import Derived.Test.YteajimobgkempaaGreatDoorProg
import Derived.Test.YteajimobgkempaaGreatDoorPk02
set_option linter.all false
set_option maxRecDepth 100000
set_option maxHeartbeats 8000000
namespace Go.Proofs.YteajimobgkempaaGreatDoor
variable {w0 w:World} {L:List Pr}
open Go.RowKit
section
variable {P:Program}
theorem Zg {o:Oper} {a:Act} {K:Act->World->Prop} {Q:Exit->Act->World->Prop} (s x:Operand) (t:TypeId)
  (ho:o.op=.call { callee:=.builtin .append,args:=#[s,x],argTypes:=#[t,t] })
  (e:TypeId) (i:TypeInfo) (z:Value) (size bytes:Nat) (ht:P.underlying t=some (.slice e)) (hi:P.info? e=some i) (hz:i.zero=some z)
  (hsize:i.size=size) (hby:i.bytes=bytes) (hzs:z.cells.size=size) (hsz:0<size)
  (v:Value) (n:Nat) (xs:List Value) (hs:a.eval s=v) (H:Sp w0 (Row e size v n xs::L) w)
  (A:Option Addr) (m c:Nat) (news:List Value) (hx:a.eval x=.slice A m c) (hl:news.length=m * size) (hr:Rd w A news) (h1:∀u ∈ news,u.oneCell'=true)
  (h63:n+m<=maxLen) (hbytes:(n+m) * bytes<=140737488355328)
  (h:∀v' w',Sp w0 (Row e size v' (n+m) (xs++news)::L) w'->(v'=.slice none 0 0↔v=.slice none 0 0/\m=0)->K (a.put o.dst v') w') :
  o.wp P a w K Q:=by
 obtain⟨v',w',b,d,f,g,j⟩:=Xf (P:=P) w 0 t o.type e i z size bytes ht hi hz hsize hby hzs hsz v n xs (H.owns 0 rfl) A m c news hl hr h1 h63 hbytes (Nat.zero_le _);unfold Oper.wp execOp;simp only [ho,resolve,invoke,builtin,Sem.run_bind,Sem.run_pure,Result.andThen_ok,List.map_toArray,List.map_cons,List.map_nil,hs,hx,b];exact h v' w' (H.appended d f j) g
theorem wpList_append_sp {ops:Array Oper} {rest:List Oper} {o:Oper} {a:Act} {Q:Exit->Act->World->Prop} (hgd:o.guard=none) (s x:Operand) (t:TypeId)
  (ho:o.op=.call { callee:=.builtin .append,args:=#[s,x],argTypes:=#[t,t] })
  (e:TypeId) (i:TypeInfo) (z:Value) (size bytes:Nat) (ht:P.underlying t=some (.slice e)) (hi:P.info? e=some i) (hz:i.zero=some z)
  (hsize:i.size=size) (hby:i.bytes=bytes) (hzs:z.cells.size=size) (hsz:0<size)
  (v:Value) (n:Nat) (xs:List Value) (hs:a.eval s=v) (H:Sp w0 (Row e size v n xs::L) w)
  (A:Option Addr) (m c:Nat) (news:List Value) (hx:a.eval x=.slice A m c) (hl:news.length=m * size) (hr:Rd w A news) (h1:∀u ∈ news,u.oneCell'=true)
  (h63:n+m<=maxLen) (hbytes:(n+m) * bytes<=140737488355328)
  (h:∀v' w',Sp w0 (Row e size v' (n+m) (xs++news)::L) w'->(v'=.slice none 0 0↔v=.slice none 0 0/\m=0)->wpList P ops Q rest (a.put o.dst v') w') :
  wpList P ops Q (o::rest) a w :=
 wpList_plain hgd fun _ hK=>Zg s x t ho e i z size bytes ht hi hz hsize hby hzs hsz v n xs hs H A m c news hx hl hr h1 h63 hbytes fun v' w' h2 h3=>hK _ _ (h v' w' h2 h3)
theorem ev {A:Act} {t:Nat} {v:Value} (h:A.tmps[t]?.getD undef=v):A.eval (.tmp t)=v:=by
 rw [<- h];show A.tmps.getD t undef=_;rw [Array.getD_eq_getD_getElem?]
theorem Row.form {e:TypeId} {size n:Nat} {v:Value} {xs:List Value} (H:Sp w0 L w) (k:Nat) (hk:L[k]?=some (Row e size v n xs)):∃A c,v=.slice A n c/\n<=c/\c<=maxLen:=by
 rcases(H.owns k hk).2 with ⟨rfl,rfl⟩ | ⟨g,cap,cur,rfl,_,_,h1,h2,_⟩
 ·exact⟨none,0,rfl,Nat.le_refl _,by simp [maxLen]⟩
 ·exact⟨_,cap,rfl,h1,h2⟩
end
theorem Byt.take {w:World} {A:Option Addr} {n c:Nat} {l:List UInt8} (h:Byt w (.slice A n c) l) (k:Nat) (hk:k<=l.length):Byt w (.slice A k c) (l.take k):=by
 obtain⟨i,m,e,b,o,d⟩:=h;injection e with e1 e2 e3
 subst e1 e3;refine⟨A,c,by rw [List.length_take,Nat.min_eq_left hk],fun hn=>?_,by simp; omega,d⟩;obtain⟨f,e,g⟩:=b (by intro a; apply hn; unfold cells8 at a ⊢; rw [List.map_take,a,List.take_nil]);refine⟨f,e,fun j u hu=>g j u ?_⟩;unfold cells8 at hu ⊢;rw [List.map_take,List.getElem?_take] at hu;split at hu
 ·exact hu
 ·cases hu

theorem Byt.below {w w' : World} {v:Value} {l:List UInt8} (h:Byt w v l) (hB:Below w.heap.size w w'):Byt w' v l:=h.keep fun _ _ hc=>hB.cell (Zr hc)
theorem Zv (a:Addr) (m j:Nat) (hj:0<j):(⟨(a.add m).block,(a.add m).off+j,none⟩:Addr)=a.add (m+j):=by
 unfold Addr.add;rw [if_neg (show ¬ (m+j=0) by omega)];by_cases b:m=0
 ·subst b; simp
 ·rw [if_neg b]; simp [Nat.add_assoc]
theorem Byt.drop {w:World} {A:Option Addr} {n c:Nat} {l:List UInt8} (h:Byt w (.slice A n c) l) (k:Nat) (hk:k<=n):Byt w (.slice (A.map (·.add k)) (n - k) (c - k)) (l.drop k):=by
 obtain⟨g,i,e,b,m,o⟩:=h;injection e with e1 e2 e3
 subst e1 e2 e3;refine⟨_,_,by rw [List.length_drop],fun hn=>?_,by simp; omega,by omega⟩;obtain⟨d,rfl,f⟩:=b (by intro a; apply hn; unfold cells8 at a ⊢; rw [List.map_drop,a,List.drop_nil]);refine⟨d.add k,rfl,fun j u hu=>?_⟩;unfold cells8 at hu;rw [List.map_drop,List.getElem?_drop] at hu;rw [Go.Addr.add_add];exact f _ u hu
theorem Byt.drop0 {w:World} {A:Option Addr} {n c:Nat} {l:List UInt8} (h:Byt w (.slice A n c) l) (k:Nat) (hk:k<=n) (hc:c=k):Byt w (.slice A (n - k) (c - k)) (l.drop k):=by
 obtain⟨a,b,e,d,f,g⟩:=h;injection e with e1 e2 e3
 subst e1 e2 e3;have:l.drop k=[]:=List.drop_eq_nil_iff.2 (by omega);rw [this];exact⟨A,c - k,by simp; omega,Rd.nil,by simp,by omega⟩
def strOf (l:List UInt8):ByteArray:=⟨l.toArray⟩
theorem run_str {P:Program} (w:World) (src dst e:TypeId) (v:Value) (l:List UInt8) (hs:P.underlying src=some (.slice e)) (he:P.underlying e=some (.int .u8)) (hd:P.underlying dst=some .string) (h:Byt w v l) :
    (convert src dst v).run P w=.ok (.string (strOf l)) w:=by
  obtain⟨A,c,rfl,hr,_,_⟩:=h
  have hnil:l=[]->strOf l=ByteArray.empty:=fun h=>by subst h; rfl
  rcases A with _ | ad
  · have hl:l=[]:=by
      rcases l with _ | ⟨x,l⟩
      · rfl
      · obtain⟨ad,h,_⟩:=hr (by simp [cells8]); cases h
    rw [hnil hl]
    exact run_convert_bytes_nil w src e hs he _ _ dst hd
  · have hload:(loadCells ad l.length).run P w=.ok ((l.map fun c:UInt8=>(c.toNat:Int)).map (Value.int .u8)).toArray w:=by
      have:=run_loadCells_list (P:=P) w ad ((l.map fun c:UInt8=>(c.toNat:Int)).map (Value.int .u8)) (fun j v hj=>by
        obtain ⟨ad', h, hc⟩ := hr (by rintro h0; unfold cells8 at h0; rw [List.map_map] at hj; have : l = [] := by simpa using h0
                                      subst this; simp at hj)
        injection h with h
        subst h
        refine hc j v ?_
        rw [List.map_map] at hj
        exact hj)
      simpa using this
    rw [run_convert_bytes_string w src dst e _ _ _ hs he hd,run_bytesToString w _ _ _ _ hload,foldl_push_bytes]
    congr 2
    simp [strOf,ByteArray.empty,ByteArray.emptyWithCapacity,List.map_map,Function.comp_def]
    rfl
def Ret (φ:Value->World->Prop) (e:Ending) (w' : World):Prop:=∃v,e=.returned v/\φ v w'
theorem info8:(Tryz.prog.info? 5).map (fun i=>(i.zero,i.size,i.bytes))=some (some (.int .u8 0),1,1):=by kernel_rfl
theorem Ug {v:Value} {l:List UInt8} (H:Sp w0 L w) (hb:Byt w v l) (hl:l.length<=1000000000) :
  Calls Tryz.prog 83 #[v] w (Ret fun v' w'=>Sp w0 (Row 5 1 v' l.length (cells8 l)::L) w'):=by
 obtain⟨A,c,rfl,d,q,j⟩:=hb;unfold maxLen at j;have k:=fun(W:World)=>Lib.run_eql_slice_nil (P:=Tryz.prog) W 24 5 A l.length c 0 0 Tryz.underlying24;have e:=hid d;cases A with
 | none =>
  have b:l=[]:=by
   rcases l with _ | ⟨x,l⟩
   ·rfl
   ·obtain⟨r,h,_⟩:=d (by simp [cells8]); cases h
  clear d;have m:=hid b;clear b;go_enter Tryz.func83,Tryz.ntmps83
  go_wp2;go_ret;obtain rfl:=m.out;exact⟨_,rfl,H.rowNil _ _⟩
 | some a =>
  clear d;go_enter Tryz.func83,Tryz.ntmps83
  obtain⟨n,o,f,g,i⟩:=info_parts info8;go_wp2_with (at_builtin; refine wpList_append_sp rfl _ _ 24 rfl 5 n (.int .u8 0) 1 1 Tryz.underlying24 o f g i rfl (by decide) (.slice (some ⟨w.heap.size,0,none⟩) 0 0) 0 [] rfl ((H.newBk [] _).bkRow 1 0 rfl (by decide)) (some a) l.length c (cells8 l) rfl (by simp [cells8]) (e.out.alloc _) (Zf l) (by unfold maxLen; omega) (by omega) ?_)
  intro v' w' p _;clear k;go_wp2;go_ret;exact⟨_,rfl,p⟩
theorem Sp.row_rd (H:Sp w0 L w) (k:Nat) {e:TypeId} {z n:Nat} {v:Value} {xs:List Value} (hk:L[k]?=some (Row e z v n xs)) :
  ∃A c,v=.slice A n c/\Rd w A xs/\n<=c/\c<=maxLen:=by
 have h:=H.owns k hk;rcases h.2 with ⟨rfl,rfl⟩ | ⟨g,cap,cur,rfl,hb,hh,h1,h2,h3,h4⟩
 ·have:xs=[]:=List.eq_nil_of_length_eq_zero (by simpa using h.1);subst this;exact⟨none,0,rfl,Rd.nil,Nat.le_refl _,by simp [maxLen]⟩
 ·refine⟨_,_,rfl,fun _=>⟨_,rfl,fun j u hu=>?_⟩,h1,h2⟩;have a:j<n * z:=by
   have:=(List.getElem?_eq_some_iff.1 hu).1;rw [h.1] at this;exact this
  have b:(Addr.add ⟨g,0,none⟩ j)=⟨g,j,none⟩:=by
   unfold Addr.add; split
   ·rename_i h0; subst h0; rfl
   ·simp
  rw [b,h.cellAt j a];exact hu
theorem Rd.part {w:World} {A:Option Addr} {xs:List Value} (h:Rd w A xs) (q k:Nat):Rd w (A.map (·.add q)) ((xs.drop q).take k):=fun hn=>by
 obtain⟨a,rfl,b⟩:=h (by rintro rfl; simp at hn);refine⟨a.add q,rfl,fun j u hu=>?_⟩;rw [List.getElem?_take] at hu;split at hu
 ·rw [List.getElem?_drop] at hu;rw [Go.Addr.add_add];exact b _ u hu
 ·cases hu
theorem Sp.rowSet {e:TypeId} {n i:Nat} {v:Value} {xs:List Value} (H:Sp w0 (Row e 1 v n xs::L) w) (hi:i<n) :
  ∃ad c,v=.slice (some ad) n c/\n<=c/\w.cell? (ad.add i)=xs[i]?/\w.frozen? (ad.add i)=false/\∀u,Sp w0 (Row e 1 v n (xs.set i u)::L) (w.setCell (ad.add i) u):=by
 have h:=H.owns 0 rfl;rcases h.2 with ⟨rfl,rfl⟩ | ⟨g,cap,cur,rfl,_,hh,h1,h2,h3,h4⟩
 ·omega
 ·have d:(Addr.add ⟨g,0,none⟩ i)=⟨g,i,none⟩:=by
   unfold Addr.add; split
   ·rename_i h0; subst h0; rfl
   ·simp
  refine⟨⟨g,0,none⟩,cap,rfl,h1,?_,?_,fun u=>?_⟩
  ·rw [d,h.cellAt i (by omega)]
  ·rw [d]; simp [World.frozen?,hh]
  ·rw [d];have f : (w.setCell ⟨g,i,none⟩ u).heap[g]?=some (.cells (cur.setIfInBounds i u) e (0,0)):=by
    simp [World.setCell,Array.getElem?_modify,hh]
   refine H.turn rfl rfl rfl fun s hs=>?_;have a:s g:=by
    rcases hs.2 with ⟨hv,_⟩ | ⟨g',cap',cur',hv,hg',_⟩
    ·cases hv
    ·injection hv with hv
     injection hv with hv
     injection hv with hv
     subst hv;exact(Zz hg').1
   refine⟨fun b _ hsb=>Below.heap_setCell _ _ _ _ (by rintro rfl; exact hsb a),by simpa using h.1,.inr ⟨g,cap,cur.setIfInBounds i u,rfl,(rs_pos (.inl a)).trans f,h1,h2,by simpa using h3,?_⟩⟩;rw [Array.toList_setIfInBounds,List.take_set,h4]
theorem Ent.of_same {w1:World} {φ:World->Prop} (k:Nat) (hk:L[k]?=some (Same w1)) (h:∀w,(∀b,b<w1.heap.size->w.heap[b]?=w1.heap[b]?)->φ w):Ent L φ:=fun w0 w H=>h w fun b hb=>by
 obtain⟨_,_,_,own,c⟩:=H;have a:=c k _ hk b hb;rw [Array.getElem?_eq_getElem hb] at a ⊢;exact(Zz a).2
theorem Ent.byt {W:World} (k:Nat) (hk:L[k]?=some (Same W)) {v:Value} {l:List UInt8} (h:Byt W v l):Ent L (fun w=>Byt w v l) :=
 Ent.of_same k hk fun _ hs=>h.keep fun p _ hp=>World.cell?_of_block (hs p.block (Zr hp))
theorem U6 {P:Program} (w:World) (t e te:TypeId) (ht:P.underlying t=some (.slice e)) (he:P.underlying e=some (.int .u8)) (g n c:Nat) (cs:Array Value) (h:w.heap[g]?=some (.cells cs te (0,0))) :
  (convert t t (.slice (some ⟨g,0,none⟩) n c)).run P w=.ok (.slice (some ⟨g,0,none⟩) n c) { w with heap:=w.heap.setIfInBounds g (.cells cs te (cs.size,cs.size+1)) }:=by
 have a:w.heap.modify g (fun | .cells c elem (lo,hi)=>.cells c elem (if lo == hi then (cs.size,cs.size+1) else (min lo cs.size,max hi (cs.size+1))) | o=>o)=w.heap.setIfInBounds g (.cells cs te (cs.size,cs.size+1)):=by
  have b:=(Array.getElem?_eq_some_iff.1 h).1;apply Array.ext_getElem?;intro i;rw [Array.getElem?_modify,Array.getElem?_setIfInBounds];by_cases hi:g=i
  ·subst hi;rw [if_pos rfl,if_pos rfl,if_pos b,h];rfl
  ·rw [if_neg hi,if_neg hi]
 have d:(shape g).run P w=.ok (some (te,cs.size)) w:=by
  simp [shape,Sem.run,World.shape?,h]
 have f:(freeze ⟨g,cs.size,none⟩ 1).run P w=.ok () (w.freeze ⟨g,cs.size,none⟩ 1):=rfl;have j:w.freeze ⟨g,cs.size,none⟩ 1={ w with heap:=w.heap.setIfInBounds g (.cells cs te (cs.size,cs.size+1)) }:=by
  unfold World.freeze;rw [if_neg (by decide)];exact congrArg (fun x=>{ w with heap:=x }) a
 simp [convert,run_underlying ht,run_underlying he,markStringish,d,Result.andThen,f,j]
def Lit (g:Nat) (l:List UInt8):Pr:=Is g (.cells (cells8 l).toArray 5 (l.length,l.length+1))
theorem TI (H:Sp w0 L w) (l:List UInt8):∃w1,(∀n,n=l.length->Sem.run Tryz.prog (convert 24 24 (.slice (some ⟨w.heap.size,0,none⟩) n n)) (w.alloc (.cells (cells8 l).toArray 5))=.ok (.slice (some ⟨w.heap.size,0,none⟩) n n) w1)/\Sp w0 (Lit w.heap.size l::L) w1:=by
 have a:=H.newBk (cells8 l) 5;refine⟨_,fun n _=>U6 _ _ 5 5 Tryz.underlying24 Tryz.underlying5 _ _ _ _ (a.is_ 0 rfl),?_⟩;have h:=a.put (.cells (cells8 l).toArray 5 ((cells8 l).toArray.size,(cells8 l).toArray.size+1));have e:(cells8 l).toArray.size=l.length:=by simp [cells8]
 rw [e] at h ⊢;exact h
theorem Sp.lit (H:Sp w0 L w) (k:Nat) {g:Nat} {l:List UInt8} (hk:L[k]?=some (Lit g l)) (hl:l.length<=maxLen):Byt w (.slice (some ⟨g,0,none⟩) l.length l.length) l:=by
 have h:=H.is_ k hk;refine⟨_,_,rfl,fun _=>⟨_,rfl,fun j u hu=>?_⟩,Nat.le_refl _,hl⟩;have a:(Addr.add ⟨g,0,none⟩ j)=⟨g,j,none⟩:=by
  unfold Addr.add; split
  ·rename_i h0; subst h0; rfl
  ·simp
 rw [a];simp [World.cell?,h,hu]
def hdV (h:PG.Hd) (ve:Value):List Value:=[.int .u8 h.flags.toNat,.int .u8 h.level.toNat,.int .u8 h.system.toNat,.int .u32 h.time,ve,.string (strOf h.name),.string (strOf h.note)]
theorem TJ (f:UInt8) (k:Nat) (hk:k=2∨k=4∨k=8∨k=16):bits .and .u8 (f.toNat:Int) (k:Int)=((f.toNat / k % 2 * k:Nat):Int):=by
 have a:=UInt8.toNat_lt f;rw [u8_and_nat _ _ (by omega) (by omega)];congr 1;have c:∀x:Fin 256,x.val &&& 2=x.val / 2 % 2 * 2:=by decide +kernel
 have d:∀x:Fin 256,x.val &&& 4=x.val / 4 % 2 * 4:=by decide +kernel
 have e:∀x:Fin 256,x.val &&& 8=x.val / 8 % 2 * 8:=by decide +kernel
 have b:∀x:Fin 256,x.val &&& 16=x.val / 16 % 2 * 16:=by decide +kernel
 rcases hk with rfl | rfl | rfl | rfl
 ·exact c ⟨f.toNat,a⟩
 ·exact d ⟨f.toNat,a⟩
 ·exact e ⟨f.toNat,a⟩
 ·exact b ⟨f.toNat,a⟩
theorem U7 (f:UInt8) (k:Nat) (hk:k=2∨k=4∨k=8∨k=16):(bits .and .u8 (f.toNat:Int) (k:Int) != 0)=PG.has f k:=by
 rw [TJ f k hk];unfold PG.has;have:f.toNat / k % 2=0∨f.toNat / k % 2=1:=by omega
 rcases this with e | e
 ·rw [e,Nat.zero_mul]; rfl
 ·rw [e,Nat.one_mul];rcases hk with rfl | rfl | rfl | rfl <;> rfl
theorem Yr (h:PG.Hd) (ve:Value) (k:Nat) (hk:k=2∨k=4∨k=8∨k=16) (H:Sp w0 L w) :
  Calls Tryz.prog 42 #[.agg (hdV h ve).toArray,.int .u8 k] w fun e w'=>e=.returned (.bool (PG.has h.flags k))/\Sp w0 L w':=by
 have a:=U7 h.flags k hk;unfold hdV;have c:=H.newBk [.int .u8 h.flags.toNat,.int .u8 h.level.toNat,.int .u8 h.system.toNat,.int .u32 h.time,ve,.string (strOf h.name),.string (strOf h.note)] 45;have i:=c.cell 0 rfl 0;have d:=c.tail;generalize hz:bits .and .u8 (h.flags.toNat:Int) (k:Int)=z at a;have f:=hid a;have g:=hid d;clear a c d;go_enter Tryz.func42,Tryz.ntmps42
 go_wp2;go_ret;exact⟨congrArg (fun b=>Ending.returned (.bool b)) f.out,g.out⟩
theorem TK (l:List UInt8):Lib.indexByte l 0=(match PG.idx0 l with | none=>-1 | some k=>(k:Int)):=by
 induction l with
 | nil=>rfl
 | cons c l ih =>
  unfold Lib.indexByte PG.idx0;by_cases a:c=0
  ·rw [if_pos (by rw [a]; rfl),if_pos a]; rfl
  ·rw [if_neg (by simpa using a),if_neg a,ih];cases PG.idx0 l with
   | none=>rfl
   | some k =>
    have:¬ (((k:Nat):Int) == -1)=true:=by
     rw [beq_iff_eq]; omega
    show(if (((k:Nat):Int) == -1)=true then (-1:Int) else (k:Int)+1)=((k+1:Nat):Int);rw [if_neg this];omega
def idxI (l:List UInt8):Int:=match PG.idx0 l with | none=>-1 | some k=>(k:Int)
theorem U8 (l:List UInt8) (w:World) :
  Calls Tryz.prog 41 #[.string (strOf l),.int .u8 0] w fun e w'=>e=.returned (.int .i64 (idxI l))/\w=w':=by
 have a:idxI l=Lib.indexByte l 0:=(TK l).symm;rw [a];have b:Calls Tryz.prog 72 #[.string (strOf l),.int .u8 0] w fun e w'=>e=.returned (.int .i64 (Lib.indexByte l 0))/\w=w':=by
  go_enter Tryz.func72,Tryz.ntmps72
  go_wp2;rw [run_callFunc_extern Tryz.func104 (by kernel_rfl) (by kernel_rfl) (by kernel_rfl) (e:=Extern.BytealgIndexByte.indexByte) (by kernel_rfl),Lib.run_indexByteString (strOf l) 0 w];simp only [Result.andThen];rw [Oper.upon_value];go_wp2;go_ret;exact⟨rfl,rfl⟩
 have c:=hid b;clear b a;go_enter Tryz.func41,Tryz.ntmps41
 go_wp2_with fail
 refine c.out.mono ?_;rintro _ d ⟨rfl,rfl⟩;go_wp2;go_ret;exact⟨rfl,rfl⟩
theorem Xy (n k:Nat):PG.low n (k+1)=PG.low n k++[UInt8.ofNat (n / 256 ^ k)]:=by
 induction k generalizing n with
 | zero=>show [UInt8.ofNat n]=[]++[UInt8.ofNat (n / 1)]; rw [Nat.div_one]; rfl
 | succ k ih =>
  show UInt8.ofNat n::PG.low (n / 256) (k+1)=UInt8.ofNat n::(PG.low (n / 256) k++[UInt8.ofNat (n / 256 ^ (k+1))]);rw [ih,Nat.div_div_eq_div_mul,Nat.pow_succ,Nat.mul_comm 256]
theorem YH (n many:Nat) (hn:n<4294967296) (hm:many<=8) (H:Sp w0 L w) :
  Calls Tryz.prog 34 #[.int .u32 n,.int .i64 many] w fun e w'=>∃v,e=.returned v/\Sp w0 (Row 5 1 v many (cells8 (PG.low n many))::L) w':=by
 obtain⟨q,r,f,g,h⟩:=info_parts info8;have m:=hid (H.rowNil 5 1);go_enter Tryz.func34,Tryz.ntmps34
 go_wp2_with fail
 go_loopw [0,5,7] (fun nv bv iv wr=>∃(k x:Nat),k<=many/\iv=.int .i64 k/\nv=.int .u32 x/\x<4294967296/\Hid (n / 256 ^ k=x)/\Sp w0 (Row 5 1 bv k (cells8 (PG.low n k))::L) wr) (fun _ _ iv _=>many - (intOf iv).toNat)
 case atStart=>exact⟨0,n,Nat.zero_le _,rfl,rfl,hn,hid (Nat.div_one n),m.out⟩
 case round =>
  clear H m;obtain⟨k,x,C,rfl,rfl,D,o,a⟩:=hrel;by_cases s:k<many
  ·have t:(k:Int)<(many:Int):=by omega
   obtain⟨V,c,rfl,y,z⟩:=Row.form a 0 rfl;go_wp2_with (at_builtin; refine wpList_append_sp rfl _ _ 24 rfl 5 q (.int .u8 0) 1 1 Tryz.underlying24 r f g h rfl (by decide) (.slice V k c) k (cells8 (PG.low n k)) rfl (a.newBk [.int .u8 ((x:Int) % 256)] _).swap (some ⟨wr.heap.size,0,none⟩) 1 1 [.int .u8 ((x:Int) % 256)] rfl rfl (Rd.of_blk ((a.newBk [.int .u8 ((x:Int) % 256)] _).blk 0 rfl)) (by intro u A; rw [List.mem_singleton.1 A]; rfl) (by unfold maxLen; omega) (by omega) ?_)
   intro E F i _;have p:cells8 (PG.low n k)++[.int .u8 ((x:Int) % 256)]=cells8 (PG.low n (k+1)):=by
    rw [Xy,o.out];unfold cells8;rw [List.map_append];congr 2
   rw [p] at i;have B:=hid (i.pick 2 [0]);clear i a p;obtain⟨d,b⟩:=exq (x / 256);have G:(x:Int) / 256=(d:Int):=by omega
   have j:Hid (n / 256 ^ (k+1)=d):=by
    rw [Nat.pow_succ,<- Nat.div_div_eq_div_mul,o.out,b]; exact hid rfl
   have l:d<4294967296:=by omega
   clear b;go_wp2_with fail
   go_roundw
   case rel=>exact⟨k+1,d,by omega,by go_num,by go_num,l,j,B.out⟩
   case measure=>first | (simp [intOf]; omega) | simp [intOf]
  ·obtain rfl:k=many:=by omega
   have t:¬ (k:Int)<(k:Int):=by omega
   go_wp2_with fail
   go_ret;exact⟨_,rfl,a⟩
theorem Ys (w:World) (g:Nat) (cur cs:Array Value) (t:TypeId) (fr:Nat × Nat) (hg:w.heap[g]?=some (.cells cur t fr)):w.setRow g cs={ w with heap:=w.heap.setIfInBounds g (.cells cs t fr) }:=by
 unfold World.setRow;refine congrArg (fun x=>{ w with heap:=x }) ?_;have b:=(Array.getElem?_eq_some_iff.1 hg).1;apply Array.ext_getElem?;intro i;rw [Array.getElem?_modify,Array.getElem?_setIfInBounds];by_cases a:g=i
 ·subst a;rw [if_pos rfl,if_pos rfl,if_pos b,hg];rfl
 ·rw [if_neg a,if_neg a]
def RB (g n:Nat) (c:UInt8) (bp:Nat):Pr:=Ex fun cur:Array Value=>Ex fun(_:n<=cur.size/\bp<=n/\cur.toList.take bp=cells8 (List.replicate bp c))=>Is g (.cells cur 5 (0,0))
theorem RB.rd {g n bp:Nat} {c:UInt8} (H:Sp w0 (RB g n c bp::L) w):Rd w (some ⟨g,0,none⟩) (cells8 (List.replicate bp c)):=by
 obtain⟨a,H⟩:=H.unex;obtain⟨⟨h,i,b⟩,H⟩:=H.unex;have d:=H.is_ 0 rfl;refine fun _=>⟨_,rfl,fun j u hu=>?_⟩;have e:(Addr.add ⟨g,0,none⟩ j)=⟨g,j,none⟩:=by
  unfold Addr.add; split
  ·rename_i h0; subst h0; rfl
  ·simp
 rw [e];have f:j<bp:=by
  have:=(List.getElem?_eq_some_iff.1 hu).1;simpa [cells8] using this
 rw [<- b,List.getElem?_take_of_lt f] at hu;simp [World.cell?,d];simpa using hu
theorem RB.byt {g n:Nat} {c:UInt8} (H:Sp w0 (RB g n c n::L) w) (hn:n<=maxLen):Byt w (.slice (some ⟨g,0,none⟩) n n) (List.replicate n c) :=
 ⟨some ⟨g,0,none⟩,n,by rw [List.length_replicate],RB.rd H,by rw [List.length_replicate]; exact Nat.le_refl _,hn⟩
theorem RB.copy {g n bp k:Nat} {c:UInt8} (H:Sp w0 (RB g n c bp::L) w) (a:Addr) (sLen sCap dCap:Nat) (ty:TypeId) (hk:k=min sLen (n - bp))
  (hsrc:∀j u,(cells8 (List.replicate k c))[j]?=some u->w.cell? (a.add j)=some u) :
  ∃w',(Builtin.copy_ #[24,24] ty #[.slice (some ⟨g,bp,none⟩) (n - bp) dCap,.slice (some a) sLen sCap]).run Tryz.prog w=.ok (.int .i64 k) w'/\Sp w0 (RB g n c (bp+k)::L) w':=by
 obtain⟨p,e,l,f,m⟩:=info_parts info8;obtain⟨b,H⟩:=H.unex;obtain⟨⟨q,r,o⟩,H⟩:=H.unex;have h:=H.is_ 0 rfl;have d:(cells8 (List.replicate k c)).length=k:=by simp [cells8]
 have i:=run_copy_row (P:=Tryz.prog) w 24 24 ty 5 g bp (n - bp) dCap a sLen sCap b 5 (cells8 (List.replicate k c)) Tryz.underlying24 (by rw [e]; simp [f]) h (by rw [d]; exact hk) hsrc (by rw [d]; omega) (Zf _);rw [d] at i;refine⟨_,i,?_⟩;rw [Ys w g b _ _ _ h];refine Sp.ex _ (Sp.ex ⟨?_,?_,?_⟩ (H.put _))
 ·simp [d]; omega
 ·omega
 ·show List.take (bp+k) (b.toList.take bp++cells8 (List.replicate k c)++b.toList.drop (bp+k))=_;have s:(b.toList.take bp++cells8 (List.replicate k c)).length=bp+k:=by
   rw [List.length_append,d,List.length_take];simp only [Array.length_toList];omega
  rw [List.take_append_of_le_length (by omega),List.take_of_length_le (by omega),o,<- List.replicate_append_replicate];exact List.map_append.symm
section
variable {P:Program}
theorem Xz (g j:Nat):(⟨g,0,none⟩:Addr).add j=⟨g,j,none⟩:=by
 unfold Addr.add; split
 ·rename_i h0; subst h0; rfl
 ·simp
theorem YW {w:World} {g:Nat} {t te:TypeId} {cs:List Value} (hb:Blk w g te cs) (ha:∀w,(isAgg t).run P w=.ok true w) (hs:∀w,(sizeOf t).run P w=.ok cs.length w) :
  (Instr.loadAt t (.pointer (some ⟨g,0,none⟩))).run P w=.ok (.agg cs.toArray) w:=by
 have a:=run_loadCells_list (P:=P) w ⟨g,0,none⟩ cs (fun j v hj=>by rw [Xz,hb.cell]; exact hj);simp [Instr.loadAt,Instr.sureAddr,loadVar,ha,hs,a,Result.andThen]
theorem YI {w:World} {g:Nat} {t te:TypeId} {cs ds:List Value} (hb:Blk w g te cs) (hl:ds.length=cs.length) (ha:∀w,(sizeOf t).run P w=.ok ds.length w) (h1:∀v ∈ ds,v.oneCell'=true) :
  (Instr.storeAt t (.pointer (some ⟨g,0,none⟩)) (.agg ds.toArray)).run P w=.ok () { w with heap:=w.heap.setIfInBounds g (.cells ds.toArray te (0,0)) }:=by
 have a:=run_storeCells_at P g 0 te ds 0 cs.toArray w hb (by simp; omega) h1;rw [Ys w g _ _ _ _ hb] at a;have e:(List.take (0+0) cs.toArray.toList++ds++List.drop (0+0+ds.length) cs.toArray.toList).toArray=ds.toArray:=by
  simp [hl]
 rw [e] at a;simp [Instr.storeAt,Instr.sureAddr,storeVar,ha,a,Result.andThen,Value.cells]
theorem ZH {w:World} {ops:Array Oper} {rest:List Oper} {o:Oper} {a:Act} {Q:Exit->Act->World->Prop} (hgd:o.guard=none) (t:TypeId) (x:Operand) (ho:o.op=.load t x)
  (g:Nat) (te:TypeId) (cs:List Value) (hx:a.eval x=.pointer (some ⟨g,0,none⟩)) (hb:Blk w g te cs) (ha:∀w,(isAgg t).run P w=.ok true w) (hs:∀w,(sizeOf t).run P w=.ok cs.length w)
  (h:wpList P ops Q rest (a.put o.dst (.agg cs.toArray)) w):wpList P ops Q (o::rest) a w :=
 wpList_plain hgd fun K hK=>by
  unfold Oper.wp execOp;simp only [ho,Sem.run_bind,Sem.run_pure,Result.andThen_ok,hx,YW hb ha hs];exact hK _ _ h
theorem Zn {ops:Array Oper} {rest:List Oper} {o:Oper} {a:Act} {Q:Exit->Act->World->Prop} (hgd:o.guard=none) (t:TypeId) (x y:Operand) (ho:o.op=.store t x y)
  (g:Nat) (te:TypeId) (cs ds:List Value) (hx:a.eval x=.pointer (some ⟨g,0,none⟩)) (hy:a.eval y=.agg ds.toArray) (H:Sp w0 (Bk g te cs::L) w) (hl:ds.length=cs.length) (ha:∀w,(sizeOf t).run P w=.ok ds.length w) (h1:∀v ∈ ds,v.oneCell'=true)
  (h:∀w',Sp w0 (Bk g te ds::L) w'->wpList P ops Q rest (a.put o.dst undef) w'):wpList P ops Q (o::rest) a w :=
 wpList_plain hgd fun K hK=>by
  unfold Oper.wp execOp;simp only [ho,Sem.run_bind,Sem.run_pure,Result.andThen_ok,hx,hy,YI (H.blk 0 rfl) hl ha h1];exact hK _ _ (h _ (H.put _))
theorem Zk {ops:Array Oper} {rest:List Oper} {o:Oper} {a:Act} {Q:Exit->Act->World->Prop} (hg:o.guard=none) (l c:Operand) (t:TypeId) (hop:o.op=Op.makeSlice t l c)
  (e:TypeId) (i:TypeInfo) (z:Value) (h1:P.underlying t=some (.slice e)) (h2:P.info? e=some i) (h3:i.zero=some z) (h4:i.size=1) (hz1:z.cells=#[z])
  (n:Nat) (hl:a.eval l=.int .i64 n) (hc:a.eval c=.int .i64 n) (b2:i.bytes * n<=281474976710656) (b3:n<=maxLen) (H:Sp w0 L w)
  (hK:∀(ad:Addr) w',Sp w0 (Row e 1 (.slice (some ad) n n) n (List.replicate n z)::L) w'->wpList P ops Q rest (a.put o.dst (.slice (some ad) n n)) w') :
  wpList P ops Q (o::rest) a w:=by
 refine wpList_plain hg fun K hK'=>?_;have b:=run_make (P:=P) w t e i z h1 h2 h3 .i64 .i64 (n:Int) (n:Int) (by omega) (Int.le_refl _) (by rw [<- Int.natCast_mul]; omega) (by have h3:=b3; unfold maxLen at h3; omega);rw [hz1,h4,Nat.mul_one,show((n:Int)).toNat=n from rfl] at b;have d:=(H.newBk (List.replicate n z) e).bkRow 1 n (by rw [List.length_replicate,Nat.mul_one]) b3;unfold Oper.wp;simp [execOp,hop,hl,hc,b,Result.andThen];refine hK' _ _ (hK _ _ ?_);have f:madeCells #[z] n=(List.replicate n z).toArray:=by rw [<- toList_madeCells_one]
 rw [f];exact d
end
theorem Sp.imp {A A' : Pr} (H:Sp w0 (A::L) w) (h:∀p,A p->A' p):Sp w0 (A'::L) w:=by
 obtain⟨b,c,d,own,a⟩:=H;refine⟨b,c,d,own,fun i C hi=>?_⟩
 match i with
 | 0 =>
  obtain rfl:A'=C:=by simpa using hi
  exact h _ (a 0 _ rfl)
 | i+1=>exact a (i+1) C (by simpa using hi)
theorem Sp.rowCut {e:TypeId} {z n c:Nat} {A:Option Addr} {xs:List Value} (k:Nat) (hk:k<=n) (H:Sp w0 (Row e z (.slice A n c) n xs::L) w):Sp w0 (Row e z (.slice A k c) k (xs.take (k * z))::L) w:=by
 refine H.imp fun p hp=>?_;obtain⟨b,d⟩:=hp;have a:k * z<=n * z:=Nat.mul_le_mul_right _ hk;refine⟨by rw [List.length_take,b]; omega,?_⟩;rcases d with ⟨hv,h0⟩ | ⟨g,cap,cur,hv,hg,h3,h4,h5,h6⟩
 ·injection hv with e1 e2 e3
  subst e1 e2 e3;obtain rfl:k=0:=by omega
  exact .inl ⟨rfl,rfl⟩
 ·injection hv with e1 e2 e3
  subst e1 e3;refine .inr ⟨g,c,cur,rfl,hg,by omega,h4,h5,?_⟩;rw [<- h6,List.take_take,Nat.min_eq_left a]
section
variable {P:Program}
theorem Z3 {ops:Array Oper} {rest:List Oper} {o:Oper} {a:Act} {Q:Exit->Act->World->Prop} (hgd:o.guard=none) (s x:Operand) (t tn:TypeId)
  (ho:o.op=.call { callee:=.builtin .append,args:=#[s,x],argTypes:=#[t,tn] })
  (e:TypeId) (i:TypeInfo) (z:Value) (size bytes:Nat) (ht:P.underlying t=some (.slice e)) (htn:P.underlying tn=some (.int .i64)) (hi:P.info? e=some i) (hz:i.zero=some z)
  (hsize:i.size=size) (hby:i.bytes=bytes) (hzs:z.cells.size=size) (hsz:0<size)
  (n:Nat) (hs:a.eval s=.slice none 0 0) (hx:a.eval x=.int .i64 n) (h0:0<n) (hn:n<=1000000000) (hbytes:bytes<=1000) (H:Sp w0 L w)
  (h:∀g c w',n<=c->c<=maxLen->Sp w0 (Row e size (.slice (some ⟨g,0,none⟩) n c) n ((Builtin.zeroCells z.cells n++Builtin.zeroCells z.cells (c - n)).toList.take (n * size))::L) w'->wpList P ops Q rest (a.put o.dst (.slice (some ⟨g,0,none⟩) n c)) w') :
  wpList P ops Q (o::rest) a w:=by
 have j:n * i.bytes<=281474976710656:=by
  rw [hby];exact Nat.le_trans (Nat.mul_le_mul hn hbytes) (by decide)
 have l:=Lib.run_append_nil_zeros (P:=P) w t tn o.type e i z .i64 .i64 ht htn hi hz n h0 (by omega) (by omega) j;refine Lib.wpList_append_run w hgd s x t tn ho _ _ hs hx _ _ l ?_;have b:=grownCap_ge w n 0 e;have d:grownCap w n 0 e<=maxLen:=grownCap_le_maxLen w n 0 e (by unfold maxLen; omega);generalize grownCap w n 0 e=c at b d ⊢;have k:=(H.drew).newBk (Builtin.zeroCells z.cells n++Builtin.zeroCells z.cells (c - n)).toList e;rw [Array.toArray_toList] at k;have f:w.drew.heap.size=w.heap.size:=rfl;rw [f] at k;have m:(Builtin.zeroCells z.cells n++Builtin.zeroCells z.cells (c - n)).toList.length=c * size:=by
  rw [Array.length_toList,Array.size_append,size_zeroCells,size_zeroCells,hzs,<- Nat.add_mul];congr 1; omega
 have p:=k.bkRow size c m d;exact h _ c _ b d (p.rowCut n b)
end
structure Part where
 A:Option Addr
 n:Nat
 c:Nat
 xs:List Value
def Part.val (q:Part):Value:=.slice q.A q.n q.c
def Part.Ok (L:List Pr) (z:Nat) (q:Part):Prop:=q.xs.length=q.n * z/\Ent L (fun w=>Rd w q.A q.xs)/\∀u ∈ q.xs,u.oneCell'=true
def Part.sum (qs:List Part):Nat:=(qs.map Part.n).sum
theorem Part.sum_snoc (qs:List Part) (q:Part):Part.sum (qs++[q])=Part.sum qs+q.n:=by unfold Part.sum; simp
theorem Part.sum_take (qs:List Part) (i:Nat):Part.sum (qs.take i)<=Part.sum qs:=by
 have h:=List.take_append_drop i qs;have:Part.sum qs=Part.sum (qs.take i)+Part.sum (qs.drop i):=by
  conv=>lhs; rw [<- h]
  unfold Part.sum; simp only [List.map_append,List.sum_append]
 omega
def Part.cat (qs:List Part):List Value:=qs.flatMap Part.xs
theorem Part.cat_snoc (qs:List Part) (q:Part):Part.cat (qs++[q])=Part.cat qs++q.xs:=by unfold Part.cat; simp
theorem Zi (l:List UInt8):(strOf l).size=l.length:=by unfold strOf; simp [ByteArray.size]
theorem XR (l:List UInt8):Lib.strCells (strOf l)=cells8 l:=by unfold strOf Lib.strCells cells8; rfl
section
variable {P:Program}
theorem YX (w:World) (t u ty e:TypeId) (i:TypeInfo) (ht:P.underlying t=some (.slice e)) (hu:P.underlying u=some .string) (hi:P.info? e=some i) (hz:i.zero=some (.int .u8 0)) (hsize:i.size=1) (hby:i.bytes=1)
  (v:Value) (n:Nat) (xs:List Value) (hown:w.ownsRow 0 e 1 v n xs) (s:List UInt8) (hm:n+s.length<=1000000000) :
  ∃v' w',(Builtin.append_ #[t,u] ty #[v,.string (strOf s)]).run P w=.ok v' w'/\w'.ownsRow 0 e 1 v' (n+s.length) (xs++cells8 s)/\w.grownBy w' v.ownBlock/\(v'.ownBlock=v.ownBlock∨v'.ownBlock=some w.heap.size):=by
 obtain⟨v',w',a,h,m,k⟩:=Lib.run_append_own_string (P:=P) w 0 t u ty e i ht hu hi hz hsize hby v n xs hown (strOf s) (by rw [Zi]; unfold maxLen; omega) (by rw [Zi]; omega) (Nat.zero_le _);have f:xs.length=n:=by simpa using hown.1
 refine⟨v',w',a,by rw [Zi,XR] at h; exact h,m,?_⟩;rw [Zi] at k;rcases hown.2 with ⟨rfl,rfl⟩ | ⟨g,cap,cur,rfl,_,hg,hnc,hcm,hcs,htake⟩
 ·by_cases o:s.length=0
  ·have:=k.2 ⟨rfl,o⟩;subst this;exact .inl rfl
  ·have d:=run_append_nil_string (P:=P) w t u ty e i (.int .u8 0) ht hu hi hz (strOf s) (by rw [Zi]; omega) (by rw [Zi]; omega) (by rw [Zi,hby]; omega);rw [d] at a;injection a with e1 e2
   subst e1;exact .inr rfl
 ·by_cases b:n+s.length<=cap
  ·have l : cur.size=cap:=by simpa using hcs
   have d:=Lib.run_append_room_string (P:=P) w t u ty e i ht hu hi hsize g n cap cur hg (strOf s) (by rw [Zi]; exact b) (by rw [Zi]; omega);rw [d] at a;injection a with e1 e2
   subst e1;exact .inl rfl
  ·have c:∀j u,xs[j]?=some u->w.cell? ((⟨g,0,none⟩:Addr).add j)=some u:=hown.cells (g:=g) rfl;have d:=Lib.run_append_grow_string (P:=P) w t u ty e i (.int .u8 0) ht hu hi hz ⟨g,0,none⟩ n cap xs (by rw [hsize]; simpa using f) c (strOf s) (by rw [Zi]; omega) (by rw [Zi]; omega) (by rw [Zi,hby]; exact growslice_fits (by omega) (by omega));rw [d] at a;injection a with e1 e2
   subst e1;exact .inr rfl
theorem Xg {o:Oper} {a:Act} {K:Act->World->Prop} {Q:Exit->Act->World->Prop} (s x:Operand) (t u:TypeId)
  (ho:o.op=.call { callee:=.builtin .append,args:=#[s,x],argTypes:=#[t,u] })
  (e:TypeId) (i:TypeInfo) (ht:P.underlying t=some (.slice e)) (hu:P.underlying u=some .string) (hi:P.info? e=some i) (hz:i.zero=some (.int .u8 0)) (hsize:i.size=1) (hby:i.bytes=1)
  (v:Value) (n:Nat) (xs:List Value) (hs:a.eval s=v) (H:Sp w0 (Row e 1 v n xs::L) w) (l:List UInt8) (hx:a.eval x=.string (strOf l)) (hm:n+l.length<=1000000000)
  (h:∀v' w',Sp w0 (Row e 1 v' (n+l.length) (xs++cells8 l)::L) w'->K (a.put o.dst v') w') :
  o.wp P a w K Q:=by
 obtain⟨v',w',b,c,d,f⟩:=YX (P:=P) w t u o.type e i ht hu hi hz hsize hby v n xs (H.owns 0 rfl) l hm;unfold Oper.wp execOp;simp only [ho,resolve,invoke,builtin,Sem.run_bind,Sem.run_pure,Result.andThen_ok,List.map_toArray,List.map_cons,List.map_nil,hs,hx,b];exact h v' w' (H.appended c d f)
theorem Zw {ops:Array Oper} {rest:List Oper} {o:Oper} {a:Act} {Q:Exit->Act->World->Prop} (hgd:o.guard=none) (s x:Operand) (t u:TypeId)
  (ho:o.op=.call { callee:=.builtin .append,args:=#[s,x],argTypes:=#[t,u] })
  (e:TypeId) (i:TypeInfo) (ht:P.underlying t=some (.slice e)) (hu:P.underlying u=some .string) (hi:P.info? e=some i) (hz:i.zero=some (.int .u8 0)) (hsize:i.size=1) (hby:i.bytes=1)
  (v:Value) (n:Nat) (xs:List Value) (hs:a.eval s=v) (H:Sp w0 (Row e 1 v n xs::L) w) (l:List UInt8) (hx:a.eval x=.string (strOf l)) (hm:n+l.length<=1000000000)
  (h:∀v' w',Sp w0 (Row e 1 v' (n+l.length) (xs++cells8 l)::L) w'->wpList P ops Q rest (a.put o.dst v') w') :
  wpList P ops Q (o::rest) a w :=
 wpList_plain hgd fun _ hK=>Xg s x t u ho e i ht hu hi hz hsize hby v n xs hs H l hx hm fun v' w' h2=>hK _ _ (h v' w' h2)
theorem Yg {ops:Array Oper} {rest:List Oper} {o:Oper} {a:Act} {Q:Exit->Act->World->Prop} (hgd:o.guard=none) (s x:Operand) (t:TypeId)
  (ho:o.op=.call { callee:=.builtin .append,args:=#[s,x],argTypes:=#[t,t] })
  (e:TypeId) (i:TypeInfo) (z:Value) (size bytes:Nat) (ht:P.underlying t=some (.slice e)) (hi:P.info? e=some i) (hz:i.zero=some z) (hsize:i.size=size) (hby:i.bytes=bytes) (hzs:z.cells.size=size)
  (b:Addr) (n:Nat) (olds:List Value) (hs:a.eval s=.slice (some b) n n) (hlo:olds.length=n * size) (holds:∀j v,olds[j]?=some v->w.cell? (b.add j)=some v)
  (A:Addr) (m c:Nat) (news:List Value) (hx:a.eval x=.slice (some A) m c) (hl:news.length=m * size) (hnews:∀j v,news[j]?=some v->w.cell? (A.add j)=some v)
  (hm:0<m) (hnm:n+m<=1000000) (hb:bytes<=100) (H:Sp w0 L w)
  (h:∀v' w',Sp w0 (Row e size v' (n+m) (olds++news)::L) w'->wpList P ops Q rest (a.put o.dst v') w') :
  wpList P ops Q (o::rest) a w:=by
 have d:Builtin.nextslicecap (n+m) n * i.bytes<=281474976710656:=by
  rw [hby];exact growslice_fits (by omega) (Nat.le_trans (Nat.mul_le_mul hnm hb) (by decide))
 have r:=run_append_grow (P:=P) w t o.type e i z ht hi hz b n n olds (by rw [hsize]; exact hlo) holds A m c news (by rw [hsize]; exact hl) hnews (by omega) (by omega) d;refine wpList_plain hgd fun _ hK=>?_;unfold Oper.wp execOp;simp only [ho,resolve,invoke,builtin,Sem.run_bind,Sem.run_pure,Result.andThen_ok,List.map_toArray,List.map_cons,List.map_nil,hs,hx,r];refine hK _ _ (h _ _ ?_);have f:=grownCap_ge w (n+m) n e;have g:grownCap w (n+m) n e<=maxLen:=grownCap_le_maxLen w (n+m) n e (by unfold maxLen; omega);generalize grownCap w (n+m) n e=q at f g ⊢;have l:=(H.drew).newBk (olds.toArray++news.toArray++Builtin.zeroCells z.cells (q - (n+m))).toList e;rw [Array.toArray_toList] at l;have k:(olds.toArray++news.toArray++Builtin.zeroCells z.cells (q - (n+m))).toList.length=q * size:=by
  rw [Array.length_toList,Array.size_append,Array.size_append,size_zeroCells,hzs,List.size_toArray,List.size_toArray,hlo,hl,<- Nat.add_mul,<- Nat.add_mul];congr 1; omega
 have p:=(l.bkRow size q k g).rowCut (n+m) f;have u:(olds.toArray++news.toArray++Builtin.zeroCells z.cells (q - (n+m))).toList.take ((n+m) * size)=olds++news:=by
  simp only [Array.toList_append];rw [List.take_append_of_le_length (by simp [hlo,hl,Nat.add_mul]),List.take_of_length_le (by simp [hlo,hl,Nat.add_mul])]
 rw [u] at p;exact p
end
end Go.Proofs.YteajimobgkempaaGreatDoor

