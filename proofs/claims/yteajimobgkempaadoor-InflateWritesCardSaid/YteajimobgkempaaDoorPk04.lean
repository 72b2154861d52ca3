/- A pack. -/
import Derived.Test.YteajimobgkempaaDoorPk03
set_option linter.all false
set_option maxRecDepth 100000
set_option maxHeartbeats 8000000
namespace Go.Proofs.YteajimobgkempaaDoor
variable {w0 w:World} {L:List Pr}
open Go.RowKit
section
variable {P:Program}
theorem YT {w:World} {ad:Addr} {t:TypeId} {cs:List Value} (hc:∀j v,cs[j]?=some v->w.cell? (ad.add j)=some v) (ha:∀w,(isAgg t).run P w=.ok true w) (hs:∀w,(sizeOf t).run P w=.ok cs.length w) :
  (Instr.loadAt t (.pointer (some ad))).run P w=.ok (.agg cs.toArray) w:=by
 have a:=run_loadCells_list (P:=P) w ad cs hc;simp [Instr.loadAt,Instr.sureAddr,loadVar,ha,hs,a,Result.andThen]
theorem Zd {w:World} {o:Oper} {a:Act} {K:Act->World->Prop} {Q:Exit->Act->World->Prop} (t:TypeId) (x:Operand) (ho:o.op=.load t x)
  (ad:Addr) (cs:List Value) (hx:a.eval x=.pointer (some ad)) (hc:∀j v,cs[j]?=some v->w.cell? (ad.add j)=some v) (ha:∀w,(isAgg t).run P w=.ok true w) (hs:∀w,(sizeOf t).run P w=.ok cs.length w)
  (h:K (a.put o.dst (.agg cs.toArray)) w):o.wp P a w K Q:=by
 unfold Oper.wp execOp;simp only [ho,Sem.run_bind,Sem.run_pure,Result.andThen_ok,hx,YT hc ha hs];exact h
theorem Zf {w:World} {ops:Array Oper} {rest:List Oper} {o:Oper} {a:Act} {Q:Exit->Act->World->Prop} (hgd:o.guard=none) (t:TypeId) (x:Operand) (ho:o.op=.load t x)
  (ad:Addr) (cs:List Value) (hx:a.eval x=.pointer (some ad)) (hc:∀j v,cs[j]?=some v->w.cell? (ad.add j)=some v) (ha:∀w,(isAgg t).run P w=.ok true w) (hs:∀w,(sizeOf t).run P w=.ok cs.length w)
  (h:wpList P ops Q rest (a.put o.dst (.agg cs.toArray)) w):wpList P ops Q (o::rest) a w :=
 wpList_plain hgd fun _ hK=>Zd t x ho ad cs hx hc ha hs (hK _ _ h)
theorem Sp.rowStore {e:TypeId} {z n i:Nat} {v:Value} {xs ds:List Value} (H:Sp w0 (Row e z v n xs::L) w) (hi:i<n) (hd:ds.length=z) (h1:∀v ∈ ds,v.oneCell'=true) :
  ∃ad c w',v=.slice (some ad) n c/\n<=c/\(storeCells (ad.add (i * z)) ds 0).run P w=.ok () w'/\Sp w0 (Row e z v n (xs.take (i * z)++ds++xs.drop (i * z+z))::L) w':=by
 have h:=H.owns 0 rfl;rcases h.2 with ⟨rfl,rfl⟩ | ⟨g,cap,cur,rfl,_,hh,h2,h3,h4,h5⟩
 ·omega
 ·have j:((⟨g,0,none⟩:Addr).add (i * z))=⟨g,i * z,none⟩:=YS g _;have k:i * z+z<=n * z:=by rw [<- Nat.succ_mul]; exact Nat.mul_le_mul_right _ hi
  have l:n * z<=cap * z:=Nat.mul_le_mul_right _ h2;have a:=run_storeCells_at P g (i * z) e ds 0 cur w hh (by rw [hd,h4]; omega) h1;rw [ZK w g _ _ _ _ hh] at a;refine⟨⟨g,0,none⟩,cap,_,rfl,h2,by rw [j]; exact a,?_⟩;have m:=(Array.getElem?_eq_some_iff.1 hh).1;refine H.turn rfl rfl rfl fun s hs=>?_;have d:s g:=by
   rcases hs.2 with ⟨hv,_⟩ | ⟨g',cap',cur',hv,hg',_⟩
   ·cases hv
   ·injection hv with hv
    injection hv with hv
    injection hv with hv
    subst hv;exact(Zm hg').1
  have f:xs.length=n * z:=h.1;refine⟨fun b _ hsb=>?_,?_,.inr ⟨g,cap,(cur.toList.take (i * z+0)++ds++cur.toList.drop (i * z+0+ds.length)).toArray,rfl,(rs_pos (.inl d)).trans ?_,h2,h3,?_,?_⟩⟩
  ·show(w.heap.setIfInBounds g _)[b]?=_;rw [Array.getElem?_setIfInBounds,if_neg];rintro rfl;exact hsb d
  ·rw [List.length_append,List.length_append,List.length_take,List.length_drop,hd,f]; omega
  ·show(w.heap.setIfInBounds g _)[g]?=_;rw [Array.getElem?_setIfInBounds,if_pos rfl,if_pos m]
  ·simp only [Nat.add_zero,List.size_toArray,List.length_append,List.length_take,List.length_drop,Array.length_toList,hd,h4];omega
  ·rw [Nat.add_zero,hd,<- h5,List.take_take,Nat.min_eq_left (by omega),List.drop_take];have o:(cur.toList.take (i * z)++ds).length=i * z+z:=by rw [List.length_append,List.length_take,Array.length_toList,h4,hd]; omega
   rw [List.toList_toArray,List.take_append,o,List.take_of_length_le (by omega)]
theorem YH {w w' : World} {ad:Addr} {t:TypeId} {ds:List Value} (hst:(storeCells ad ds 0).run P w=.ok () w') (ha:∀w,(sizeOf t).run P w=.ok ds.length w) :
  (Instr.storeAt t (.pointer (some ad)) (.agg ds.toArray)).run P w=.ok () w':=by
 simp [Instr.storeAt,Instr.sureAddr,storeVar,ha,hst,Result.andThen,Value.cells]
theorem wp_store_agg {w w' : World} {o:Oper} {a:Act} {K:Act->World->Prop} {Q:Exit->Act->World->Prop} (t:TypeId) (x y:Operand) (ho:o.op=.store t x y)
  (ad:Addr) (ds:List Value) (hx:a.eval x=.pointer (some ad)) (hy:a.eval y=.agg ds.toArray) (hst:(storeCells ad ds 0).run P w=.ok () w') (ha:∀w,(sizeOf t).run P w=.ok ds.length w)
  (h:K (a.put o.dst undef) w'):o.wp P a w K Q:=by
 unfold Oper.wp execOp;simp only [ho,Sem.run_bind,Sem.run_pure,Result.andThen_ok,hx,hy,YH hst ha];exact h
end
structure PK where
 c:Int
 s:Int
 p:Option Nat
def PK.ptr (x:PK):Value:=.pointer (x.p.map fun g=>⟨g,0,none⟩)
def PK.cells (x:PK):List Value:=[.int .i64 x.c,.int .i64 x.s,x.ptr]
def PK.val (x:PK):Value:=.agg #[.int .i64 x.c,.int .i64 x.s,x.ptr]
theorem PK.one (x:PK):∀u ∈ x.cells,u.oneCell'=true:=by
 intro u a;simp only [PK.cells,List.mem_cons,List.not_mem_nil,or_false] at a;rcases a with rfl | rfl | rfl <;> rfl
def pk0:PK:=⟨0,0,none⟩
def cellsK (l:List PK):List Value:=l.flatMap PK.cells
theorem Zs (l:List PK):(cellsK l).length=l.length * 3:=by
 induction l with
 | nil=>rfl
 | cons x l ih =>
  show(x.cells++cellsK l).length=_;rw [List.length_append,ih,List.length_cons];show 3+_=_;omega
theorem Zn (a b:List PK):cellsK (a++b)=cellsK a++cellsK b:=List.flatMap_append
theorem Yx (l:List PK):∀u ∈ cellsK l,u.oneCell'=true:=by
 intro u a;obtain⟨x,_,b⟩:=List.mem_flatMap.1 a;exact x.one u b
theorem Yy (l:List PK) (i j:Nat) (hi:i<l.length) (u:Value) (hj:(l.getD i pk0).cells[j]?=some u):(cellsK l)[i * 3+j]?=some u:=by
 induction l generalizing i with
 | nil=>simp at hi
 | cons x l ih =>
  have a:j<3:=by
   have:=(List.getElem?_eq_some_iff.1 hj).1;exact this
  show(x.cells++cellsK l)[i * 3+j]?=_;cases i with
  | zero =>
   rw [List.getElem?_append_left (by show _<3; omega),Nat.zero_mul,Nat.zero_add];exact hj
  | succ i =>
   rw [List.getElem?_append_right (by show 3<=_; omega),show(i+1) * 3+j - x.cells.length=i * 3+j by show _ - 3=_; omega];exact ih i (by simpa using hi) (by simpa using hj)
theorem XC (l:List PK) (i:Nat) (hi:i<l.length) (x:PK):(cellsK l).take (i * 3)++x.cells++(cellsK l).drop (i * 3+3)=cellsK (l.set i x):=by
 have d:l=l.take i++l.getD i pk0::l.drop (i+1):=by
  rw [List.getD_eq_getElem?_getD,List.getElem?_eq_getElem hi];simp
 obtain⟨a,e⟩:=exq (l.take i);obtain⟨b,f⟩:=exq (l.drop (i+1));rw [e,f] at d;have c:a.length=i:=by rw [<- e,List.length_take]; omega
 generalize l.getD i pk0=y at d;subst d;rw [SS.set_app a b y x c,Zn,Zn];have g:(cellsK a).length=i * 3:=by rw [Zs,c]
 rw [List.take_append_of_le_length (by omega),List.take_of_length_le (by omega),List.drop_append,g];rw [List.drop_eq_nil_of_le (by omega),show i * 3+3 - i * 3=3 by omega];show cellsK a++x.cells++([]++(y.cells++cellsK b).drop 3)=cellsK a++(x.cells++cellsK b);rw [List.append_assoc];rfl
def RowK (v:Value) (l:List PK):Pr:=Row 136 3 v l.length (cellsK l)
theorem RowK.form (H:Sp w0 L w) (k:Nat) {v:Value} {l:List PK} (hk:L[k]?=some (RowK v l)):∃A c,v=.slice A l.length c/\l.length<=c/\c<=maxLen:=Row.form H k hk
theorem RowK.rd (H:Sp w0 L w) (k:Nat) {ad:Addr} {n c:Nat} {l:List PK} (hk:L[k]?=some (RowK (.slice (some ad) n c) l)) (i:Nat) (hi:i<l.length) :
  ∀j v,(l.getD i pk0).cells[j]?=some v->w.cell? ((ad.add (i * 3)).add j)=some v:=fun j v hj=>by
 obtain⟨A,h,e,b,_,_⟩:=H.row_rd k hk;injection e with e
 obtain⟨d,a,f⟩:=b (by intro g; have:=Zs l; rw [g] at this; simp at this; omega);rw [<- e] at a;injection a with a
 subst a;rw [Go.Addr.add_add];exact f _ _ (Yy l i j hi v hj)
theorem RowK.store {ad:Addr} {n c i:Nat} {l:List PK} (x:PK) (H:Sp w0 (RowK (.slice (some ad) n c) l::L) w) (hi:i<l.length) :
  ∃w',(storeCells (ad.add (i * 3)) x.cells 0).run Tryd.prog w=.ok () w'/\Sp w0 (RowK (.slice (some ad) n c) (l.set i x)::L) w':=by
 obtain⟨b,f,w',e,_,d,a⟩:=Sp.rowStore (P:=Tryd.prog) (ds:=x.cells) H hi rfl x.one;injection e with e
 injection e with e
 subst e;refine⟨w',d,?_⟩;rw [XC l i hi x] at a;unfold RowK;rw [List.length_set];exact a
namespace PH
def bad (n:Int):Bool:=decide (n<0∨15<n)
def may (l:List Int):Bool:=decide (l.length<=1024) && !l.any bad
def tal (l:List Nat) (n:Nat):Nat:=if n=0 then 0 else l.count n
theorem tal_le (l:List Nat) (n:Nat):tal l n<=l.length:=by
 unfold tal;split
 ·exact Nat.zero_le _
 ·exact List.count_le_length
theorem may_nat {l:List Int} (h:may l=true):∃m:List Nat,l=m.map (fun n:Nat=>(n:Int))/\m.length<=1024/\∀n ∈ m,n<=15:=by
 unfold may at h;simp only [Bool.and_eq_true,decide_eq_true_eq,Bool.not_eq_true',List.any_eq_false] at h;refine⟨l.map Int.toNat,?_,by rw [List.length_map]; exact h.1,?_⟩
 ·rw [List.map_map];refine(List.map_id l).symm.trans (List.map_congr_left fun n hn=>?_);have:=h.2 n hn;unfold bad at this;simp only [decide_eq_true_eq] at this;show n=((n.toNat:Nat):Int);omega
 ·intro n hn;obtain⟨x,a,rfl⟩:=List.mem_map.1 hn;have:=h.2 x a;unfold bad at this;simp only [decide_eq_true_eq] at this;omega
def share (l:List Nat):Nat->Nat
 | 0=>0
 | n+1=>share l n+tal l n * 2 ^ (15 - n)
theorem share_le (l:List Nat) (n:Nat):share l n<=n * (l.length * 32768):=by
 induction n with
 | zero=>exact Nat.zero_le _
 | succ n ih =>
  unfold share;have a:=tal_le l n;have b:2 ^ (15 - n)<=32768:=by
   have:(2:Nat) ^ (15 - n)<=2 ^ 15:=Nat.pow_le_pow_right (by omega) (by omega);exact this
  have c:tal l n * 2 ^ (15 - n)<=l.length * 32768:=Nat.mul_le_mul a b;rw [Nat.succ_mul];omega
def sum (l:List Nat):Nat:=share l 16
def state (l:List Nat):Int:=if sum l<32768 then -1 else if 32768<sum l then 1 else 0
def fst (l:List Nat):Nat->Nat
 | 0=>0
 | 1=>0
 | n+2=>(fst l (n+1)+tal l (n+1)) * 2
theorem fst_share (l:List Nat) (n:Nat) (h1:1<=n) (h:n<=16):fst l n * 2 ^ (16 - n)=2 * share l n:=by
 induction n with
 | zero=>omega
 | succ n ih =>
  cases n with
  | zero =>
   show 0 * _=2 * (share l 0+tal l 0 * 2 ^ 15);simp [share,tal]
  | succ n =>
   have:=ih (by omega) (by omega);rw [show fst l (n+1+1)=(fst l (n+1)+tal l (n+1)) * 2 from rfl,show share l (n+1+1)=share l (n+1)+tal l (n+1) * 2 ^ (15 - (n+1)) from rfl];have d:16 - (n+1)=(16 - (n+1+1))+1:=by omega
   have e:15 - (n+1)=16 - (n+1+1):=by omega
   rw [d,Nat.pow_succ] at this;rw [e];generalize 2 ^ (16 - (n+1+1))=p at this ⊢;generalize fst l (n+1)=a at this ⊢;generalize tal l (n+1)=b;generalize share l (n+1)=c at this ⊢;have f:(a+b) * 2 * p=a * (p * 2)+2 * (b * p):=by
    rw [Nat.add_mul,Nat.add_mul,Nat.mul_assoc,Nat.mul_assoc b 2 p,Nat.mul_comm 2 p,<- Nat.mul_assoc b p 2,Nat.mul_comm (b * p) 2]
   rw [f,this,Nat.mul_add]
theorem share_mono (l:List Nat) (n k:Nat) (h:n<=k):share l n<=share l k:=by
 obtain⟨d,rfl⟩:∃d,k=n+d:=⟨k - n,by omega⟩;clear h;induction d with
 | zero=>exact Nat.le_refl _
 | succ d ih=>rw [<- Nat.add_assoc,share]; omega
theorem fst_le (l:List Nat) (n:Nat) (h:n<=16) (hs:sum l<=32768):fst l n<=65536:=by
 rcases Nat.eq_zero_or_pos n with h0 | h0
 ·subst h0; exact Nat.zero_le _
 ·have b:=fst_share l n h0 h;have c:=share_mono l n 16 h;have a:1<=2 ^ (16 - n):=Nat.one_le_two_pow;have d:fst l n * 1<=fst l n * 2 ^ (16 - n):=Nat.mul_le_mul_left _ a;unfold sum at hs;omega
def codeAt (l:List Nat) (k:Nat):Nat:=if l.getD k 0=0 then 0 else fst l (l.getD k 0)+(l.take k).count (l.getD k 0)
def codes (l:List Nat):List Nat:=(List.range l.length).map (codeAt l)
def idx (l:List Nat) (n k:Nat):List Nat:=(List.range k).filter fun i=>l.getD i 0 == n
theorem idx_succ (l:List Nat) (n k:Nat):idx l n (k+1)=if l.getD k 0=n then idx l n k++[k] else idx l n k:=by
 unfold idx;rw [List.range_succ,List.filter_append];have e:List.filter (fun i=>l.getD i 0 == n) [k]=if l.getD k 0=n then [k] else []:=by
  rw [List.filter_cons];by_cases h:l.getD k 0=n
  ·rw [if_pos h,if_pos (by rw [h]; exact beq_self_eq_true n)]; rfl
  ·rw [if_neg h,if_neg (by rw [beq_iff_eq]; exact h)]; rfl
 rw [e];split
 ·rfl
 ·rw [List.append_nil]
theorem idx_zero (l:List Nat) (n:Nat):idx l n 0=[]:=rfl
def rowsB (l:List Nat):Nat->List Nat
 | 0=>[]
 | n+1=>rowsB l n++idx l (n+1) l.length
def rows (l:List Nat):List Nat:=rowsB l 15
theorem idx_len (l:List Nat) (n k:Nat):(idx l n k).length<=k:=by
 have:=List.length_filter_le (fun i=>l.getD i 0 == n) (List.range k)
 rwa [List.length_range] at this
theorem rowsB_len (l:List Nat) (n:Nat):(rowsB l n).length<=n * l.length:=by
 induction n with
 | zero=>exact Nat.zero_le _
 | succ n ih =>
  rw [rowsB,List.length_append,Nat.succ_mul];have:=idx_len l (n+1) l.length;omega
end PH
theorem Rd.at64 {w:World} {A:Option Addr} {l:List Int} (h:Rd w A (cells64 l)) {k:Nat} (hk:k<l.length) :
  ∃ad,A=some ad/\w.cell? (ad.add k)=some (.int .i64 l[k]):=by
 obtain⟨ad,e,a⟩:=h.at_ (k:=k) (by simpa [cells64] using hk);exact⟨ad,e,by simpa [cells64] using a⟩
theorem Vu (n:Int) (w:World):Calls Tryd.prog 152 #[.int .i64 n] w fun e w'=>e=.returned (.bool (PH.bad n))/\w=w':=by
 obtain⟨r,a⟩:=exq (PH.bad n);have b:=hid a;rw [a];clear a;go_enter Tryd.func152,Tryd.ntmps152
 go_wp2
 all_goals (
  go_ret;refine⟨YE ?_,rfl⟩;rw [<- b.out];unfold PH.bad
  first
   | exact(decide_eq_true (by omega)).symm
   | exact(decide_eq_false (by omega)).symm
   | (rw [Bool.eq_iff_iff]; simp only [Bool.or_eq_true,decide_eq_true_eq]; done)
   | (rw [Bool.eq_iff_iff]; simp only [Bool.or_eq_true,decide_eq_true_eq]; omega))
theorem WA (A:Option Addr) (n c:Nat) (l:List Int) (H:Sp w0 L w) (hn:n=l.length) (hb:Ent L fun w=>Rd w A (cells64 l)) (hl:n<=1000000000) :
  Calls Tryd.prog 162 #[.slice A n c,.func (.func 152) #[] #[]] w fun e w'=>∃r:Int,e=.returned (.int .i64 r)/\(0<=r↔l.any PH.bad=true)/\Sp w0 L w':=by
 have s:=hid hn;have v:=hid hb;clear hn hb;obtain⟨z,o⟩:=exq (l.any PH.bad);rw [o];have t:=hid o;clear o;go_enter Tryd.func162,Tryd.ntmps162
 go_wp2_with fail
 go_loopw [8] (fun iv wr=>∃i:Nat,iv=.int .i64 i/\i<=n/\(l.take i).any PH.bad=false/\Sp w0 L wr) (fun iv _=>n - (intOf iv).toNat)
 case atStart=>exact⟨0,rfl,Nat.zero_le _,rfl,H⟩
 case round =>
  obtain⟨i,rfl,C,d,H⟩:=hrel;have f:=hid d;clear d;by_cases p:i<n
  ·have y:(i:Int)<(n:Int):=by omega
   have b:i<l.length:=by rw [<- s.out]; exact p
   obtain⟨D,rfl,B⟩:=(v.out _ _ H).at64 b;obtain⟨x,m⟩:=exq (l[i]);rw [m] at B;have g:(l.take (i+1)).any PH.bad=PH.bad x:=by
    rw [List.take_succ_eq_append_getElem b,List.any_append,f.out,m];simp
   have j:=hid g;have a:x ∈ l:=by rw [<- m]; exact List.getElem_mem b
   have k:=hid a;clear g m a;go_wp2_with fail
   refine(Vu x _).mono ?_;rintro _ _ ⟨rfl,rfl⟩;cases hbx:PH.bad x
   ·rw [hbx] at j;go_wp2_with fail
    go_roundw
    case rel=>exact⟨i+1,by go_num,by omega,j.out,H⟩
    case measure=>first | (simp [intOf]; omega) | simp [intOf]
   ·have q:=hid hbx;clear hbx;go_wp2_with fail
    go_ret;exact⟨_,rfl,⟨fun _=>by rw [<- t.out]; exact List.any_eq_true.2 ⟨x,k.out,q.out⟩,fun _=>by omega⟩,H⟩
  ·have y:¬ (i:Int)<(n:Int):=by omega
   go_wp2_with fail
   go_ret;have u:=f.out;rw [List.take_of_length_le (by rw [<- s.out]; omega),t.out] at u;refine⟨_,rfl,?_,H⟩;rw [u];exact⟨fun h=>absurd h (by omega),fun h=>by cases h⟩
theorem Y7 (A:Option Addr) (n c:Nat) (l:List Int) (H:Sp w0 L w) (hn:n=l.length) (hb:Ent L fun w=>Rd w A (cells64 l)) (hl:n<=1000000000) :
  Calls Tryd.prog 151 #[.slice A n c,.func (.func 152) #[] #[]] w fun e w'=>e=.returned (.bool (l.any PH.bad))/\Sp w0 L w':=by
 have a:=WA A n c l H hn hb hl;obtain⟨z,h⟩:=exq (l.any PH.bad);rw [h] at a ⊢;have b:=hid a;clear a h hb hn;go_enter Tryd.func151,Tryd.ntmps151
 go_wp2_with fail
 refine b.out.mono ?_;rintro _ j ⟨r,rfl,d,i⟩;clear b;by_cases f:0<=r
 ·have g:=d.1 f;subst g;clear d;go_wp2;go_ret;exact⟨rfl,i⟩
 ·have g:z=false:=by
   cases z
   ·rfl
   ·exact absurd (d.2 rfl) f
  subst g;have k:decide (0<=r)=false:=decide_eq_false f;clear d f;go_wp2;go_ret;exact⟨rfl,i⟩
theorem XV (A:Option Addr) (n c:Nat) (l:List Int) (H:Sp w0 L w) (hn:n=l.length) (hb:Ent L fun w=>Rd w A (cells64 l)) (hl:n<=1000000000) :
  Calls Tryd.prog 128 #[.slice A n c] w fun e w'=>e=.returned (.bool (PH.may l))/\Sp w0 L w':=by
 have d:=Y7 A n c l H hn hb hl;obtain⟨z,f⟩:=exq (l.any PH.bad);obtain⟨m,g⟩:=exq (PH.may l);rw [f] at d;rw [g];have i:=hid d;have a:m=(decide (n<=1024) && !z):=by rw [<- g,<- f,hn]; rfl
 have b:=hid a;clear d f g a hb hn;by_cases h:n<=1024
 ·have j:decide ((n:Int)<=1024)=true:=decide_eq_true (by omega);go_enter Tryd.func128,Tryd.ntmps128
  go_wp2_with fail
  refine i.out.mono ?_;rintro _ o ⟨rfl,k⟩;go_wp2;go_ret;exact⟨YE (by rw [b.out,decide_eq_true h]; rfl),k⟩
 ·have j:decide ((n:Int)<=1024)=false:=decide_eq_false (by omega);go_enter Tryd.func128,Tryd.ntmps128
  go_wp2;go_ret;exact⟨YE (by rw [b.out,decide_eq_false h]; rfl),H⟩
def cntV (f:Nat->Nat):List Value:=(List.range 16).map fun i=>.int .i64 (f i:Int)
theorem ZB (f:Nat->Nat) (i:Nat) (h:i<16):(cntV f)[i]?=some (.int .i64 (f i:Int)):=by
 unfold cntV;rw [List.getElem?_map,List.getElem?_range h];rfl
theorem Xl (f:Nat->Nat) (x v:Nat):(cntV f).set x (.int .i64 v)=cntV fun i=>if i=x then v else f i:=by
 apply List.ext_getElem?;intro i;rw [List.getElem?_set];by_cases h:i<16
 ·rw [ZB _ _ h,ZB _ _ h];by_cases e:x=i
  ·subst e;rw [if_pos rfl,if_pos (by simp [cntV]; exact h),if_pos rfl]
  ·rw [if_neg e,if_neg (fun h=>e h.symm)]
 ·have a:(cntV f)[i]?=none:=List.getElem?_eq_none (by simp [cntV]; omega);have b:(cntV fun i=>if i=x then v else f i)[i]?=none:=List.getElem?_eq_none (by simp [cntV]; omega);rw [a,b];split
  ·rw [if_neg (by simp [cntV]; omega)]
  ·rfl
theorem WB (f:Nat->Nat):∀v ∈ cntV f,v.oneCell'=true:=by
 intro v a;obtain⟨i,_,rfl⟩:=List.mem_map.1 a;rfl
def tallyV (m:List Nat):Value:=.agg (cntV (PH.tal m)).toArray
theorem addr0 (g j:Nat):(⟨g,0,none⟩:Addr).add j=⟨g,j,none⟩:=by
 unfold Addr.add; split
 ·rename_i h0; subst h0; rfl
 ·simp
def castI (m:List Nat):List Int:=m.map fun n:Nat=>(n:Int)
theorem YI (A:Option Addr) (n c:Nat) (m:List Nat) (H:Sp w0 L w) (hn:n=m.length) (hb:Ent L fun w=>Rd w A (cells64 (castI m))) (hl:n<=1000000000) (h15:∀x ∈ m,x<=15) :
  Calls Tryd.prog 94 #[.slice A n c] w fun e w'=>e=.returned (tallyV m)/\Sp w0 L w':=by
 have E:=hid hn;have M:=hid hb;clear hn hb;obtain⟨t,u⟩:=exq (tallyV m);rw [u];have N:=hid u;clear u;have F:(w.alloc (.cells #[.int .i64 0,.int .i64 0,.int .i64 0,.int .i64 0,.int .i64 0,.int .i64 0,.int .i64 0,.int .i64 0,.int .i64 0,.int .i64 0,.int .i64 0,.int .i64 0,.int .i64 0,.int .i64 0,.int .i64 0,.int .i64 0] 180)).heap.size=w.heap.size+1:=Array.size_push _;have f:=(H.newBk [.int .i64 0,.int .i64 0,.int .i64 0,.int .i64 0,.int .i64 0,.int .i64 0,.int .i64 0,.int .i64 0,.int .i64 0,.int .i64 0,.int .i64 0,.int .i64 0,.int .i64 0,.int .i64 0,.int .i64 0,.int .i64 0] 180).newBk [.int .i64 0,.int .i64 0,.int .i64 0,.int .i64 0,.int .i64 0,.int .i64 0,.int .i64 0,.int .i64 0,.int .i64 0,.int .i64 0,.int .i64 0,.int .i64 0,.int .i64 0,.int .i64 0,.int .i64 0,.int .i64 0] 180;rw [F] at f;clear F;go_enter Tryd.func94,Tryd.ntmps94
 go_wp2_with fail
 generalize w.heap.size+1=g3 at f ⊢;generalize w.heap.size=g2 at f ⊢;generalize (w.alloc _).alloc _=w1 at f ⊢;obtain⟨G,y⟩:∃G:Addr,(⟨g3,0,none⟩:Addr)=G:=⟨_,rfl⟩;rw [y];have o:=hid y;clear y;go_loopw [8] (fun iv wr=>∃i:Nat,iv=.int .i64 i/\i<=n/\Sp w0 (Bk g3 180 (cntV fun k=>(m.take i).count k)::Bk g2 180 [.int .i64 0,.int .i64 0,.int .i64 0,.int .i64 0,.int .i64 0,.int .i64 0,.int .i64 0,.int .i64 0,.int .i64 0,.int .i64 0,.int .i64 0,.int .i64 0,.int .i64 0,.int .i64 0,.int .i64 0,.int .i64 0]::L) wr) (fun iv _=>n - (intOf iv).toNat)
 case atStart=>exact⟨0,rfl,Nat.zero_le _,f⟩
 case round =>
  obtain⟨i,rfl,V,a⟩:=hrel;by_cases z:i<n
  ·have O:(i:Int)<(n:Int):=by omega
   have d:i<m.length:=by rw [<- E.out]; exact z
   obtain⟨Q,rfl,I⟩:=(M.out _ _ (a.pick 2 [])).at64 (k:=i) (by simpa [castI] using d);obtain⟨x,p⟩:=exq (m[i]);have J:x<=15:=by rw [<- p]; exact h15 _ (List.getElem_mem d)
   replace I:wr.cell? (Q.add i)=some (.int .i64 x):=by
    rw [I];simp [castI,p]
   obtain⟨q,r⟩:=exq ((m.take i).count x);have R:q<=i:=by
    rw [<- r];refine Nat.le_trans List.count_le_length ?_;rw [List.length_take]; omega
   have W:wr.cell? (G.add x)=some (.int .i64 q):=by
    rw [<- o.out,addr0,a.cell 0 rfl x,ZB _ _ (by omega),r]
   have X:wr.frozen? (G.add x)=false:=by
    rw [<- o.out,addr0];exact a.frozen 0 rfl x
   have Y:(x:Int)<16:=by omega
   have b:Sp w0 (Bk g3 180 (cntV fun k=>(m.take (i+1)).count k)::Bk g2 180 [.int .i64 0,.int .i64 0,.int .i64 0,.int .i64 0,.int .i64 0,.int .i64 0,.int .i64 0,.int .i64 0,.int .i64 0,.int .i64 0,.int .i64 0,.int .i64 0,.int .i64 0,.int .i64 0,.int .i64 0,.int .i64 0]::L) (wr.setCell (G.add x) (.int .i64 ((q:Int)+1))):=by
    have h:=a.set x (.int .i64 ((q+1:Nat):Int));rw [Xl] at h;rw [<- o.out,addr0];have e:(fun k=>(m.take (i+1)).count k)=fun k=>if k=x then q+1 else (m.take i).count k:=by
     funext k;rw [List.take_succ_eq_append_getElem d,List.count_append,p];by_cases B:k=x
     ·subst B;rw [if_pos rfl,r];simp
     ·rw [if_neg B,List.count_singleton,beq_eq_false_iff_ne.2 (fun h=>B h.symm)];simp
    rw [e];exact h
   have S:=hid b;clear b r p;go_wp2_with fail
   go_roundw
   case rel=>exact⟨i+1,by go_num,by omega,S.out⟩
   case measure=>first | (simp [intOf]; omega) | simp [intOf]
  ·have O:¬ (i:Int)<(n:Int):=by omega
   rw [List.take_of_length_le (by rw [<- E.out]; omega)] at a;have T:(fun i=>if i=0 then 0 else m.count i)=PH.tal m:=by
    funext i; unfold PH.tal; rfl
   have s:=a.set 0 (.int .i64 ((0:Nat):Int));rw [Xl,T] at s;have Z:wr.cell? ⟨g3,0,none⟩=some (.int .i64 (m.count 0:Int)):=by rw [a.cell 0 rfl 0,ZB _ _ (by omega)]
   have z0:wr.frozen? ⟨g3,0,none⟩=false:=a.frozen 0 rfl 0;have C:=hid s;have g:=s.swap;have D:=hid g;clear s g;obtain rfl:=o.out;go_wp2_with (first | (refine Zk rfl 180 _ rfl g3 180 (cntV (PH.tal m)) rfl (C.out.blk 0 rfl) Tryd.isAgg180 Tryd.sizeOf180 ?_) | (refine Za rfl 180 _ _ rfl g2 180 _ (cntV (PH.tal m)) rfl rfl D.out rfl Tryd.sizeOf180 (WB _) ?_))
   intro U K;go_wp2_with fail
   have l:=run_loadCells_list (P:=Tryd.prog) U ⟨g2,0,none⟩ (cntV (PH.tal m)) (fun j v hj=>by rw [addr0,K.cell 0 rfl]; exact hj);rw [show(cntV (PH.tal m)).length=16 from rfl] at l;refine bodyPost_ret (v:=tallyV m) (by simp [results,Tryd.results94,Tryd.isAgg180,Tryd.sizeOf180,l,Result.andThen,tallyV,asAddr,loadVar]) rfl ?_;exact⟨by rw [N.out],K.pick 2 []⟩
def cmpI (x y:Int):Int:=if x<y then -1 else if y<x then 1 else 0
theorem WV (x:Int) (w:World):Calls Tryd.prog 127 #[.int .i64 x] w fun e w'=>e=.returned (.bool false)/\w=w':=by
 go_enter Tryd.func127,Tryd.ntmps127
 go_wp2;go_ret;exact⟨rfl,rfl⟩
theorem WW (x y:Int) (w:World):Calls Tryd.prog 91 #[.int .i64 x,.int .i64 y] w fun e w'=>e=.returned (.int .i64 (cmpI x y))/\w=w':=by
 obtain⟨r,a⟩:=exq (cmpI x y);rw [a];have b:=hid a;clear a;go_enter Tryd.func91,Tryd.ntmps91
 go_wp2_with fail
 refine(WV x _).mono ?_;rintro _ _ ⟨rfl,rfl⟩;go_wp2_with fail
 refine(WV y _).mono ?_;rintro _ _ ⟨rfl,rfl⟩;by_cases c:x<y
 ·go_wp2_with fail
  go_ret;exact⟨Yc (by rw [<- b.out]; unfold cmpI; rw [if_pos c]),rfl⟩
 ·by_cases d:y<x
  ·go_wp2_with fail
   go_ret;exact⟨Yc (by rw [<- b.out]; unfold cmpI; rw [if_neg (by omega),if_pos (by omega)]),rfl⟩
  ·go_wp2_with fail
   go_ret;exact⟨Yc (by rw [<- b.out]; unfold cmpI; rw [if_neg (by omega),if_neg (by omega)]),rfl⟩
theorem index16 (f:Nat->Nat) (i:Nat) (h:i<16) (w:World):(Instr.index 180 (.agg (cntV f).toArray) (.int .i64 i)).run Tryd.prog w=.ok (.int .i64 (f i:Int)) w:=by
 simp [Instr.index,run_underlying Tryd.underlying180,asIntOf,part,Result.andThen,ZB f i h];intro a; omega
theorem Xm (A:Option Addr) (n c:Nat) (m:List Nat) (H:Sp w0 L w) (hn:n=m.length) (hb:Ent L fun w=>Rd w A (cells64 (castI m))) (hl:n<=1024) (h15:∀x ∈ m,x<=15) :
  Calls Tryd.prog 92 #[.slice A n c] w fun e w'=>e=.returned (.tuple #[.int .i64 (PH.state m),.int .i64 0])/\Sp w0 L w':=by
 have b:=XV A n c (castI m) H (by simpa [castI] using hn) hb (by omega);have k:PH.may (castI m)=true:=by
  unfold PH.may;rw [decide_eq_true (by rw [<- show n=(castI m).length by simpa [castI] using hn]; exact hl),Bool.true_and,Bool.not_eq_true',List.any_eq_false];intro x z;obtain⟨y,O,rfl⟩:=List.mem_map.1 z;have:=h15 y O;unfold PH.bad;simp only [decide_eq_true_eq];omega
 rw [k] at b;have B:=hid hn;have P:=hid hb;have C:=hid h15;have a:cmpI (PH.sum m:Int) 32768=PH.state m:=by
  unfold cmpI PH.state;by_cases I:PH.sum m<32768
  ·rw [if_pos I,if_pos (by omega)]
  ·rw [if_neg I,if_neg (by omega)];by_cases r:32768<PH.sum m
   ·rw [if_pos r,if_pos (by omega)]
   ·rw [if_neg r,if_neg (by omega)]
 have g:=hid a;clear hn hb h15 k a;obtain⟨st,a⟩:=exq (PH.state m);rw [a];rw [a] at g;clear a;obtain⟨t,D⟩:=exq (tallyV m);have l:∀(i:Nat) (w:World),i<16->(Instr.index 180 t (.int .i64 i)).run Tryd.prog w=.ok (.int .i64 (PH.tal m i:Int)) w:=fun i w h=>by rw [<- D]; exact index16 _ i h w
 have E:=hid l;have Q:=hid D;clear l D;go_enter Tryd.func92,Tryd.ntmps92
 go_wp2_with fail
 refine b.mono ?_;rintro _ X ⟨rfl,R⟩;clear b;go_wp2_with fail
 refine(YI A n c m R B.out P.out (by omega) C.out).mono ?_;rintro _ Y ⟨rfl,S⟩;rw [Q.out];go_wp2_with fail
 go_loopw [4,12] (fun sv iv wr=>∃i:Nat,iv=.int .i64 i/\sv=.int .i64 (PH.share m i:Int)/\i<=16/\Sp w0 L wr) (fun _ iv _=>16 - (intOf iv).toNat)
 case atStart=>exact⟨0,rfl,rfl,by omega,S⟩
 case round =>
  obtain⟨i,rfl,rfl,Z,J⟩:=hrel;by_cases F:i<16
  ·have T:(i:Int)<16:=by omega
   have z:=E.out i wr F;obtain⟨q,u⟩:=exq (PH.tal m i);have U:q<=n:=by rw [<- u,B.out]; exact PH.tal_le m i
   obtain⟨s,f⟩:=exq (PH.share m i);have V:s<=600000000:=by
    rw [<- f];have:=PH.share_le m i;rw [<- B.out] at this;have r:i * (n * 32768)<=16 * (1024 * 32768):=Nat.mul_le_mul (by omega) (Nat.mul_le_mul_right _ hl);omega
   have j:PH.share m (i+1)=s+q * 2 ^ (15 - i):=by rw [PH.share,f,u]
   rw [u] at z;rw [f];obtain⟨p,v⟩:=exq (q * 2 ^ (15 - i));have W:p<=40000000:=by
    rw [<- v];have:(2:Nat) ^ (15 - i)<=2 ^ 15:=Nat.pow_le_pow_right (by omega) (by omega);have r:q * 2 ^ (15 - i)<=1024 * 2 ^ 15:=Nat.mul_le_mul (by omega) this;omega
   rw [v] at j;have G:=hid j;have K:=hid v;clear j v u f;obtain⟨d,M⟩:=exq (15 - i);have e1:(15:Int) - (i:Int)=(d:Int):=by omega
   have N:d<=15:=by omega
   rw [M] at K;have e2:(q:Int) * 2 ^ d=(p:Int):=by
    rw [<- K.out];simp
   clear M;go_wp2_with fail
   go_roundw
   case rel =>
    refine⟨i+1,by go_num,?_,by omega,J⟩;rw [G.out];exact congrArg (Value.int .i64) (by omega)
   case measure=>first | (simp [intOf]; omega) | simp [intOf]
  ·have T:¬ (i:Int)<16:=by omega
   obtain rfl:i=16:=by omega
   obtain⟨s,f⟩:=exq (PH.share m 16);have o:PH.sum m=s:=f;rw [o] at g;rw [f];clear f o;go_wp2_with fail
   refine(WW (s:Int) 32768 _).mono ?_;rintro _ _ ⟨rfl,rfl⟩;rw [g.out];go_wp2_with fail
   go_ret2;exact⟨rfl,J⟩
def cmpF:Value:=.func (.func 90) #[] #[]
theorem Yh (x y:PK) (H:Sp w0 L w) :
  Calls Tryd.prog 90 #[x.val,y.val] w fun e w'=>e=.returned (.int .i64 (cmpI x.c y.c))/\Sp w0 L w':=by
 obtain⟨a,b,p⟩:=x;obtain⟨c,d,q⟩:=y;unfold PK.val PK.ptr;simp only;obtain⟨P,i⟩:∃P:Option Addr,p.map (fun g=>(⟨g,0,none⟩:Addr))=P:=⟨_,rfl⟩;obtain⟨Q,j⟩:∃P:Option Addr,q.map (fun g=>(⟨g,0,none⟩:Addr))=P:=⟨_,rfl⟩;rw [i,j];clear i j p q;obtain⟨r,k⟩:=exq (cmpI a c);have h:=fun w=>WW a c w;rw [k] at h ⊢;have m:=hid h;clear h k;have l:(w.alloc (.cells #[.int .i64 a,.int .i64 b,.pointer P] 136)).heap.size=w.heap.size+1:=Array.size_push _;have f:=(H.newBk [.int .i64 a,.int .i64 b,.pointer P] 136).newBk [.int .i64 c,.int .i64 d,.pointer Q] 136;rw [l] at f;clear l;go_enter Tryd.func90,Tryd.ntmps90
 go_wp2_with fail
 generalize w.heap.size+1=g2 at f ⊢;generalize w.heap.size=g1 at f ⊢;generalize (w.alloc _).alloc _=w1 at f ⊢;have n:=f.cell 0 rfl 0;have o:=f.cell 1 rfl 0;simp only [List.getElem?_cons_zero] at n o;refine(m.out _).mono ?_;rintro _ _ ⟨rfl,rfl⟩;go_wp2_with fail
 go_ret;exact⟨rfl,f.pick 2 []⟩
end Go.Proofs.YteajimobgkempaaDoor

