/- A pack. -/
import Derived.Test.YtnjpnmpemhldcaaGreatDoorPk22
set_option linter.all false
set_option maxRecDepth 100000
set_option maxHeartbeats 8000000
namespace Go.Proofs.YtnjpnmpemhldcaaGreatDoor
variable {w0 w:World} {L:List Pr}
namespace PD
abbrev Wd:=Nat × Nat × Nat × Nat
def wd (s:PM.St):List Wd:=if s.1=0 then [(0,s.2.2.toNat,0,0)] else [(0,257+(PI.longS s.1).1,(PI.longS s.1).2.1,(PI.longS s.1).2.2),(1,(PI.farS s.2.1).1,(PI.farS s.2.1).2.1,(PI.farS s.2.1).2.2)]
def wds (Y:List PM.St):List Wd:=Y.flatMap wd
def words (Y:List PM.St):List Wd:=wds Y++[(0,256,0,0)]
def signsOf (b:Nat) (l:List Wd):List Nat:=(l.filter fun t=>t.1 == b).map fun t=>t.2.1
def wW (A B:List Nat) (t:Wd):List Bool:=PI.sayW (if t.1=0 then A else B) t.2.1 t.2.2.2 t.2.2.1
def layW (A B:List Nat) (l:List Wd):List Bool:=l.flatMap (wW A B)
def costW (A B:List Nat) (l:List Wd):Nat:=(l.map fun t=>(if t.1=0 then A else B).getD t.2.1 0+t.2.2.1).sum
theorem wW_len (A B:List Nat) (t:Wd):(wW A B t).length=(if t.1=0 then A else B).getD t.2.1 0+t.2.2.1:=by
 unfold wW PI.sayW;rw [List.length_append,PI.codeW_len,PBits.bitsOf_length]
theorem layW_len (A B:List Nat) (l:List Wd):(layW A B l).length=costW A B l:=by
 unfold layW costW;rw [List.length_flatMap];congr 1;exact List.map_congr_left fun t _=>wW_len A B t
theorem wds_cons (s:PM.St) (l:List PM.St):wds (s::l)=wd s++wds l:=rfl
theorem signsOf_app (b:Nat) (u v:List Wd):signsOf b (u++v)=signsOf b u++signsOf b v:=by unfold signsOf; rw [List.filter_append,List.map_append]
theorem signs0 (Y:List PM.St):signsOf 0 (words Y)=PI.symsOf (toks Y):=by
 unfold words;induction Y with
 | nil=>rfl
 | cons s l ih =>
  rw [wds_cons,List.append_assoc,signsOf_app,ih];show _=PI.symsOf (tokOf s::toks l);unfold wd tokOf;split <;> rfl
theorem signs1 (Y:List PM.St):signsOf 1 (words Y)=PI.farsOf (toks Y):=by
 unfold words;induction Y with
 | nil=>rfl
 | cons s l ih =>
  rw [wds_cons,List.append_assoc,signsOf_app,ih];show _=PI.farsOf (tokOf s::toks l);unfold wd tokOf;split <;> rfl
theorem sayW_plain (m:List Nat) (s:Nat):PI.sayW m s 0 0=PI.codeW m s:=by
 unfold PI.sayW;show _++[]=_;rw [List.append_nil]
theorem layW_app (A B:List Nat) (u v:List Wd):layW A B (u++v)=layW A B u++layW A B v:=by unfold layW; rw [List.flatMap_append]
theorem lay_words (A B:List Nat) (Y:List PM.St):layW A B (words Y)=PI.toksW A B (toks Y):=by
 unfold words PI.toksW;induction Y with
 | nil =>
  show wW A B (0,256,0,0)++[]=[]++PI.codeW A 256;rw [List.append_nil,List.nil_append];exact sayW_plain A 256
 | cons s l ih =>
  rw [wds_cons,List.append_assoc,layW_app,ih];show _=(tokOf s::toks l).flatMap _++_;rw [List.flatMap_cons,List.append_assoc];congr 1;unfold wd tokOf;split
  ·show wW A B (0,s.2.2.toNat,0,0)++[]=PI.codeW A s.2.2.toNat;rw [List.append_nil];exact sayW_plain A _
  ·show wW A B _++(wW A B _++[])=_;rw [List.append_nil];rfl
def rwd (t:Nat × Nat):Wd:=(0,t.1,PI.tellB t.1,t.2)
theorem lay_row (F:List Nat) (l:List (Nat × Nat)):layW F [] (l.map rwd)=PI.tellsW F l:=by
 unfold layW PI.tellsW;rw [List.flatMap_map];rfl
theorem signs_row (l:List (Nat × Nat)):signsOf 0 (l.map rwd)=l.map Prod.fst:=by
 induction l with
 | nil=>rfl
 | cons t l ih =>
  show signsOf 0 ([rwd t]++l.map rwd)=[t.1]++l.map Prod.fst;rw [signsOf_app,ih]; rfl
theorem words_len (Y:List PM.St):(words Y).length<=2 * Y.length+1:=by
 unfold words;rw [List.length_append];have:(wds Y).length<=2 * Y.length:=by
  induction Y with
  | nil=>exact Nat.le_refl _
  | cons s l ih =>
   rw [wds_cons,List.length_append,List.length_cons];have:(wd s).length<=2:=by unfold wd; split <;> simp
   omega
 simp; omega
def WdOk (A B:List Nat) (t:Wd):Prop:=t.1<2/\PI.Has (if t.1=0 then A else B) t.2.1/\t.2.2.2<2 ^ t.2.2.1/\t.2.2.1<=13
theorem words_ok {A B:List Nat} {Y:List PM.St} {n:Nat} (hY:PM.mays Y n) (hA:∀s ∈ PI.symsOf (toks Y),s<286->PI.Has A s) (hB:∀s ∈ PI.farsOf (toks Y),s<30->PI.Has B s):∀t ∈ words Y,WdOk A B t:=by
 have c:∀(Y:List PM.St) (n:Nat),PM.mays Y n->∀t ∈ wds Y,t.1<2/\t.2.2.2<2 ^ t.2.2.1/\t.2.2.1<=13/\(t.1=0->t.2.1<286)/\(t.1=1->t.2.1<30):=by
  intro Y;induction Y with
  | nil=>intro n _ t a; cases a
  | cons s l ih =>
   intro n h t a;rw [wds_cons] at a;rcases List.mem_append.1 a with a | a
   ·unfold wd at a;split at a
    ·rw [List.mem_singleton.1 a];have:=s.2.2.toNat_lt;exact⟨by show 0<2; decide,by show 0<2 ^ 0; decide,by show 0<=13; decide,fun _=>by show s.2.2.toNat<286; omega,fun h=>by cases h⟩
    ·rename_i hne
     rcases h.1 with h1 | h1
     ·exact absurd h1.1 hne
     ·obtain⟨u,g,v⟩:=PI.longS_lt s.1 h1.1 h1.2.1;obtain⟨w,i,j⟩:=PI.farS_lt s.2.1 h1.2.2.1 h1.2.2.2.1;simp only [List.mem_cons,List.not_mem_nil,or_false] at a;rcases a with rfl | rfl
      ·exact⟨by show 0<2; decide,g,by show(PI.longS s.1).2.1<=13; omega,fun _=>by show 257+(PI.longS s.1).1<286; omega,fun h=>by cases h⟩
      ·exact⟨by show 1<2; decide,i,j,fun h=>absurd (show(1:Nat)=0 from h) (by decide),fun _=>by show(PI.farS s.2.1).1<30; omega⟩
   ·exact ih _ h.2 t a
 intro t a;have d:∀b,t.1=b->t.2.1 ∈ signsOf b (words Y):=fun b hb=>by
  unfold signsOf;exact List.mem_map.2 ⟨t,List.mem_filter.2 ⟨a,by simp [hb]⟩,rfl⟩
 have k:t.1<2/\t.2.2.2<2 ^ t.2.2.1/\t.2.2.1<=13/\(t.1=0->t.2.1<286)/\(t.1=1->t.2.1<30):=by
  unfold words at a;rcases List.mem_append.1 a with h | h
  ·exact c Y n hY t h
  ·rw [List.mem_singleton.1 h];exact⟨by show 0<2; decide,by show 0<2 ^ 0; decide,by show 0<=13; decide,fun _=>by show 256<286; decide,fun h=>by cases h⟩
 obtain⟨m,o,p,q,r⟩:=k;refine⟨m,?_,o,p⟩;by_cases e:t.1=0
 ·rw [if_pos e];have:=d 0 e;rw [signs0] at this;exact hA _ this (q e)
 ·have f:t.1=1:=by omega
  rw [if_neg e];have:=d 1 f;rw [signs1] at this;exact hB _ this (r f)
end PD
open Go.RowKit
namespace PBits
theorem bitsOf_get (n k i:Nat) (h:i<k):(bitsOf n k)[i]?=some (n.testBit i):=by
 induction k generalizing n i with
 | zero=>omega
 | succ k ih =>
  cases i with
  | zero =>
   show some (n % 2 == 1)=_;rw [Nat.testBit_eq_decide_div_mod_eq,Nat.pow_zero,Nat.div_one];rfl
  | succ i =>
   show(bitsOf (n / 2) k)[i]?=_;rw [ih (n / 2) i (by omega),Nat.testBit_succ]
theorem bitsC_rev (n c:Nat):PH.bitsC n c=(bitsOf c n).reverse:=by
 apply List.ext_getElem?;intro i;by_cases h:i<n
 ·rw [List.getElem?_reverse (by rw [bitsOf_length]; exact h),bitsOf_length,bitsOf_get c n _ (by omega)];simp [PH.bitsC,h]
 ·rw [List.getElem?_eq_none (by rw [PH.bitsC_len]; omega),List.getElem?_eq_none (by rw [List.length_reverse,bitsOf_length]; omega)]
theorem num_bitsC (n c:Nat):num (PH.bitsC n c)=rev c n:=by rw [bitsC_rev,num_rev_bitsOf]
end PBits
def WB (g:Nat) (B:List Bool):Pr:=Wr g (PBits.num B) B.length
theorem TY (H:Sp w0 L w):Calls Tryz.prog 71 #[] w (Ret fun v w'=>∃g,v=.pointer (some ⟨g,0,none⟩)/\Sp w0 (WB g []::L) w'):=XD H
theorem Yg (g:Nat) (B:List Bool) (n k:Nat) (H:Sp w0 (WB g B::L) w) (hk:k<=57) (hn:n<2 ^ k) (hB:B.length<=1000000000) :
  Calls Tryz.prog 140 #[.pointer (some ⟨g,0,none⟩),.int .u64 n,.int .i64 k] w fun e w'=>e=.returned (.int .i64 0)/\Sp w0 (WB g (B++PBits.bitsOf n k)::L) w':=by
 refine(Vs g _ _ n k H (PBits.num_lt B) hk hn hB).mono ?_;rintro _ w' ⟨rfl,h⟩;refine⟨rfl,?_⟩;unfold WB;rw [PBits.num_append,PBits.num_bitsOf,Nat.mod_eq_of_lt hn,List.length_append,PBits.bitsOf_length,Nat.mul_comm];exact h
theorem To (g:Nat) (B:List Bool) (n k:Nat) (H:Sp w0 (WB g B::L) w) (hk:k<=57) (hn:n<2 ^ k) (hB:B.length<=1000000000) :
  Calls Tryz.prog 168 #[.pointer (some ⟨g,0,none⟩),.int .u64 n,.int .i64 k] w fun e w'=>e=.returned (.int .i64 0)/\Sp w0 (WB g (B++PH.bitsC k n)::L) w':=by
 refine(Tl g _ _ n k H (PBits.num_lt B) hk hn hB).mono ?_;rintro _ w' ⟨rfl,h⟩;refine⟨rfl,?_⟩;unfold WB;rw [PBits.num_append,PBits.num_bitsC,List.length_append,PH.bitsC_len,Nat.mul_comm];exact h
theorem Ur (g:Nat) (B:List Bool) (H:Sp w0 (WB g B::L) w) (hB:B.length<=1000000000) :
  Calls Tryz.prog 139 #[.pointer (some ⟨g,0,none⟩)] w fun e w'=>e=.returned (.int .i64 0)/\Sp w0 (WB g (B++List.replicate (PD.pad B.length) false)::L) w':=by
 refine(Ul g _ _ H (PBits.num_lt B) hB).mono ?_;rintro _ w' ⟨rfl,h⟩;refine⟨rfl,?_⟩;unfold WB;rw [PBits.num_append,PBits.num_false,Nat.mul_zero,Nat.add_zero,List.length_append,List.length_replicate,show B.length+PD.pad B.length=(B.length+7) / 8 * 8 by unfold PD.pad; omega];exact h
theorem Us (g:Nat) (B:List Bool) {v:Value} {l:List UInt8} (H:Sp w0 (WB g B::L) w) (hb:Byt w v l) (h8:B.length % 8=0) (hB:B.length<=1000000000) (hl:l.length<=1000000000) :
  Calls Tryz.prog 141 #[.pointer (some ⟨g,0,none⟩),v] w fun e w'=>e=.returned (.int .i64 0)/\Sp w0 (WB g (B++PBits.ofB l)::L) w':=by
 refine(Um g _ _ H hb h8 (PBits.num_lt B) hB hl).mono ?_;rintro _ w' ⟨rfl,h⟩;refine⟨rfl,?_⟩;unfold WB;rw [PBits.num_append,PBits.num_ofB,List.length_append,PBits.ofB_length,Nat.mul_comm (2 ^ _)];exact h
theorem TZ (g:Nat) (B:List Bool) (H:Sp w0 (WB g B::L) w) (hB:B.length<=1000000000) :
  Calls Tryz.prog 109 #[.pointer (some ⟨g,0,none⟩)] w fun e w'=>e=.returned (.int .i64 B.length)/\Sp w0 (WB g B::L) w':=by
 refine(TX g _ _ H (by omega)).mono ?_;rintro _ w' ⟨rfl,h⟩;exact⟨rfl,h.sep H⟩
theorem Xm (g:Nat) (B:List Bool) (H:Sp w0 (WB g B::L) w) (hB:B.length<=1000000000) :
  Calls Tryz.prog 74 #[.pointer (some ⟨g,0,none⟩)] w (Ret fun v w'=>Sp w0 (Row 5 1 v (PI.packB B).length (cells8 (PI.packB B))::WB g B::L) w'):=by
 refine(Tm g _ _ H hB).mono ?_;rintro _ w' ⟨v,rfl,h⟩;refine⟨v,rfl,?_⟩;rw [PI.packB_len];exact h
def cellsP (t:List (Nat × Nat)):List Value:=t.flatMap fun p=>[.int .i64 p.1,.int .i64 p.2]
theorem Y1 (t:List (Nat × Nat)):(cellsP t).length=t.length * 2:=by
 induction t with
 | nil=>rfl
 | cons p t ih=>show([_,_]++cellsP t).length=_; simp [ih]; omega
theorem Yj:∀(t:List (Nat × Nat)) (i:Nat),i<t.length->(cellsP t)[i * 2]?=some (.int .i64 ((t.getD i (0,0)).1:Int))/\(cellsP t)[i * 2+1]?=some (.int .i64 ((t.getD i (0,0)).2:Int))
 | [],i,h=>by simp at h
 | p::t,0,_=>⟨rfl,rfl⟩
 | p::t,i+1,h=>by
  have:=Yj t i (by simpa using h);have e:cellsP (p::t)=[.int .i64 p.1,.int .i64 p.2]++cellsP t:=rfl;rw [e,List.getElem?_append_right (by simp; omega),List.getElem?_append_right (by simp; omega)];simp only [List.length_cons,List.length_nil];rw [show(i+1) * 2 - (0+1+1)=i * 2 by omega,show(i+1) * 2+1 - (0+1+1)=i * 2+1 by omega];exact this
theorem rdP {w:World} {A:Option Addr} {t:List (Nat × Nat)} (h:Rd w A (cellsP t)) {i:Nat} (hi:i<t.length):∃ad,A=some ad/\w.cell? (ad.add (i * 2))=some (.int .i64 ((t.getD i (0,0)).1:Int))/\w.cell? ⟨(ad.add (i * 2)).block,(ad.add (i * 2)).off+1,none⟩=some (.int .i64 ((t.getD i (0,0)).2:Int)):=by
 obtain⟨ad,e,a⟩:=h (by intro e; have:=Y1 t; rw [e] at this; simp at this; omega);have b:=Yj t i hi;refine⟨ad,e,a _ _ b.1,?_⟩;rw [Zv ad (i * 2) 1 (by omega)];exact a _ _ b.2
namespace PD
def longT:List (Nat × Nat):=PI.lengthsT++[(258,0)]
theorem longT_find (x:Nat) (h:3<=x) (h2:x<=258):PI.findT longT x 28=(PI.longS x).1/\longT.getD (PI.findT longT x 28) (0,0)=(if x=258 then 258 else (PI.lengthsT.getD (PI.longS x).1 (0,0)).1,(PI.longS x).2.1)/\x - (longT.getD (PI.findT longT x 28) (0,0)).1=(PI.longS x).2.2/\(longT.getD (PI.findT longT x 28) (0,0)).1<=x:=by
 have a:longT.getD 28 (0,0)=(258,0):=rfl;unfold PI.longS;by_cases e:x=258
 ·subst e;have b:PI.findT longT 258 28=28:=by rw [PI.findT,a,if_pos (by decide)]
  rw [if_pos rfl,b,a];exact⟨rfl,rfl,rfl,by decide⟩
 ·have c:∀k,k<=27->PI.findT longT x k=PI.findT PI.lengthsT x k:=by
   intro k;induction k with
   | zero=>intro _; rfl
   | succ k ih =>
    intro c;rw [PI.findT,PI.findT,ih (by omega)];have:longT.getD (k+1) (0,0)=PI.lengthsT.getD (k+1) (0,0):=by
     unfold longT;rw [List.getD_eq_getElem?_getD,List.getD_eq_getElem?_getD,List.getElem?_append_left (by show k+1<28; omega)]
    rw [this]
  have b:PI.findT longT x 28=PI.findT PI.lengthsT x 27:=by
   rw [PI.findT,a,if_neg (by show ¬ 258<=x; omega),c 27 (by omega)]
  have d:=PI.findT_spec PI.lengthsT x 27 h;have f:longT.getD (PI.findT PI.lengthsT x 27) (0,0)=PI.lengthsT.getD (PI.findT PI.lengthsT x 27) (0,0):=by
   unfold longT;rw [List.getD_eq_getElem?_getD,List.getD_eq_getElem?_getD,List.getElem?_append_left (by show _<28; omega)]
  rw [if_neg e,b,f,if_neg e];exact⟨rfl,rfl,rfl,d.2.1⟩
def longI (x:Int):Nat × Nat × Nat:=if 3<=x/\x<=258 then (257+(PI.longS x.toNat).1,(PI.longS x.toNat).2.1,(PI.longS x.toNat).2.2) else (0,0,0)
def farI (x:Int):Nat × Nat × Nat:=if 1<=x/\x<=32768 then ((PI.farS x.toNat).1,(PI.farS x.toNat).2.1,(PI.farS x.toNat).2.2) else (0,0,0)
end PD
structure DTabs (TL TF:Option Addr) (cl cf:Nat) (w:World):Prop where
 long:w.cell? ⟨0,0,none⟩=some (.slice TL 29 cl)
 longs:Rd w TL (cellsP PD.longT)
 far:w.cell? ⟨1,0,none⟩=some (.slice TF 30 cf)
 fars:Rd w TF (cellsP PI.awayT)
 order:∀i,i<19->w.cell? ⟨2,i,none⟩=some (.int .i64 (PI.orderT.getD i 0:Nat))
theorem DTabs.heap {TL TF:Option Addr} {cl cf:Nat} {W w:World} (h:DTabs TL TF cl cf W) (hs:∀b,b<W.heap.size->w.heap[b]?=W.heap[b]?):DTabs TL TF cl cf w:=by
 have a:∀(p:Addr) u,W.cell? p=some u->w.cell? p=some u:=fun p u hp=>by
  rw [<- hp]; exact World.cell?_of_block (hs p.block (Zt hp))
 exact⟨a _ _ h.long,h.longs.keep fun p u _ hp=>(a p u hp).trans hp.symm,a _ _ h.far,h.fars.keep fun p u _ hp=>(a p u hp).trans hp.symm,fun i hi=>a _ _ (h.order i hi)⟩
theorem WH {t:List (Nat × Nat)} {x k:Nat} (h:(t.getD k (0,0)).1<=x):PI.findT t x k=k:=by
 cases k with
 | zero=>rfl
 | succ k=>unfold PI.findT; rw [if_pos h]
theorem WI {t:List (Nat × Nat)} {x k:Nat} (h:¬ (t.getD (k+1) (0,0)).1<=x):PI.findT t x (k+1)=PI.findT t x k:=by
 rw [PI.findT,if_neg h]
theorem Wg (TA:Option Addr) (n c:Nat) (t:List (Nat × Nat)) (x:Nat) (H:Sp w0 L w) (hT:Ent L fun w=>Rd w TA (cellsP t)) (hn:n=t.length) (h0:0<n) (hns:n<=1000) (hx0:(t.getD 0 (0,0)).1<=x) (hxs:x<=1000000) :
  Calls Tryz.prog 51 #[.slice TA n c,.int .i64 x] w fun e w'=>e=.returned (.tuple #[.int .i64 (PI.findT t x (n - 1):Int),.agg #[.int .i64 ((t.getD (PI.findT t x (n - 1)) (0,0)).1:Int),.int .i64 ((t.getD (PI.findT t x (n - 1)) (0,0)).2:Int)]])/\Sp w0 L w':=by
 obtain⟨T,l⟩:=exq (PI.findT t x (n - 1));rw [l];have Q:=hid hT;have o:=hid l;have V:=hid hn;have F:=hid hx0;have R:=H.newBk [.int .i64 0,.int .i64 0] 101;obtain⟨m,rfl⟩:∃m,n=m+1:=⟨n - 1,by omega⟩;have y0:((m+1:Nat):Int) - 1=(m:Int):=by omega
 rw [Nat.add_sub_cancel] at o;clear hT hn hx0 H l;go_enter Tryz.func51,Tryz.ntmps51
 go_wp2_with fail
 have q:=hid R;clear R;generalize w.heap.size=g at q ⊢;go_loopw [6] (fun kv wr=>∃k:Nat,kv=.int .i64 k/\k<=m/\PI.findT t x k=T/\Sp w0 (Bk g 101 [.int .i64 0,.int .i64 0]::L) wr) (fun kv _=>(intOf kv).toNat)
 case atStart=>exact⟨m,rfl,Nat.le_refl _,o.out,q.out⟩
 case round =>
  obtain⟨k,rfl,hk,z,D⟩:=hrel;clear q o;have E:=hid z;have B:k<t.length:=by have:=V.out; omega
  obtain⟨u,rfl,p0,p1⟩:=rdP (Q.out _ _ D.tail) B;obtain⟨⟨f,b⟩,G⟩:∃p,t.getD k (0,0)=p:=⟨_,rfl⟩;rw [G] at p0 p1;simp only at p0 p1;have C:=hid G;have k1:(k:Int)<((m+1:Nat):Int):=by omega
  have k3:(k:Int)<(m:Int)+1:=by omega
  have a:Ent L fun w=>w.cell? (u.add (k * 2))=some (.int .i64 f)/\w.cell? ⟨(u.add (k * 2)).block,(u.add (k * 2)).off+1,none⟩=some (.int .i64 b):=fun w0 w H=>by
   obtain⟨W,e,h0,S⟩:=rdP (Q.out _ _ H) B;injection e with e
   rw [C.out] at h0 S;rw [e]; exact⟨h0,S⟩
  have X:=hid a;clear z G a;by_cases r:f<=x
  ·have Y:¬ (f:Int) > (x:Int):=by omega
   have I:Hid (k=T):=by
    rw [<- E.out]; exact hid (WH (by rw [C.out]; exact r)).symm
   have J:=hid D;clear E D;go_wp2_with fail
   refine Zb (L:=L) [some (.int .i64 k),some (.slice (some u) (m+1) c),some (.int .i64 k),some (.pointer (some (u.add (k * 2)))),some (.agg #[.int .i64 f,.int .i64 b]),some (.int .i64 k),some (undef)] (fun _ _=>True) (fun ix vx=>match ix with | 6=>(fun _=>[Bk g 101 [.int .i64 f,.int .i64 b]]) vx | _=>[]) (fun ix=>match ix with | 6=>[Bk g 101 [.int .i64 0,.int .i64 0]] | _=>[]) 7 24
    [some 19,some 20,some 21,some 22,some 23,some 4,none]
    [[],[],[],[1,2],[3],[0,0],[4,5,0,1,2,3,4,5]]
    [[],[],[],[1,2],[1,2,3],[0],[0,1,2,3,4,5]]
    [[],[],[],[],[],[],[]] [[],[],[],[],[],[],[]] [(0,.slice (some u) (m+1) c),(5,.pointer (some ⟨g,0,none⟩)),(6,.int .i64 k)]
    (by kernel_rfl) rfl (by decide) (by rfl) (by decide +kernel) rfl rfl (by simp) (J.out) ?hstep ?hend
   case hstep =>
    refine⟨?p0,⟨?p1,⟨?p2,⟨?p3,⟨?p4,⟨?p5,⟨?p6,trivial⟩⟩⟩⟩⟩⟩⟩
    case p0 | p1 | p2 | p3 | p5 =>
     intro x wx A d h s j y H K hK;replace hK:=hid hK;clear j y h;repeat (obtain⟨_,s⟩:=s)
     refine so ?_;go_step;exact hK.out _ _ rfl H
    case p4 =>
     intro x wx A d h s j y H K i;have Z:=tq j 3;have hK:=hid i;clear i s j h;have M:=y _ X.out _ _ H;have c0:=M.1;have c1:=M.2;clear M y;refine so ?_;go_step;exact hK.out _ _ rfl H
    case p6 =>
     intro x wx A d h s j y H K i;have e5:A.tmps[5]?.getD undef=.pointer (some ⟨g,0,none⟩):=Zc s (5,_) (by simp) (by rfl);have a0:=tq j 4;replace H:Sp w0 (_::d) wx:=H;have hK:=hid i;clear i s j y h;have N:=H.cell 0 rfl 0;have O:=H.cell 0 rfl 1;have z0:=H.frozen 0 rfl 0;have z1:=H.frozen 0 rfl 1;refine so ?_;go_step;exact hK.out _ _ rfl ((H.set 0 (.int .i64 f)).set 1 (.int .i64 b))
   case hend =>
    intro x wx A U j H;replace H:Sp w0 (_::L) wx:=H;have y5:x 5=.int .i64 k:=j 5 (by decide);clear j;simp only [putAll,Act.put,List.setIfInBounds_toArray,List.set_cons_succ,List.set_cons_zero,Nat.reduceAdd] at U;subst U;have P:=hid H;clear H;have N:=P.out.cell 0 rfl 0;have O:=P.out.cell 0 rfl 1;simp only [List.getElem?_cons_zero,List.getElem?_cons_succ] at N O;go_wp2;rw [<- I.out,C.out];refine bodyPost_ret (v:=.tuple #[.int .i64 k,.agg #[.int .i64 f,.int .i64 b]]) (by simp [results,go_sem,N,O,y5]) rfl ⟨rfl,P.out.tail⟩
  ·have Y:(f:Int) > (x:Int):=by omega
   cases k with
   | zero =>
    have:=F.out;rw [C.out] at this;exact absurd this r
   | succ k =>
    have I:Hid (PI.findT t x k=T):=by
     rw [<- E.out]; exact hid (WI (by rw [C.out]; exact r)).symm
    clear E;go_wp2_with fail
    go_roundw
    case rel=>exact⟨k,by go_num,by omega,I.out,D⟩
    case measure=>first | (simp [intOf]; omega) | simp [intOf]
theorem VE:PD.longT.length=29:=rfl
theorem VF:PI.awayT.length=30:=rfl
theorem Ut (x:Int) {TL TF:Option Addr} {cl cf:Nat} (H:Sp w0 L w) (hT:Ent L (DTabs TL TF cl cf)) :
  Calls Tryz.prog 23 #[.int .i64 x] w fun e w'=>e=.returned (.tuple #[.int .i64 ((PD.longI x).1:Int),.int .i64 ((PD.longI x).2.1:Int),.int .i64 ((PD.longI x).2.2:Int)])/\Sp w0 L w':=by
 by_cases B:3<=x
 ·by_cases C:x<=258
  ·obtain⟨n,rfl⟩:∃n:Nat,x=(n:Int):=⟨x.toNat,by omega⟩;have e:PD.longI (n:Int)=(257+(PI.longS n).1,(PI.longS n).2.1,(PI.longS n).2.2):=by
    unfold PD.longI; rw [if_pos ⟨B,C⟩]; rfl
   obtain⟨l,i,m,j⟩:=PD.longT_find n (by omega) (by omega);have o:=Wg TL 29 cl PD.longT n H (fun w0 w H=>(hT w0 w H).longs) VE.symm (by decide) (by decide) (by show 3<=n; omega) (by omega);obtain⟨⟨a,b⟩,c⟩:∃p,PD.longT.getD (PI.findT PD.longT n 28) (0,0)=p:=⟨_,rfl⟩;obtain⟨k,g⟩:=exq (PI.findT PD.longT n 28);rw [e,<- l,<- m];rw [c] at i;rw [show(PI.longS n).2.1=b from(congrArg Prod.snd i).symm];rw [c] at j ⊢;have f : Calls Tryz.prog 51 #[.slice TL 29 cl,.int .i64 n] w fun e w'=>e=.returned (.tuple #[.int .i64 k,.agg #[.int .i64 a,.int .i64 b]])/\Sp w0 L w':=by
    have h:=o;rw [show(29:Nat) - 1=28 from rfl,c,g] at h;exact h
   rw [g];simp only at j ⊢;have D:=(hT _ _ H).long;have r:k<=28:=by rw [<- g]; exact(PI.findT_spec PD.longT n 28 (by show 3<=n; omega)).1
   obtain⟨s,t⟩:=exq (257+k);obtain⟨q,u⟩:=exq (n - a);have J:257+(k:Int)=(s:Int):=by omega
   have K:(n:Int) - (a:Int)=(q:Int):=by omega
   rw [t,u];have y:=hid f;have z:¬ (n:Int)<3:=by omega
   have E:¬ (n:Int) > 258:=by omega
   clear o f l i m e c g hT j t u;go_enter Tryz.func23,Tryz.ntmps23
   go_wp2_with fail
   refine y.out.mono ?_;rintro _ M ⟨rfl,F⟩;have A:=F.newBk [.int .i64 a,.int .i64 b] 101;have d:=hid A;have G:=d.out.cell 0 rfl 0;have I:=d.out.cell 0 rfl 1;simp only [List.getElem?_cons_zero,List.getElem?_cons_succ] at G I;clear y D A;go_wp2_with fail
   go_quiet (fail)
   go_wp2;exact bodyPost_ret (v:=.tuple #[.int .i64 s,.int .i64 b,.int .i64 q]) (by simp [results,go_sem]) rfl ⟨rfl,(d.out.drewN _).tail⟩
  ·have e:PD.longI x=(0,0,0):=by unfold PD.longI; rw [if_neg (by omega)]
   rw [e];have z:¬ x<3:=by omega
   have E:x > 258:=by omega
   go_enter Tryz.func23,Tryz.ntmps23
   go_wp2;exact bodyPost_ret (v:=.tuple #[.int .i64 0,.int .i64 0,.int .i64 0]) (by simp [results,go_sem]) rfl ⟨rfl,H⟩
 ·have e:PD.longI x=(0,0,0):=by unfold PD.longI; rw [if_neg (by omega)]
  rw [e];have z:x<3:=by omega
  go_enter Tryz.func23,Tryz.ntmps23
  go_wp2;exact bodyPost_ret (v:=.tuple #[.int .i64 0,.int .i64 0,.int .i64 0]) (by simp [results,go_sem]) rfl ⟨rfl,H⟩
theorem Tp (x:Int) {TL TF:Option Addr} {cl cf:Nat} (H:Sp w0 L w) (hT:Ent L (DTabs TL TF cl cf)) :
  Calls Tryz.prog 25 #[.int .i64 x] w fun e w'=>e=.returned (.tuple #[.int .i64 ((PD.farI x).1:Int),.int .i64 ((PD.farI x).2.1:Int),.int .i64 ((PD.farI x).2.2:Int)])/\Sp w0 L w':=by
 by_cases r:1<=x
 ·by_cases s:x<=32768
  ·obtain⟨n,rfl⟩:∃n:Nat,x=(n:Int):=⟨x.toNat,by omega⟩;have e:PD.farI (n:Int)=((PI.farS n).1,(PI.farS n).2.1,(PI.farS n).2.2):=by
    unfold PD.farI; rw [if_pos ⟨r,s⟩]; rfl
   have d:=PI.findT_spec PI.awayT n 29 (by show 1<=n; omega);have f:=Wg TF 30 cf PI.awayT n H (fun w0 w H=>(hT w0 w H).fars) VF.symm (by decide) (by decide) (by show 1<=n; omega) (by omega);rw [e];unfold PI.farS;rw [show(30:Nat) - 1=29 from rfl] at f;obtain⟨k,h⟩:=exq (PI.findT PI.awayT n 29);rw [h] at f d ⊢;obtain⟨⟨a,b⟩,g⟩:∃p,PI.awayT.getD k (0,0)=p:=⟨_,rfl⟩;rw [g] at f d ⊢;simp only at d ⊢;have t:=d.2.1;have i:=d.1;obtain⟨q,j⟩:=exq (n - a);have C:(n:Int) - (a:Int)=(q:Int):=by omega
   rw [j];have u:=(hT _ _ H).far;have l:=hid f;have m:¬ (n:Int)<1:=by omega
   have y:¬ (n:Int) > 32768:=by omega
   clear f e g h hT t j d;go_enter Tryz.func25,Tryz.ntmps25
   go_wp2_with fail
   refine l.out.mono ?_;rintro _ D ⟨rfl,z⟩;have o:=z.newBk [.int .i64 a,.int .i64 b] 101;have c:=hid o;have A:=c.out.cell 0 rfl 0;have B:=c.out.cell 0 rfl 1;simp only [List.getElem?_cons_zero,List.getElem?_cons_succ] at A B;clear l u o;go_wp2_with fail
   go_quiet (fail)
   go_wp2;exact bodyPost_ret (v:=.tuple #[.int .i64 k,.int .i64 b,.int .i64 q]) (by simp [results,go_sem]) rfl ⟨rfl,(c.out.drewN _).tail⟩
  ·have e:PD.farI x=(0,0,0):=by unfold PD.farI; rw [if_neg (by omega)]
   rw [e];have m:¬ x<1:=by omega
   have y:x > 32768:=by omega
   go_enter Tryz.func25,Tryz.ntmps25
   go_wp2;exact bodyPost_ret (v:=.tuple #[.int .i64 0,.int .i64 0,.int .i64 0]) (by simp [results,go_sem]) rfl ⟨rfl,H⟩
 ·have e:PD.farI x=(0,0,0):=by unfold PD.farI; rw [if_neg (by omega)]
  rw [e];have m:x<1:=by omega
  go_enter Tryz.func25,Tryz.ntmps25
  go_wp2;exact bodyPost_ret (v:=.tuple #[.int .i64 0,.int .i64 0,.int .i64 0]) (by simp [results,go_sem]) rfl ⟨rfl,H⟩
end Go.Proofs.YtnjpnmpemhldcaaGreatDoor

