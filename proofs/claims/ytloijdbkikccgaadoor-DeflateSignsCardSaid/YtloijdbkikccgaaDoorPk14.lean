/- A pack of texts: DefWords DefW CellsP DefA SepRegion2. -/
import Derived.Test.YtloijdbkikccgaaDoorPk02
import Derived.Test.YtloijdbkikccgaaDoorPk11
import Derived.Test.YtloijdbkikccgaaDoorPk13
namespace Go.Proofs.YtloijdbkikccgaaDoor
set_option linter.unusedVariables false
set_option linter.unusedSimpArgs false
namespace PD
abbrev Wd:=Nat × Nat × Nat × Nat
def wd (s:PM.St):List Wd:=if s.1=0 then [(0,s.2.2.toNat,0,0)] else [(0,257+(PI.longS s.1).1,(PI.longS s.1).2.1,(PI.longS s.1).2.2),(1,(PI.farS s.2.1).1,(PI.farS s.2.1).2.1,(PI.farS s.2.1).2.2)]
def wds (Y:List PM.St):List Wd:=Y.flatMap wd
def words (Y:List PM.St):List Wd:=wds Y++[(0,256,0,0)]
def signsOf (b:Nat) (l:List Wd):List Nat:=(l.filter fun t=>t.1 == b).map fun t=>t.2.1
def wW (A B:List Nat) (t:Wd):List Bool:=PI.sayW (if t.1=0 then A else B) t.2.1 t.2.2.2 t.2.2.1
def layW (A B:List Nat) (l:List Wd):List Bool:=l.flatMap (wW A B)
def costW (A B:List Nat) (l:List Wd):Nat:=(l.map fun t=>(if t.1=0 then A else B).getD t.2.1 0+t.2.2.1).sum
theorem wW_len (A B:List Nat) (t:Wd):(wW A B t).length=(if t.1=0 then A else B).getD t.2.1 0+t.2.2.1:=by
 unfold wW PI.sayW
 rw [List.length_append,PI.codeW_len,PBits.bitsOf_length]
theorem layW_len (A B:List Nat) (l:List Wd):(layW A B l).length=costW A B l:=by
 unfold layW costW
 rw [List.length_flatMap]
 congr 1
 exact List.map_congr_left fun t _=>wW_len A B t
theorem wds_cons (s:PM.St) (l:List PM.St):wds (s::l)=wd s++wds l:=rfl
theorem signsOf_app (b:Nat) (u v:List Wd):signsOf b (u++v)=signsOf b u++signsOf b v:=by unfold signsOf; rw [List.filter_append,List.map_append]
theorem signs0 (Y:List PM.St):signsOf 0 (words Y)=PI.symsOf (toks Y):=by
 unfold words
 induction Y with
 | nil=>rfl
 | cons s l ih =>
  rw [wds_cons,List.append_assoc,signsOf_app,ih]
  show _=PI.symsOf (tokOf s::toks l)
  unfold wd tokOf
  split <;> rfl
theorem signs1 (Y:List PM.St):signsOf 1 (words Y)=PI.farsOf (toks Y):=by
 unfold words
 induction Y with
 | nil=>rfl
 | cons s l ih =>
  rw [wds_cons,List.append_assoc,signsOf_app,ih]
  show _=PI.farsOf (tokOf s::toks l)
  unfold wd tokOf
  split <;> rfl
theorem sayW_plain (m:List Nat) (s:Nat):PI.sayW m s 0 0=PI.codeW m s:=by
 unfold PI.sayW
 show _++[]=_
 rw [List.append_nil]
theorem layW_app (A B:List Nat) (u v:List Wd):layW A B (u++v)=layW A B u++layW A B v:=by unfold layW; rw [List.flatMap_append]
theorem lay_words (A B:List Nat) (Y:List PM.St):layW A B (words Y)=PI.toksW A B (toks Y):=by
 unfold words PI.toksW
 induction Y with
 | nil =>
  show wW A B (0,256,0,0)++[]=[]++PI.codeW A 256
  rw [List.append_nil,List.nil_append]
  exact sayW_plain A 256
 | cons s l ih =>
  rw [wds_cons,List.append_assoc,layW_app,ih]
  show _=(tokOf s::toks l).flatMap _++_
  rw [List.flatMap_cons,List.append_assoc]
  congr 1
  unfold wd tokOf
  split
  ·show wW A B (0,s.2.2.toNat,0,0)++[]=PI.codeW A s.2.2.toNat
   rw [List.append_nil]
   exact sayW_plain A _
  ·show wW A B _++(wW A B _++[])=_
   rw [List.append_nil]
   rfl
def rwd (t:Nat × Nat):Wd:=(0,t.1,PI.tellB t.1,t.2)
theorem lay_row (F:List Nat) (l:List (Nat × Nat)):layW F [] (l.map rwd)=PI.tellsW F l:=by
 unfold layW PI.tellsW
 rw [List.flatMap_map]
 rfl
theorem signs_row (l:List (Nat × Nat)):signsOf 0 (l.map rwd)=l.map Prod.fst:=by
 induction l with
 | nil=>rfl
 | cons t l ih =>
  show signsOf 0 ([rwd t]++l.map rwd)=[t.1]++l.map Prod.fst
  rw [signsOf_app,ih]; rfl
theorem words_len (Y:List PM.St):(words Y).length<=2 * Y.length+1:=by
 unfold words
 rw [List.length_append]
 have:(wds Y).length<=2 * Y.length:=by
  induction Y with
  | nil=>exact Nat.le_refl _
  | cons s l ih =>
   rw [wds_cons,List.length_append,List.length_cons]
   have:(wd s).length<=2:=by unfold wd; split <;> simp
   omega
 simp; omega
def WdOk (A B:List Nat) (t:Wd):Prop:=t.1<2/\PI.Has (if t.1=0 then A else B) t.2.1/\t.2.2.2<2 ^ t.2.2.1/\t.2.2.1<=13
theorem words_ok {A B:List Nat} {Y:List PM.St} {n:Nat} (hY:PM.mays Y n) (hA:∀s ∈ PI.symsOf (toks Y),s<286->PI.Has A s) (hB:∀s ∈ PI.farsOf (toks Y),s<30->PI.Has B s):∀t ∈ words Y,WdOk A B t:=by
 have key:∀(Y:List PM.St) (n:Nat),PM.mays Y n->∀t ∈ wds Y,t.1<2/\t.2.2.2<2 ^ t.2.2.1/\t.2.2.1<=13/\(t.1=0->t.2.1<286)/\(t.1=1->t.2.1<30):=by
  intro Y
  induction Y with
  | nil=>intro n _ t ht; cases ht
  | cons s l ih =>
   intro n h t ht
   rw [wds_cons] at ht
   rcases List.mem_append.1 ht with ht | ht
   ·unfold wd at ht
    split at ht
    ·rw [List.mem_singleton.1 ht]
     have:=s.2.2.toNat_lt
     exact⟨by show 0<2; decide,by show 0<2 ^ 0; decide,by show 0<=13; decide,fun _=>by show s.2.2.toNat<286; omega,fun h=>by cases h⟩
    ·rename_i hne
     rcases h.1 with h1 | h1
     ·exact absurd h1.1 hne
     ·obtain⟨g1,g2,g3⟩:=PI.longS_lt s.1 h1.1 h1.2.1
      obtain⟨k1,k2,k3⟩:=PI.farS_lt s.2.1 h1.2.2.1 h1.2.2.2.1
      simp only [List.mem_cons,List.not_mem_nil,or_false] at ht
      rcases ht with rfl | rfl
      ·exact⟨by show 0<2; decide,g2,by show(PI.longS s.1).2.1<=13; omega,fun _=>by show 257+(PI.longS s.1).1<286; omega,fun h=>by cases h⟩
      ·exact⟨by show 1<2; decide,k2,k3,fun h=>absurd (show(1:Nat)=0 from h) (by decide),fun _=>by show(PI.farS s.2.1).1<30; omega⟩
   ·exact ih _ h.2 t ht
 intro t ht
 have hm:∀b,t.1=b->t.2.1 ∈ signsOf b (words Y):=fun b hb=>by
  unfold signsOf
  exact List.mem_map.2 ⟨t,List.mem_filter.2 ⟨ht,by simp [hb]⟩,rfl⟩
 have h0:t.1<2/\t.2.2.2<2 ^ t.2.2.1/\t.2.2.1<=13/\(t.1=0->t.2.1<286)/\(t.1=1->t.2.1<30):=by
  unfold words at ht
  rcases List.mem_append.1 ht with h | h
  ·exact key Y n hY t h
  ·rw [List.mem_singleton.1 h]
   exact⟨by show 0<2; decide,by show 0<2 ^ 0; decide,by show 0<=13; decide,fun _=>by show 256<286; decide,fun h=>by cases h⟩
 obtain⟨a1,a2,a3,a4,a5⟩:=h0
 refine⟨a1,?_,a2,a3⟩
 by_cases e:t.1=0
 ·rw [if_pos e]
  have:=hm 0 e
  rw [signs0] at this
  exact hA _ this (a4 e)
 ·have e1:t.1=1:=by omega
  rw [if_neg e]
  have:=hm 1 e1
  rw [signs1] at this
  exact hB _ this (a5 e1)
end PD
open Go.RowKit
namespace PBits
theorem bitsOf_get (n k i:Nat) (h:i<k):(bitsOf n k)[i]?=some (n.testBit i):=by
 induction k generalizing n i with
 | zero=>omega
 | succ k ih =>
  cases i with
  | zero =>
   show some (n % 2 == 1)=_
   rw [Nat.testBit_eq_decide_div_mod_eq,Nat.pow_zero,Nat.div_one]
   rfl
  | succ i =>
   show(bitsOf (n / 2) k)[i]?=_
   rw [ih (n / 2) i (by omega),Nat.testBit_succ]
theorem bitsC_rev (n c:Nat):PH.bitsC n c=(bitsOf c n).reverse:=by
 apply List.ext_getElem?
 intro i
 by_cases h:i<n
 ·rw [List.getElem?_reverse (by rw [bitsOf_length]; exact h),bitsOf_length,bitsOf_get c n _ (by omega)]
  simp [PH.bitsC,h]
 ·rw [List.getElem?_eq_none (by rw [PH.bitsC_len]; omega),List.getElem?_eq_none (by rw [List.length_reverse,bitsOf_length]; omega)]
theorem num_bitsC (n c:Nat):num (PH.bitsC n c)=rev c n:=by rw [bitsC_rev,num_rev_bitsOf]
end PBits
def WB (g:Nat) (B:List Bool):Pr:=Wr g (PBits.num B) B.length
theorem wb_new {w0 w:World} {L:List Pr} (H:Sp w0 L w):Calls Tryd.prog 51 #[] w (Ret fun v w'=>∃g,v=.pointer (some ⟨g,0,none⟩)/\Sp w0 (WB g []::L) w'):=newWriter_ok H
theorem wb_put (g:Nat) (B:List Bool) (n k:Nat) {w0 w:World} {L:List Pr} (H:Sp w0 (WB g B::L) w) (hk:k<=57) (hn:n<2 ^ k) (hB:B.length<=1000000000) :
  Calls Tryd.prog 110 #[.pointer (some ⟨g,0,none⟩),.int .u64 (n:Int),.int .i64 (k:Int)] w fun e w'=>e=.returned (.int .i64 0)/\Sp w0 (WB g (B++PBits.bitsOf n k)::L) w':=by
 refine(put_ok g _ _ n k H (PBits.num_lt B) hk hn hB).mono ?_
 rintro _ w' ⟨rfl,h⟩
 refine⟨rfl,?_⟩
 unfold WB
 rw [PBits.num_append,PBits.num_bitsOf,Nat.mod_eq_of_lt hn,List.length_append,PBits.bitsOf_length,Nat.mul_comm]
 exact h
theorem wb_code (g:Nat) (B:List Bool) (n k:Nat) {w0 w:World} {L:List Pr} (H:Sp w0 (WB g B::L) w) (hk:k<=57) (hn:n<2 ^ k) (hB:B.length<=1000000000) :
  Calls Tryd.prog 146 #[.pointer (some ⟨g,0,none⟩),.int .u64 (n:Int),.int .i64 (k:Int)] w fun e w'=>e=.returned (.int .i64 0)/\Sp w0 (WB g (B++PH.bitsC k n)::L) w':=by
 refine(code_ok g _ _ n k H (PBits.num_lt B) hk hn hB).mono ?_
 rintro _ w' ⟨rfl,h⟩
 refine⟨rfl,?_⟩
 unfold WB
 rw [PBits.num_append,PBits.num_bitsC,List.length_append,PH.bitsC_len,Nat.mul_comm]
 exact h
theorem wb_align (g:Nat) (B:List Bool) {w0 w:World} {L:List Pr} (H:Sp w0 (WB g B::L) w) (hB:B.length<=1000000000) :
  Calls Tryd.prog 109 #[.pointer (some ⟨g,0,none⟩)] w fun e w'=>e=.returned (.int .i64 0)/\Sp w0 (WB g (B++List.replicate (PD.pad B.length) false)::L) w':=by
 refine(align_ok g _ _ H (PBits.num_lt B) hB).mono ?_
 rintro _ w' ⟨rfl,h⟩
 refine⟨rfl,?_⟩
 unfold WB
 rw [PBits.num_append,PBits.num_false,Nat.mul_zero,Nat.add_zero,List.length_append,List.length_replicate,show B.length+PD.pad B.length=(B.length+7) / 8 * 8 by unfold PD.pad; omega]
 exact h
theorem wb_bytes (g:Nat) (B:List Bool) {v:Value} {l:List UInt8} {w0 w:World} {L:List Pr} (H:Sp w0 (WB g B::L) w) (hb:Byt w v l) (h8:B.length % 8=0) (hB:B.length<=1000000000) (hl:l.length<=1000000000) :
  Calls Tryd.prog 111 #[.pointer (some ⟨g,0,none⟩),v] w fun e w'=>e=.returned (.int .i64 0)/\Sp w0 (WB g (B++PBits.ofB l)::L) w':=by
 refine(bytes_ok g _ _ H hb h8 (PBits.num_lt B) hB hl).mono ?_
 rintro _ w' ⟨rfl,h⟩
 refine⟨rfl,?_⟩
 unfold WB
 rw [PBits.num_append,PBits.num_ofB,List.length_append,PBits.ofB_length,Nat.mul_comm (2 ^ _)]
 exact h
theorem wb_len (g:Nat) (B:List Bool) {w0 w:World} {L:List Pr} (H:Sp w0 (WB g B::L) w) (hB:B.length<=1000000000) :
  Calls Tryd.prog 84 #[.pointer (some ⟨g,0,none⟩)] w fun e w'=>e=.returned (.int .i64 (B.length:Int))/\Sp w0 (WB g B::L) w':=by
 refine(len_ok g _ _ H (by omega)).mono ?_
 rintro _ w' ⟨rfl,h⟩
 exact⟨rfl,h.sep H⟩
theorem wb_done (g:Nat) (B:List Bool) {w0 w:World} {L:List Pr} (H:Sp w0 (WB g B::L) w) (hB:B.length<=1000000000) :
  Calls Tryd.prog 55 #[.pointer (some ⟨g,0,none⟩)] w (Ret fun v w'=>Sp w0 (Row 5 1 v (PI.packB B).length (cells8 (PI.packB B))::WB g B::L) w'):=by
 refine(done_ok g _ _ H hB).mono ?_
 rintro _ w' ⟨v,rfl,h⟩
 refine⟨v,rfl,?_⟩
 rw [PI.packB_len]
 exact h
def cellsP (t:List (Nat × Nat)):List Value:=t.flatMap fun p=>[.int .i64 (p.1:Int),.int .i64 (p.2:Int)]
theorem cellsP_len (t:List (Nat × Nat)):(cellsP t).length=t.length * 2:=by
 induction t with
 | nil=>rfl
 | cons p t ih=>show([_,_]++cellsP t).length=_; simp [ih]; omega
theorem cellsP_get:∀(t:List (Nat × Nat)) (i:Nat),i<t.length->(cellsP t)[i * 2]?=some (.int .i64 ((t.getD i (0,0)).1:Int))/\(cellsP t)[i * 2+1]?=some (.int .i64 ((t.getD i (0,0)).2:Int))
 | [],i,h=>by simp at h
 | p::t,0,_=>⟨rfl,rfl⟩
 | p::t,i+1,h=>by
  have:=cellsP_get t i (by simpa using h)
  have e:cellsP (p::t)=[.int .i64 (p.1:Int),.int .i64 (p.2:Int)]++cellsP t:=rfl
  rw [e,List.getElem?_append_right (by simp; omega),List.getElem?_append_right (by simp; omega)]
  simp only [List.length_cons,List.length_nil]
  rw [show(i+1) * 2 - (0+1+1)=i * 2 by omega,show(i+1) * 2+1 - (0+1+1)=i * 2+1 by omega]
  exact this
theorem rdP {w:World} {A:Option Addr} {t:List (Nat × Nat)} (h:Rd w A (cellsP t)) {i:Nat} (hi:i<t.length):∃ad,A=some ad/\w.cell? (ad.add (i * 2))=some (.int .i64 ((t.getD i (0,0)).1:Int))/\w.cell? ⟨(ad.add (i * 2)).block,(ad.add (i * 2)).off+1,none⟩=some (.int .i64 ((t.getD i (0,0)).2:Int)):=by
 obtain⟨ad,e,hc⟩:=h (by intro e; have:=cellsP_len t; rw [e] at this; simp at this; omega)
 have hg:=cellsP_get t i hi
 refine⟨ad,e,hc _ _ hg.1,?_⟩
 rw [field_addr ad (i * 2) 1 (by omega)]
 exact hc _ _ hg.2
namespace PD
def longT:List (Nat × Nat):=PI.lengthsT++[(258,0)]
theorem longT_find (x:Nat) (h:3<=x) (h2:x<=258):PI.findT longT x 28=(PI.longS x).1/\longT.getD (PI.findT longT x 28) (0,0)=(if x=258 then 258 else (PI.lengthsT.getD (PI.longS x).1 (0,0)).1,(PI.longS x).2.1)/\x - (longT.getD (PI.findT longT x 28) (0,0)).1=(PI.longS x).2.2/\(longT.getD (PI.findT longT x 28) (0,0)).1<=x:=by
 have e28:longT.getD 28 (0,0)=(258,0):=rfl
 unfold PI.longS
 by_cases e:x=258
 ·subst e
  have e1:PI.findT longT 258 28=28:=by rw [PI.findT,e28,if_pos (by decide)]
  rw [if_pos rfl,e1,e28]
  exact⟨rfl,rfl,rfl,by decide⟩
 ·have hk:∀k,k<=27->PI.findT longT x k=PI.findT PI.lengthsT x k:=by
   intro k
   induction k with
   | zero=>intro _; rfl
   | succ k ih =>
    intro hk
    rw [PI.findT,PI.findT,ih (by omega)]
    have:longT.getD (k+1) (0,0)=PI.lengthsT.getD (k+1) (0,0):=by
     unfold longT
     rw [List.getD_eq_getElem?_getD,List.getD_eq_getElem?_getD,List.getElem?_append_left (by show k+1<28; omega)]
    rw [this]
  have e1:PI.findT longT x 28=PI.findT PI.lengthsT x 27:=by
   rw [PI.findT,e28,if_neg (by show ¬ 258<=x; omega),hk 27 (by omega)]
  have hf:=PI.findT_spec PI.lengthsT x 27 h
  have e2:longT.getD (PI.findT PI.lengthsT x 27) (0,0)=PI.lengthsT.getD (PI.findT PI.lengthsT x 27) (0,0):=by
   unfold longT
   rw [List.getD_eq_getElem?_getD,List.getD_eq_getElem?_getD,List.getElem?_append_left (by show _<28; omega)]
  rw [if_neg e,e1,e2,if_neg e]
  exact⟨rfl,rfl,rfl,hf.2.1⟩
def longI (x:Int):Nat × Nat × Nat:=if 3<=x/\x<=258 then (257+(PI.longS x.toNat).1,(PI.longS x.toNat).2.1,(PI.longS x.toNat).2.2) else (0,0,0)
def farI (x:Int):Nat × Nat × Nat:=if 1<=x/\x<=32768 then ((PI.farS x.toNat).1,(PI.farS x.toNat).2.1,(PI.farS x.toNat).2.2) else (0,0,0)
end PD
structure DTabs (TL TF:Option Addr) (cl cf:Nat) (w:World):Prop where
 long:w.cell? ⟨0,0,none⟩=some (.slice TL 29 cl)
 longs:Rd w TL (cellsP PD.longT)
 far:w.cell? ⟨1,0,none⟩=some (.slice TF 30 cf)
 fars:Rd w TF (cellsP PI.awayT)
 order:∀i,i<19->w.cell? ⟨2,i,none⟩=some (.int .i64 (PI.orderT.getD i 0:Nat))
theorem DTabs.heap {TL TF:Option Addr} {cl cf:Nat} {W w:World} (h:DTabs TL TF cl cf W) (hs:∀b,b<W.heap.size->w.heap[b]?=W.heap[b]?):DTabs TL TF cl cf w:=by
 have hc:∀(p:Addr) u,W.cell? p=some u->w.cell? p=some u:=fun p u hp=>by
  rw [<- hp]; exact World.cell?_of_block (hs p.block (cell_lt hp))
 exact⟨hc _ _ h.long,h.longs.keep fun p u _ hp=>(hc p u hp).trans hp.symm,hc _ _ h.far,h.fars.keep fun p u _ hp=>(hc p u hp).trans hp.symm,fun i hi=>hc _ _ (h.order i hi)⟩
theorem findT_stop {t:List (Nat × Nat)} {x k:Nat} (h:(t.getD k (0,0)).1<=x):PI.findT t x k=k:=by
 cases k with
 | zero=>rfl
 | succ k=>unfold PI.findT; rw [if_pos h]
theorem findT_down {t:List (Nat × Nat)} {x k:Nat} (h:¬ (t.getD (k+1) (0,0)).1<=x):PI.findT t x (k+1)=PI.findT t x k:=by
 rw [PI.findT,if_neg h]
set_option maxRecDepth 100000 in
set_option maxHeartbeats 1000000 in
theorem dfind_ok (TA:Option Addr) (n c:Nat) (t:List (Nat × Nat)) (x:Nat) {w0 w:World} {L:List Pr} (H:Sp w0 L w) (hT:Ent L fun w=>Rd w TA (cellsP t)) (hn:n=t.length) (h0:0<n) (hns:n<=1000) (hx0:(t.getD 0 (0,0)).1<=x) (hxs:x<=1000000) :
  Calls Tryd.prog 33 #[.slice TA n c,.int .i64 (x:Int)] w fun e w'=>e=.returned (.tuple #[.int .i64 (PI.findT t x (n - 1):Int),.agg #[.int .i64 ((t.getD (PI.findT t x (n - 1)) (0,0)).1:Int),.int .i64 ((t.getD (PI.findT t x (n - 1)) (0,0)).2:Int)]])/\Sp w0 L w':=by
 obtain⟨T,hTT⟩:∃T,PI.findT t x (n - 1)=T:=⟨_,rfl⟩
 rw [hTT]
 have HT:=Lib.hid hT
 have HTT:=Lib.hid hTT
 have HN:=Lib.hid hn
 have HX0:=Lib.hid hx0
 have H1:=H.newBk [.int .i64 0,.int .i64 0] 86
 obtain⟨m,rfl⟩:∃m,n=m+1:=⟨n - 1,by omega⟩
 have y0:((m+1:Nat):Int) - 1=(m:Int):=by omega
 rw [Nat.add_sub_cancel] at HTT
 clear hT hn hx0 H hTT
 go_enter Tryd.func33,Tryd.ntmps33
 go_wp2_with fail
 have HH1:=Lib.hid H1
 clear H1
 generalize w.heap.size=g at HH1 ⊢
 go_loopw [6] (fun kv wr=>∃k:Nat,kv=.int .i64 (k:Int)/\k<=m/\PI.findT t x k=T/\Sp w0 (Bk g 86 [.int .i64 0,.int .i64 0]::L) wr) (fun kv _=>(intOf kv).toNat)
 case atStart=>exact⟨m,rfl,Nat.le_refl _,HTT.out,HH1.out⟩
 case round =>
  obtain⟨k,rfl,hk,hft,H2⟩:=hrel
  clear HH1 HTT
  have HF:=Lib.hid hft
  have hkt:k<t.length:=by have:=HN.out; omega
  obtain⟨ad,rfl,p0,p1⟩:=rdP (HT.out _ _ H2.tail) hkt
  obtain⟨⟨f,b⟩,hp⟩:∃p,t.getD k (0,0)=p:=⟨_,rfl⟩
  rw [hp] at p0 p1
  simp only at p0 p1
  have HP:=Lib.hid hp
  have k1:(k:Int)<((m+1:Nat):Int):=by omega
  have k3:(k:Int)<(m:Int)+1:=by omega
  have hcell:Ent L fun w=>w.cell? (ad.add (k * 2))=some (.int .i64 (f:Int))/\w.cell? ⟨(ad.add (k * 2)).block,(ad.add (k * 2)).off+1,none⟩=some (.int .i64 (b:Int)):=fun w0 w H=>by
   obtain⟨ad2,e,h0,h1⟩:=rdP (HT.out _ _ H) hkt
   injection e with e
   rw [HP.out] at h0 h1
   rw [e]; exact⟨h0,h1⟩
  have HC:=Lib.hid hcell
  clear hft hp hcell
  by_cases hfx:f<=x
  ·have k2:¬ (f:Int) > (x:Int):=by omega
   have HK:Hid (k=T):=by
    rw [<- HF.out]; exact Lib.hid (findT_stop (by rw [HP.out]; exact hfx)).symm
   have HH2:=Lib.hid H2
   clear HF H2
   go_wp2_with fail
   refine wp_region_sc (L:=L) [some (.int .i64 (k:Int)),some (.slice (some ad) (m+1) c),some (.int .i64 (k:Int)),some (.pointer (some (ad.add (k * 2)))),some (.agg #[.int .i64 (f:Int),.int .i64 (b:Int)]),some (.int .i64 (k:Int)),some (undef)] (fun _ _=>True) (fun ix vx=>match ix with | 6=>(fun _=>[Bk g 86 [.int .i64 (f:Int),.int .i64 (b:Int)]]) vx | _=>[]) (fun ix=>match ix with | 6=>[Bk g 86 [.int .i64 0,.int .i64 0]] | _=>[]) 7 24
    [some 19,some 20,some 21,some 22,some 23,some 4,none]
    [[],[],[],[1,2],[3],[0,0],[4,5,0,1,2,3,4,5]]
    [[],[],[],[1,2],[1,2,3],[0],[0,1,2,3,4,5]]
    [[],[],[],[],[],[],[]] [[],[],[],[],[],[],[]] [(0,.slice (some ad) (m+1) c),(5,.pointer (some ⟨g,0,none⟩)),(6,.int .i64 (k:Int))]
    (by kernel_rfl) rfl (by decide) (by rfl) (by decide +kernel) rfl rfl (by simp) (HH2.out) ?hstep ?hend
   case hstep =>
    refine⟨?p0,⟨?p1,⟨?p2,⟨?p3,⟨?p4,⟨?p5,⟨?p6,trivial⟩⟩⟩⟩⟩⟩⟩
    case p0 | p1 | p2 | p3 | p5 =>
     intro x wx A rest hDf hF hS hE H K hK
     replace hK:=Lib.hid hK
     clear hS hE hDf
     repeat (obtain⟨_,hF⟩:=hF)
     change Oper.wp _ _ A wx K _
     go_step
     exact hK.out _ _ rfl H
    case p4 =>
     intro x wx A rest hDf hF hS hE H K hK0
     replace hDf:=Lib.hid hDf
     have e22:A.tmps[22]?.getD undef=.pointer (some (ad.add (k * 2))):=((hS 3 (by decide)).2 22 rfl).trans (hS 3 (by decide)).1
     replace H:Sp w0 (rest) wx:=H
     have hK:Hid (∀(v:Value) (w' : World),v=.agg #[.int .i64 (f:Int),.int .i64 (b:Int)]->Sp w0 (rest) w'->K (A.put (some 23) v) w'):=Lib.hid hK0
     clear hK0 hF hS
     have hc:=hE _ HC.out _ _ H
     have c0:=hc.1
     have c1:=hc.2
     clear hc hE
     change Oper.wp _ _ A wx K _
     go_step
     exact hK.out _ _ rfl (H)
    case p6 =>
     intro x wx A rest hDf hF hS hE H K hK0
     replace hDf:=Lib.hid hDf
     have e5:A.tmps[5]?.getD undef=.pointer (some ⟨g,0,none⟩):=factsE_get hF (5,.pointer (some ⟨g,0,none⟩)) (by simp) (by rfl)
     have e23:A.tmps[23]?.getD undef=.agg #[.int .i64 (f:Int),.int .i64 (b:Int)]:=((hS 4 (by decide)).2 23 rfl).trans (hS 4 (by decide)).1
     replace H:Sp w0 ((Bk g 86 [.int .i64 0,.int .i64 0])::rest) wx:=H
     have hK:Hid (∀(v:Value) (w' : World),v=undef->Sp w0 ((Bk g 86 [.int .i64 (f:Int),.int .i64 (b:Int)])::rest) w'->K (A.put none v) w'):=Lib.hid hK0
     clear hK0 hF hS hE
     have t0:=H.cell 0 rfl 0
     have t1:=H.cell 0 rfl 1
     have z0:=H.frozen 0 rfl 0
     have z1:=H.frozen 0 rfl 1
     change Oper.wp _ _ A wx K _
     go_step
     exact hK.out _ _ rfl ((H.set 0 (.int .i64 (f:Int))).set 1 (.int .i64 (b:Int)))
   case hend =>
    intro x wx A hA hS H
    replace H:Sp w0 ((Bk g 86 [.int .i64 (f:Int),.int .i64 (b:Int)])::L) wx:=H
    have y5:x 5=.int .i64 (k:Int):=hS 5 (by decide)
    clear hS
    simp only [putAll,Act.put,List.setIfInBounds_toArray,List.set_cons_succ,List.set_cons_zero,Nat.reduceAdd] at hA
    subst hA
    have HX:=Lib.hid H
    clear H
    have t0:=HX.out.cell 0 rfl 0
    have t1:=HX.out.cell 0 rfl 1
    simp only [List.getElem?_cons_zero,List.getElem?_cons_succ] at t0 t1
    go_wp2
    rw [<- HK.out,HP.out]
    refine bodyPost_ret (v:=.tuple #[.int .i64 (k:Int),.agg #[.int .i64 (f:Int),.int .i64 (b:Int)]]) (by simp [results,go_sem,t0,t1,y5]) rfl ⟨rfl,HX.out.tail⟩
  ·have k2:(f:Int) > (x:Int):=by omega
   cases k with
   | zero =>
    have:=HX0.out
    rw [HP.out] at this
    exact absurd this hfx
   | succ k =>
    have HK:Hid (PI.findT t x k=T):=by
     rw [<- HF.out]; exact Lib.hid (findT_down (by rw [HP.out]; exact hfx)).symm
    clear HF
    go_wp2_with fail
    go_roundw
    case rel=>exact⟨k,by go_num,by omega,HK.out,H2⟩
    case measure=>first | (simp [intOf]; omega) | simp [intOf]
theorem longT_len:PD.longT.length=29:=rfl
theorem awayT_len:PI.awayT.length=30:=rfl
set_option maxRecDepth 100000 in
set_option maxHeartbeats 1000000 in
theorem dlong_ok (x:Int) {TL TF:Option Addr} {cl cf:Nat} {w0 w:World} {L:List Pr} (H:Sp w0 L w) (hT:Ent L (DTabs TL TF cl cf)) :
  Calls Tryd.prog 15 #[.int .i64 x] w fun e w'=>e=.returned (.tuple #[.int .i64 ((PD.longI x).1:Int),.int .i64 ((PD.longI x).2.1:Int),.int .i64 ((PD.longI x).2.2:Int)])/\Sp w0 L w':=by
 by_cases h1:3<=x
 ·by_cases h2:x<=258
  ·obtain⟨n,rfl⟩:∃n:Nat,x=(n:Int):=⟨x.toNat,by omega⟩
   have e:PD.longI (n:Int)=(257+(PI.longS n).1,(PI.longS n).2.1,(PI.longS n).2.2):=by
    unfold PD.longI; rw [if_pos ⟨h1,h2⟩]; rfl
   obtain⟨f1,f2,f3,f4⟩:=PD.longT_find n (by omega) (by omega)
   have hF:=dfind_ok TL 29 cl PD.longT n H (fun w0 w H=>(hT w0 w H).longs) longT_len.symm (by decide) (by decide) (by show 3<=n; omega) (by omega)
   obtain⟨⟨a,b⟩,hab⟩:∃p,PD.longT.getD (PI.findT PD.longT n 28) (0,0)=p:=⟨_,rfl⟩
   obtain⟨k,hk⟩:∃k,PI.findT PD.longT n 28=k:=⟨_,rfl⟩
   rw [e,<- f1,<- f3]
   rw [hab] at f2
   rw [show(PI.longS n).2.1=b from(congrArg Prod.snd f2).symm]
   rw [hab] at f4 ⊢
   have hF' : Calls Tryd.prog 33 #[.slice TL 29 cl,.int .i64 (n:Int)] w fun e w'=>e=.returned (.tuple #[.int .i64 (k:Int),.agg #[.int .i64 (a:Int),.int .i64 (b:Int)]])/\Sp w0 L w':=by
    have h:=hF
    rw [show(29:Nat) - 1=28 from rfl,hab,hk] at h
    exact h
   rw [hk]
   simp only at f4 ⊢
   have c0:=(hT _ _ H).long
   have hk28:k<=28:=by rw [<- hk]; exact(PI.findT_spec PD.longT n 28 (by show 3<=n; omega)).1
   obtain⟨s,hs⟩:∃s,257+k=s:=⟨_,rfl⟩
   obtain⟨q,hq⟩:∃q,n - a=q:=⟨_,rfl⟩
   have y1:257+(k:Int)=(s:Int):=by omega
   have y2:(n:Int) - (a:Int)=(q:Int):=by omega
   rw [hs,hq]
   have HF:=Lib.hid hF'
   have k1:¬ (n:Int)<3:=by omega
   have k2:¬ (n:Int) > 258:=by omega
   clear hF hF' f1 f2 f3 e hab hk hT f4 hs hq
   go_enter Tryd.func15,Tryd.ntmps15
   go_wp2_with fail
   refine HF.out.mono ?_
   rintro _ w1 ⟨rfl,H1⟩
   have H2:=H1.newBk [.int .i64 (a:Int),.int .i64 (b:Int)] 86
   have HH2:=Lib.hid H2
   have t0:=HH2.out.cell 0 rfl 0
   have t1:=HH2.out.cell 0 rfl 1
   simp only [List.getElem?_cons_zero,List.getElem?_cons_succ] at t0 t1
   clear HF c0 H2
   go_wp2_with fail
   go_quiet (fail)
   go_wp2
   exact bodyPost_ret (v:=.tuple #[.int .i64 (s:Int),.int .i64 (b:Int),.int .i64 (q:Int)]) (by simp [results,go_sem]) rfl ⟨rfl,(HH2.out.drewN _).tail⟩
  ·have e:PD.longI x=(0,0,0):=by unfold PD.longI; rw [if_neg (by omega)]
   rw [e]
   have k1:¬ x<3:=by omega
   have k2:x > 258:=by omega
   go_enter Tryd.func15,Tryd.ntmps15
   go_wp2
   exact bodyPost_ret (v:=.tuple #[.int .i64 0,.int .i64 0,.int .i64 0]) (by simp [results,go_sem]) rfl ⟨rfl,H⟩
 ·have e:PD.longI x=(0,0,0):=by unfold PD.longI; rw [if_neg (by omega)]
  rw [e]
  have k1:x<3:=by omega
  go_enter Tryd.func15,Tryd.ntmps15
  go_wp2
  exact bodyPost_ret (v:=.tuple #[.int .i64 0,.int .i64 0,.int .i64 0]) (by simp [results,go_sem]) rfl ⟨rfl,H⟩
set_option maxRecDepth 100000 in
set_option maxHeartbeats 1000000 in
theorem dfar_ok (x:Int) {TL TF:Option Addr} {cl cf:Nat} {w0 w:World} {L:List Pr} (H:Sp w0 L w) (hT:Ent L (DTabs TL TF cl cf)) :
  Calls Tryd.prog 16 #[.int .i64 x] w fun e w'=>e=.returned (.tuple #[.int .i64 ((PD.farI x).1:Int),.int .i64 ((PD.farI x).2.1:Int),.int .i64 ((PD.farI x).2.2:Int)])/\Sp w0 L w':=by
 by_cases h1:1<=x
 ·by_cases h2:x<=32768
  ·obtain⟨n,rfl⟩:∃n:Nat,x=(n:Int):=⟨x.toNat,by omega⟩
   have e:PD.farI (n:Int)=((PI.farS n).1,(PI.farS n).2.1,(PI.farS n).2.2):=by
    unfold PD.farI; rw [if_pos ⟨h1,h2⟩]; rfl
   have hf:=PI.findT_spec PI.awayT n 29 (by show 1<=n; omega)
   have hF:=dfind_ok TF 30 cf PI.awayT n H (fun w0 w H=>(hT w0 w H).fars) awayT_len.symm (by decide) (by decide) (by show 1<=n; omega) (by omega)
   rw [e]
   unfold PI.farS
   rw [show(30:Nat) - 1=29 from rfl] at hF
   obtain⟨k,hk⟩:∃k,PI.findT PI.awayT n 29=k:=⟨_,rfl⟩
   rw [hk] at hF hf ⊢
   obtain⟨⟨a,b⟩,hab⟩:∃p,PI.awayT.getD k (0,0)=p:=⟨_,rfl⟩
   rw [hab] at hF hf ⊢
   simp only at hf ⊢
   have f4:=hf.2.1
   have hk29:=hf.1
   obtain⟨q,hq⟩:∃q,n - a=q:=⟨_,rfl⟩
   have y2:(n:Int) - (a:Int)=(q:Int):=by omega
   rw [hq]
   have c0:=(hT _ _ H).far
   have HF:=Lib.hid hF
   have k1:¬ (n:Int)<1:=by omega
   have k2:¬ (n:Int) > 32768:=by omega
   clear hF e hab hk hT f4 hq hf
   go_enter Tryd.func16,Tryd.ntmps16
   go_wp2_with fail
   refine HF.out.mono ?_
   rintro _ w1 ⟨rfl,H1⟩
   have H2:=H1.newBk [.int .i64 (a:Int),.int .i64 (b:Int)] 86
   have HH2:=Lib.hid H2
   have t0:=HH2.out.cell 0 rfl 0
   have t1:=HH2.out.cell 0 rfl 1
   simp only [List.getElem?_cons_zero,List.getElem?_cons_succ] at t0 t1
   clear HF c0 H2
   go_wp2_with fail
   go_quiet (fail)
   go_wp2
   exact bodyPost_ret (v:=.tuple #[.int .i64 (k:Int),.int .i64 (b:Int),.int .i64 (q:Int)]) (by simp [results,go_sem]) rfl ⟨rfl,(HH2.out.drewN _).tail⟩
  ·have e:PD.farI x=(0,0,0):=by unfold PD.farI; rw [if_neg (by omega)]
   rw [e]
   have k1:¬ x<1:=by omega
   have k2:x > 32768:=by omega
   go_enter Tryd.func16,Tryd.ntmps16
   go_wp2
   exact bodyPost_ret (v:=.tuple #[.int .i64 0,.int .i64 0,.int .i64 0]) (by simp [results,go_sem]) rfl ⟨rfl,H⟩
 ·have e:PD.farI x=(0,0,0):=by unfold PD.farI; rw [if_neg (by omega)]
  rw [e]
  have k1:x<1:=by omega
  go_enter Tryd.func16,Tryd.ntmps16
  go_wp2
  exact bodyPost_ret (v:=.tuple #[.int .i64 0,.int .i64 0,.int .i64 0]) (by simp [results,go_sem]) rfl ⟨rfl,H⟩
def up (dp:List (Option Nat)) (x:Nat->Value) (i:Nat):Value:=match dp.getD i none with | some j=>x j | none=>undef
def depOk (n:Nat) (anc:List (List Nat)) (dp:List (Option Nat)):Bool:=(List.range n).all fun i=>match dp.getD i none with | some j=>(anc.getD i []).contains j | none=>true
noncomputable def tok2 (R:Nat->Value->Value->List Pr) (I:Nat->List Pr) (use:List (List Nat)) (dp:List (Option Nat)) (listed:Array Bool) (x:Nat->Value) (i:Nat):List Pr :=
 if listed.getD i false=true then (if (List.range use.length).any (fun k=>listed.getD k false && (use.getD k []).contains i) then [] else R i (up dp x i) (x i)) else I i
section
variable {P:Program} {Q:Exit->Act->World->Prop}
def Gave2 (w0:World) (S:Nat->Value->Value->Prop) (R:Nat->Value->Value->List Pr) (i:Nat) (u:Value) (A:Act) (d:Option Tmp) (rest:List Pr) (a' : Act) (w' : World):Prop:=∃v,a'=A.put d v/\S i u v/\Sp w0 (R i u v++rest) w'
theorem wp_region_dp0 {rid:Nat} {l:List Oper} {a0:Act} {w w0:World} {L:List Pr}
    (S:Nat->Value->Value->Prop) (R:Nat->Value->Value->List Pr) (I:Nat->List Pr) (n:Nat)
    (ds:List (Option Tmp)) (pre anc use see:List (List Nat)) (dp:List (Option Nat)) (hdp:depOk n anc dp=true) (hm:P.follows .mixedOrders=true)
    (hds:l.map (·.dst)=ds) (hdist:Distinct ds)
    (hpre:(l.map fun o=>(o.after.toList.filter (Region.binds .any ·)).map (·.on))=pre)
    (hn:pre.length=n) (hanc:ancOk pre anc=true) (hflow:flowOk n anc use see=true)
    (H:Sp w0 ((List.range n).flatMap I++L) w)
    (hstep:∀(i:Nat) (o:Oper),l[i]?=some o->∀(x:Nat->Value) (w:World) (A:Act) (rest:List Pr),A=putAll a0 ds 0 x ->
      (∀j ∈ anc.getD i [],S j (up dp x j) (x j))->(∀j,i ∈ anc.getD j []->x j=base a0 ds j)->(∀φ,Ent L φ->Ent rest φ) ->
      Sp w0 (I i++((use.getD i []).flatMap (fun j=>R j (up dp x j) (x j))++((see.getD i []).flatMap I++rest))) w ->
      wpList P l.toArray (Exit.then (Gave2 w0 S R i (up dp x i) A o.dst ((see.getD i []).flatMap I++rest)) Q) [o] A w)
    (hend:∀(x:Nat->Value) (w:World) (A:Act),A=putAll a0 ds 0 x->(∀i,i<n->S i (up dp x i) (x i)) ->
      Sp w0 ((List.range n).flatMap (fun i=>if (List.range n).any (fun k=>(use.getD k []).contains i) then [] else R i (up dp x i) (x i))++L) w->Q .normal A w) :
    (Code.region rid l.toArray true).wp P Q a0 w:=by
  have hdl:ds.length=l.length:=by rw [<- hds]; simp
  have hpl:pre.length=l.length:=by rw [<- hpre]; simp
  have hsz:l.toArray.size=l.length:=by simp
  have hul:use.length=n:=by
    unfold flowOk at hflow
    simp only [Bool.and_eq_true,decide_eq_true_eq] at hflow
    exact hflow.1
  have hpe:∀i o,l[i]?=some o->∀e ∈ o.after,Region.binds .any e=true->e.on ∈ pre.getD i []:=by
    intro i o ho e he hb
    rw [<- hpre,List.getD_eq_getElem?_getD,List.getElem?_map,ho]
    simp only [Option.map_some,Option.getD_some,List.mem_map,List.mem_filter]
    exact⟨e,⟨by simpa using he,hb⟩,rfl⟩
  have hpe' : ∀i o,l[i]?=some o->∀j ∈ pre.getD i [],∃e ∈ o.after,Region.binds .any e=true/\e.on=j:=by
    intro i o ho j hj
    rw [<- hpre,List.getD_eq_getElem?_getD,List.getElem?_map,ho] at hj
    simp only [Option.map_some,Option.getD_some,List.mem_map,List.mem_filter] at hj
    obtain⟨e,⟨he,hb⟩,hj⟩:=hj
    exact⟨e,by simpa using he,hb,hj⟩
  have hA1:∀i,i<n->∀j ∈ pre.getD i [],j<i/\j ∈ anc.getD i []/\∀k ∈ anc.getD j [],k ∈ anc.getD i []:=by
    intro i hi j hj
    have h:=List.all_eq_true.1 hanc i (by simp; omega)
    simp only [Bool.and_eq_true] at h
    have:=List.all_eq_true.1 h.1 j hj
    simp only [Bool.and_eq_true,decide_eq_true_eq,List.contains_iff_mem] at this
    refine⟨this.1.1,this.1.2,fun k hk=>?_⟩
    have:=List.all_eq_true.1 this.2 k hk
    simpa using this
  have hA2:∀i,i<n->∀k ∈ anc.getD i [],k<i/\(k ∈ pre.getD i []∨∃j ∈ pre.getD i [],k ∈ anc.getD j []):=by
    intro i hi k hk
    have h:=List.all_eq_true.1 hanc i (by simp; omega)
    simp only [Bool.and_eq_true] at h
    have:=List.all_eq_true.1 h.2 k hk
    simp only [Bool.and_eq_true,decide_eq_true_eq,Bool.or_eq_true,List.contains_iff_mem,List.any_eq_true] at this
    refine⟨this.1,this.2.imp id ?_⟩
    rintro⟨j,hj,hk⟩
    exact⟨j,hj,by simpa using hk⟩
  have hF:∀i,i<n->(∀j ∈ use.getD i [],j ∈ anc.getD i []/\∀k,k<n->j ∈ use.getD k []->k=i)/\(∀k ∈ see.getD i [],k<n/\i ∈ anc.getD k [])/\(use.getD i []).Nodup/\(see.getD i []).Nodup:=by
    intro i hi
    unfold flowOk at hflow
    simp only [Bool.and_eq_true] at hflow
    have h:=List.all_eq_true.1 hflow.2 i (by simp; omega)
    simp only [Bool.and_eq_true,decide_eq_true_eq] at h
    obtain⟨⟨⟨h1,h2⟩,h3⟩,h4⟩:=h
    refine⟨fun j hj=>?_,fun k hk=>?_,h3,h4⟩
    · have:=List.all_eq_true.1 h1 j hj
      simp only [Bool.and_eq_true,List.contains_iff_mem] at this
      refine⟨this.1,fun k hk hjk=>?_⟩
      have:=List.all_eq_true.1 this.2 k (by simp; omega)
      simp only [Bool.or_eq_true,decide_eq_true_eq,Bool.not_eq_true'] at this
      rcases this with h | h
      · exact h
      · have h' : (use.getD k []).contains j=true:=by simpa using hjk
        rw [h'] at h; cases h
    · have:=List.all_eq_true.1 h2 k hk
      simpa using this
  refine wp_region_any hm ?_
  let Inv:Array Bool->Act->World->Prop:=fun listed a w=>∃x:Nat->Value,a=putAll a0 ds 0 x /\
    (∀i,i<n->listed.getD i false=true->S i (up dp x i) (x i)/\∀j ∈ anc.getD i [],listed.getD j false=true)/\(∀i,listed.getD i false=false->x i=base a0 ds i) /\
    Sp w0 ((List.range n).flatMap (tok2 R I use dp listed x)++L) w
  refine wpAny_inv Inv ?_ ?_ _ _ _ _ (by simp) (by simp) ?_
  · rintro listed a w i hs ⟨x,rfl,hdone,hun,hSp⟩ hi
    obtain⟨h1,h2,o,ho,haft⟩:=ready_mem hi
    have hil:i<n:=by rw [<- hn,hpl]; simpa using h1
    have hisz:i<listed.size:=by omega
    have ho' : l[i]?=some o:=by simpa using ho
    have hli:listed.getD i false=false:=by
      rw [Array.getD_eq_getD_getElem?,Array.getElem?_eq_getElem hisz] at h2 ⊢
      simpa using h2
    have hpd:∀j ∈ pre.getD i [],listed.getD j false=true:=fun j hj=>by
      obtain⟨e,he,hb,rfl⟩:=hpe' i o ho' j hj
      exact haft e he hb
    have had:∀j ∈ anc.getD i [],listed.getD j false=true:=fun j hj=>by
      obtain⟨_,h | ⟨k,hk,hjk⟩⟩:=hA2 i hil j hj
      · exact hpd j h
      · exact(hdone k (by have:=(hA1 i hil k hk).1; omega) (hpd k hk)).2 j hjk
    have hbeh:∀k,i ∈ anc.getD k []->listed.getD k false=false:=fun k hk=>by
      cases hc:listed.getD k false with
      | false=>rfl
      | true =>
        by_cases hkn:k<n
        · have:=(hdone k hkn hc).2 i hk
          rw [hli] at this; cases this
        · rw [Array.getD_eq_getD_getElem?,Array.getElem?_eq_none (by omega)] at hc
          simp at hc
    obtain⟨f1,f2,f3,f4⟩:=hF i hil
    -- the pool, parted
    have hnd:(i::(use.getD i []++see.getD i [])).Nodup:=by
      refine List.nodup_cons.2 ⟨fun h=>?_,List.nodup_append.2 ⟨f3,f4,fun a ha b hb e=>?_⟩⟩
      · rcases List.mem_append.1 h with h | h
        · have:=(hA2 i hil i (f1 i h).1).1; omega
        · have:=(hA2 i hil i (f2 i h).2).1; omega
      · subst e
        have h5:=had a (f1 a ha).1
        have h6:=hbeh a (f2 a hb).2
        rw [h5] at h6; cases h6
    have hlt:∀j ∈ i::(use.getD i []++see.getD i []),j<n:=fun j hj=>by
      rcases List.mem_cons.1 hj with rfl | hj
      · exact hil
      · rcases List.mem_append.1 hj with h | h
        · have:=(hA2 i hil j (f1 j h).1).1; omega
        · exact(f2 j h).1
    have hp:=perm_split n _ hnd hlt
    obtain⟨oth,hoth⟩:∃oth,oth=(List.range n).filter (fun k=>decide (k ∉ i::(use.getD i []++see.getD i []))):=⟨_,rfl⟩
    rw [<- hoth] at hp
    have hp1:∀f:Nat->List Pr,((List.range n).flatMap f++L).Perm (f i++((use.getD i []).flatMap f++((see.getD i []).flatMap f++(oth.flatMap f++L)))):=fun f=>by
      have:=(hp.flatMap_right f).append_right L
      simpa only [List.flatMap_append,List.flatMap_cons,List.append_assoc,List.cons_append] using this
    have hH:=hSp.perm (hp1 _)
    have t0:tok2 R I use dp listed x i=I i:=by unfold tok2; rw [hli,if_neg (by simp)]
    have tu:∀j ∈ use.getD i [],tok2 R I use dp listed x j=R j (up dp x j) (x j):=fun j hj=>by
      unfold tok2
      rw [if_pos (had j (f1 j hj).1),if_neg]
      intro h
      obtain⟨k,hk,h⟩:=List.any_eq_true.1 h
      simp only [Bool.and_eq_true,List.contains_iff_mem] at h
      have hk' : k<n:=by rw [<- hul]; simpa using hk
      have:=(f1 j hj).2 k hk' (by simpa using h.2)
      subst this
      rw [hli] at h; exact absurd h.1 (by simp)
    have ts:∀k ∈ see.getD i [],tok2 R I use dp listed x k=I k:=fun k hk=>by
      unfold tok2; rw [hbeh k (f2 k hk).2,if_neg (by simp)]
    have eu:(use.getD i []).flatMap (tok2 R I use dp listed x)=(use.getD i []).flatMap (fun j=>R j (up dp x j) (x j)):=flatMap_same fun j hj=>tu j hj
    have es:(see.getD i []).flatMap (tok2 R I use dp listed x)=(see.getD i []).flatMap I:=flatMap_same fun j hj=>ts j hj
    rw [t0,eu,es] at hH
    have hent:∀φ,Ent L φ->Ent (oth.flatMap (tok2 R I use dp listed x)++L) φ:=fun φ hφ w0' w' H'=>hφ _ _ (by
      have:=H'.pick (oth.flatMap (tok2 R I use dp listed x)).length [] ⟨List.nodup_nil,fun _ h=>by cases h⟩
      simpa using this)
    have hs1:=hstep i o ho' x w _ (oth.flatMap (tok2 R I use dp listed x)++L) rfl (fun j hj=>(hdone j (by have:=(hA2 i hil j hj).1; omega) (had j hj)).1) (fun j hj=>hun j (hbeh j hj)) hent hH
    have key:∀a' w',Gave2 w0 S R i (up dp x i) (putAll a0 ds 0 x) o.dst ((see.getD i []).flatMap I++(oth.flatMap (tok2 R I use dp listed x)++L)) a' w'->Inv (listed.setIfInBounds i true) a' w':=by
      rintro a' w' ⟨v,rfl,hS,hSp'⟩
      have hset:=fun j=>getD_set listed i j hisz
      have hget:∀j,j≠i->setX x i v j=x j:=fun j hj=>by unfold setX; rw [if_neg hj]
      have hgi:setX x i v i=v:=by unfold setX; rw [if_pos rfl]
      have hup:∀k,k<n->(k=i∨listed.getD k false=true)->up dp (setX x i v) k=up dp x k:=fun k hk hkl=>by
        unfold up
        have hd:=List.all_eq_true.1 hdp k (by simp; omega)
        cases hq:dp.getD k none with
        | none=>rfl
        | some j =>
          rw [hq] at hd
          have hja:j ∈ anc.getD k []:=by simpa using hd
          show setX x i v j=x j
          refine hget j ?_
          rintro rfl
          rcases hkl with rfl | hkl
          · have:=(hA2 k hk k hja).1; omega
          · rw [hbeh k hja] at hkl; cases hkl
      refine⟨setX x i v,?_,fun j hj hlj=>?_,fun j hlj=>?_,?_⟩
      · have hd:o.dst=ds.getD i none:=by
          rw [<- hds,List.getD_eq_getElem?_getD,List.getElem?_map,ho']; rfl
        rw [hd,putAll_set x v ds 0 a0 i hdist (by omega),Nat.zero_add]
      · by_cases hji:j=i
        · subst hji
          refine⟨by rw [hgi,hup j hj (.inl rfl)]; exact hS,fun k hk=>?_⟩
          rw [hset]; split
          · rfl
          · exact had k hk
        · rw [hset,if_neg hji] at hlj
          obtain⟨q1,q2⟩:=hdone j hj hlj
          refine⟨by rw [hget j hji,hup j hj (.inr hlj)]; exact q1,fun k hk=>?_⟩
          rw [hset]; split
          · rfl
          · exact q2 k hk
      · rw [hset] at hlj
        by_cases hji:j=i
        · rw [if_pos hji] at hlj; cases hlj
        · rw [if_neg hji] at hlj
          rw [hget j hji]; exact hun j hlj
      · refine Sp.perm ?_ (hp1 _).symm
        have n0:tok2 R I use dp (listed.setIfInBounds i true) (setX x i v) i=R i (up dp x i) v:=by
          unfold tok2
          rw [hset,if_pos rfl,if_pos rfl,hgi,hup i hil (.inl rfl),if_neg]
          intro h
          obtain⟨k,hk,h⟩:=List.any_eq_true.1 h
          simp only [Bool.and_eq_true,List.contains_iff_mem] at h
          have hk' : k<n:=by rw [<- hul]; simpa using hk
          have h5:=((hF k hk').1 i (by simpa using h.2)).1
          have h6:=(hA2 k hk' i h5).1
          have h7:=hbeh k h5
          rw [hset,if_neg (by omega),h7] at h
          exact absurd h.1 (by simp)
        have nu:(use.getD i []).flatMap (tok2 R I use dp (listed.setIfInBounds i true) (setX x i v))=[]:=by
          rw [List.flatMap_eq_nil_iff]
          intro j hj
          unfold tok2
          rw [hset,if_pos,if_pos]
          · refine List.any_eq_true.2 ⟨i,by simp; omega,?_⟩
            rw [hset,if_pos rfl]; simpa using hj
          · split
            · rfl
            · exact had j (f1 j hj).1
        have ns:(see.getD i []).flatMap (tok2 R I use dp (listed.setIfInBounds i true) (setX x i v))=(see.getD i []).flatMap I:=flatMap_same fun k hk=>by
          unfold tok2
          have:=(hA2 k (f2 k hk).1 i (f2 k hk).2).1
          rw [hset,if_neg (show ¬ k=i by omega),hbeh k (f2 k hk).2,if_neg (by simp)]
        have no:oth.flatMap (tok2 R I use dp (listed.setIfInBounds i true) (setX x i v))=oth.flatMap (tok2 R I use dp listed x):=flatMap_same fun k hk=>by
          have hk2:=(List.mem_filter.1 (hoth ▸ hk)).2
          simp only [List.mem_cons,List.mem_append,not_or,decide_eq_true_eq] at hk2
          unfold tok2
          rw [hset,if_neg hk2.1,hget k hk2.1]
          have hkn:k<n:=by
            have:=(List.mem_filter.1 (hoth ▸ hk)).1
            simpa using this
          by_cases hkl:listed.getD k false=true
          case neg=>rw [if_neg hkl,if_neg hkl]
          rw [hup k hkn (.inr hkl)]
          have e:((List.range use.length).any fun k_1=>(listed.setIfInBounds i true).getD k_1 false && (use.getD k_1 []).contains k)=((List.range use.length).any fun k_1=>listed.getD k_1 false && (use.getD k_1 []).contains k):=by
            congr 1
            funext m
            rw [hset]
            by_cases hmi:m=i
            · subst hmi
              have:(use.getD m []).contains k=false:=by simpa using hk2.2.1
              rw [this]; simp
            · rw [if_neg hmi]
          rw [e]
        rw [n0,nu,ns,no,List.nil_append]
        exact hSp'
    unfold wpOp
    simp only [ho]
    unfold wpList at hs1
    split at hs1
    · rename_i hw
      rw [if_pos hw]
      rcases hs1 with h | ⟨h,h'⟩
      · exact .inl (Oper.wp_mono (fun a' w' hh=>key a' w' hh) (upon_exits h))
      · exact .inr ⟨h,h'⟩
    · rename_i hw
      rw [if_neg hw]
      exact key _ _ hs1
  · rintro listed a w hs ⟨x,rfl,hdone,hun,hSp⟩ hr
    have hall:∀i,i<n->listed.getD i false=true:=by
      intro i
      induction i using Nat.strongRecOn with
      | _ i ih =>
        intro hi
        cases hc:listed.getD i false with
        | true=>rfl
        | false =>
          exfalso
          have hlt:i<l.toArray.size:=by omega
          have:i ∈ Region.ready .any l.toArray listed:=by
            refine ready_of hlt ?_ fun e he hb=>?_
            · have:i<listed.size:=by omega
              rw [Array.getD_eq_getD_getElem?,Array.getElem?_eq_getElem this] at hc ⊢
              simpa using hc
            · have ho' : l[i]?=some l.toArray[i]:=by simp
              have hm:=hpe i _ ho' e he hb
              have:=(hA1 i hi _ hm).1
              exact ih _ this (by omega)
          rw [hr] at this
          cases this
    refine hend x w _ rfl (fun i hi=>(hdone i hi (hall i hi)).1) ?_
    refine cast (congrArg (fun M=>Sp w0 (M++L) w) (flatMap_same fun i hi=>?_)) hSp
    have hi' : i<n:=by simpa using hi
    unfold tok2
    rw [if_pos (hall i hi'),hul]
    have e:((List.range n).any fun k=>listed.getD k false && (use.getD k []).contains i)=((List.range n).any fun k=>(use.getD k []).contains i):=by
      rw [Bool.eq_iff_iff,List.any_eq_true,List.any_eq_true]
      constructor
      · rintro⟨k,hk,h⟩
        exact⟨k,hk,(Bool.and_eq_true _ _ ▸ h).2⟩
      · rintro⟨k,hk,h⟩
        exact⟨k,hk,by rw [hall k (by simpa using hk),h]; rfl⟩
    rw [e]
  · refine⟨base a0 ds,(putAll_self _ ds 0 a0 fun i _=>by rw [Nat.zero_add]).symm,fun i _ hc=>?_,fun i _=>rfl,?_⟩
    · exfalso
      rw [Array.getD_eq_getD_getElem?] at hc
      simp [Array.getElem?_replicate] at hc
      split at hc <;> simp at hc
    · have:Sp w0 ((List.range n).flatMap I++L) { w with drawn:=w.drawn+1 }:=H.drew
      refine cast (congrArg (fun M=>Sp w0 (M++L) _) (flatMap_same fun i hi=>?_)) this
      unfold tok2
      rw [if_neg]
      rw [Array.getD_eq_getD_getElem?]
      simp only [Array.getElem?_replicate]
      split <;> simp
def StepsDp (P:Program) (Q:Exit->Act->World->Prop) (S:Nat->Value->Value->Prop) (R:Nat->Value->Value->List Pr) (I:Nat->List Pr) (dp:List (Option Nat)) (ds:List (Option Tmp)) (env:List (Nat × Value)) (w0:World) (L:List Pr):Nat->List Oper->List (List Nat)->List (List Nat)->List (List Nat)->Prop
 | i,o::os,an::ans,us::uss,se::ses=>(∀(x:Nat->Value) (w:World) (A:Act) (rest:List Pr),
   (∀p,p ∈ env->A.tmps[p.1]?.getD undef=p.2)->(∀j,j ∈ an->S j (up dp x j) (x j)/\∀t,ds.getD j none=some t->A.tmps[t]?.getD undef=x j)->(∀φ,Ent L φ->Ent rest φ) ->
   Sp w0 (I i++(us.flatMap (fun j=>R j (up dp x j) (x j))++(se.flatMap I++rest))) w ->
   ∀K:Act->World->Prop,(∀v w',S i (up dp x i) v->Sp w0 (R i (up dp x i) v++(se.flatMap I++rest)) w'->K (A.put o.dst v) w') ->
   StepOb P Q o x A w K)/\StepsDp P Q S R I dp ds env w0 L (i+1) os ans uss ses
 | _,[],[],[],[]=>True
 | _,_,_,_,_=>False
theorem stepsDp_get {S:Nat->Value->Value->Prop} {R:Nat->Value->Value->List Pr} {I:Nat->List Pr} {dp:List (Option Nat)} {ds:List (Option Tmp)} {env:List (Nat × Value)} {w0:World} {L:List Pr} :
  ∀(l:List Oper) (k i:Nat) (o:Oper) (ans uss ses:List (List Nat)),StepsDp P Q S R I dp ds env w0 L k l ans uss ses->l[i]?=some o ->
  ∀(x:Nat->Value) (w:World) (A:Act) (rest:List Pr),
   (∀p,p ∈ env->A.tmps[p.1]?.getD undef=p.2)->(∀j,j ∈ ans.getD i []->S j (up dp x j) (x j)/\∀t,ds.getD j none=some t->A.tmps[t]?.getD undef=x j)->(∀φ,Ent L φ->Ent rest φ) ->
   Sp w0 (I (k+i)++((uss.getD i []).flatMap (fun j=>R j (up dp x j) (x j))++((ses.getD i []).flatMap I++rest))) w ->
   ∀K:Act->World->Prop,(∀v w',S (k+i) (up dp x (k+i)) v->Sp w0 (R (k+i) (up dp x (k+i)) v++((ses.getD i []).flatMap I++rest)) w'->K (A.put o.dst v) w') ->
   StepOb P Q o x A w K
 | [],_,_,_,_,_,_,_,h=>by simp at h
 | o::os,k,i,o',[],uss,ses,hs,h=>by simp [StepsDp] at hs
 | o::os,k,i,o',an::ans,[],ses,hs,h=>by simp [StepsDp] at hs
 | o::os,k,i,o',an::ans,us::uss,[],hs,h=>by simp [StepsDp] at hs
 | o::os,k,0,o',an::ans,us::uss,se::ses,hs,h=>by
  have:o=o':=by simpa using h
  subst this
  exact hs.1
 | o::os,k,i+1,o',an::ans,us::uss,se::ses,hs,h=>by
  have:=stepsDp_get os (k+1) i o' ans uss ses hs.2 (by simpa using h)
  rw [show k+1+i=k+(i+1) by omega] at this
  exact this
theorem wp_region_dp {rid:Nat} {l:List Oper} {a0:Act} {w w0:World} {L:List Pr}
  (S:Nat->Value->Value->Prop) (R:Nat->Value->Value->List Pr) (I:Nat->List Pr) (n sz:Nat)
  (ds:List (Option Tmp)) (pre anc use see:List (List Nat)) (dp:List (Option Nat)) (hdp:depOk n anc dp=true) (env:List (Nat × Value)) (hm:P.follows .mixedOrders=true)
  (hds:l.map (·.dst)=ds) (hdist:Distinct ds)
  (hpre:(l.map fun o=>(o.after.toList.filter (Region.binds .any ·)).map (·.on))=pre)
  (hn:pre.length=n) (hanc:ancOk pre anc=true) (hflow:flowOk n anc use see=true) (hgu:guardsOk l ds anc=true) (hanl:anc.length=n)
  (hsz:a0.tmps.size=sz) (hlt:ds.all (fun d=>match d with | some t=>decide (t<sz) | none=>true)=true)
  (henv:∀p,p ∈ env->a0.tmps[p.1]?.getD undef=p.2) (henv2:envOk env ds=true)
  (H:Sp w0 ((List.range n).flatMap I++L) w)
  (hstep:StepsDp P Q S R I dp ds env w0 L 0 l anc use see)
  (hend:∀(x:Nat->Value) (w:World) (A:Act),A=putAll a0 ds 0 x->(∀i,i<n->S i (up dp x i) (x i)) ->
   Sp w0 ((List.range n).flatMap (fun i=>if (List.range n).any (fun k=>(use.getD k []).contains i) then [] else R i (up dp x i) (x i))++L) w->Q .normal A w) :
  (Code.region rid l.toArray true).wp P Q a0 w:=by
 have hdl:ds.length=l.length:=by rw [<- hds]; simp
 have hpl:pre.length=l.length:=by rw [<- hpre]; simp
 refine wp_region_dp0 S R I n ds pre anc use see dp hdp hm hds hdist hpre hn hanc hflow H (fun i o ho x w A rest hA hS hu hE hH=>?_) hend
 have hil:i<l.length:=(List.getElem?_eq_some_iff.1 ho).1
 have hslot:∀j,j<n->∀t,ds.getD j none=some t->A.tmps[t]?=some (x j):=fun j hj t ht=>by
  have hj' : j<ds.length:=by omega
  rw [List.getD_eq_getElem?_getD,List.getElem?_eq_getElem hj'] at ht
  simp only [Option.getD_some] at ht
  have htl:=List.all_eq_true.1 hlt _ (List.getElem_mem hj')
  rw [ht] at htl
  replace htl:t<sz:=by simpa using htl
  rw [hA,putAll_eval x ds 0 j t a0 hdist (by rw [List.getElem?_eq_getElem hj',ht]) (Nat.lt_of_lt_of_eq htl hsz.symm),Nat.zero_add]
 have hanlt:∀j,j ∈ anc.getD i []->j<n:=fun j hj=>by
  have h:=List.all_eq_true.1 hanc i (by simp; omega)
  simp only [Bool.and_eq_true] at h
  have:=List.all_eq_true.1 h.2 j hj
  simp only [Bool.and_eq_true,decide_eq_true_eq] at this
  omega
 have hob:=stepsDp_get l 0 i o anc use see hstep ho x w A rest (fun p hp=>by
   have h2:=List.all_eq_true.1 henv2 p hp
   rw [hA,putAll_eval_far x p.1 ds 0 a0 (by simpa using h2)]
   exact henv p hp) (fun j hj=>⟨hS j hj,fun t ht=>by rw [hslot j (hanlt j hj) t ht]; rfl⟩) hE (by rw [Nat.zero_add]; exact hH)
  (Gave2 w0 S R i (up dp x i) A o.dst ((see.getD i []).flatMap I++rest)) (fun v w' h1 h2=>⟨v,rfl,by rwa [Nat.zero_add] at h1,by rwa [Nat.zero_add] at h2⟩)
 unfold StepOb at hob
 unfold wpList
 cases hg:o.guard with
 | none =>
  rw [hg] at hob
  have hw:Region.wanted o (yielded l.toArray A.tmps)=true:=by simp [Region.wanted,hg]
  rw [if_pos hw]
  refine .inl ?_
  refine Oper.wp_mono (fun a w h=>?_) (upon_exits' hob)
  exact h
 | some p =>
  obtain⟨j,b⟩:=p
  rw [hg] at hob
  obtain⟨c,hc,hob⟩:=hob
  have hg2:=List.all_eq_true.1 hgu (o,anc.getD i []) (by
   rw [List.mem_iff_getElem?]
   refine⟨i,?_⟩
   rw [List.getElem?_zip_eq_some]
   refine⟨ho,?_⟩
   rw [List.getD_eq_getElem?_getD,List.getElem?_eq_getElem (by omega)]; rfl)
  simp only [hg,Bool.and_eq_true,List.contains_iff_mem] at hg2
  obtain⟨hja,hjs⟩:=hg2
  have hjn:=hanlt j hja
  obtain⟨t,ht⟩:=Option.isSome_iff_exists.1 hjs
  have hy:yielded l.toArray A.tmps j=c:=by
   unfold yielded
   have hdj:(l.toArray[j]?).bind (·.dst)=some t:=by
    have hj' : j<ds.length:=by omega
    rw [List.getD_eq_getElem?_getD,List.getElem?_eq_getElem hj'] at ht
    simp only [Option.getD_some] at ht
    subst hds
    have hj2:j<l.length:=by simpa using hj'
    rw [List.getElem_map] at ht
    simp [hj2,ht]
   rw [hdj]
   simp only [Option.bind_some,hslot j hjn t ht]
   rw [<- hc]
   cases x j <;> rfl
  have hw:Region.wanted o (yielded l.toArray A.tmps)=(c == some b):=by simp [Region.wanted,hg,hy]
  rw [hw]
  by_cases hcb:c=some b
  ·rw [if_pos hcb] at hob
   rw [if_pos (by simp [hcb])]
   exact .inl (upon_exits' hob)
  ·rw [if_neg hcb] at hob
   rw [if_neg (by simpa using hcb)]
   exact hob
end
end Go.Proofs.YtloijdbkikccgaaDoor

