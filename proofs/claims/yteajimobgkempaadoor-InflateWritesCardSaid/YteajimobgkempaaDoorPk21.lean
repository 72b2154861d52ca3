/- A pack. -/
import Derived.Test.YteajimobgkempaaDoorPk20
set_option linter.all false
set_option maxRecDepth 100000
set_option maxHeartbeats 8000000
namespace Go.Proofs.YteajimobgkempaaDoor
variable {w0 w:World} {L:List Pr}
namespace PI
abbrev Sg:=Nat × Nat × Nat
def sgsT:Tok->List Sg
 | .lit c=>[(c.toNat,0,0)]
 | .cpy n b=>[(257+(longS n).1,(longS n).2.2,(longS n).2.1),((farS b).1,(farS b).2.2,(farS b).2.1)]
def sgs (l:List Tok):List Sg:=l.flatMap sgsT++[(256,0,0)]
def farNx (f:Bool) (s:Nat):Bool:=!f && decide (256<s)
def farAt (l:List Sg):Nat->Bool
 | 0=>false
 | k+1=>farNx (farAt l k) (l.getD k (0,0,0)).1
def sgW (m d:List Nat) (x:Sg) (far:Bool):List Bool:=sayW (if far then d else m) x.1 x.2.1 x.2.2
def sgsW (m d:List Nat) (l:List Sg):Nat->List Bool
 | 0=>[]
 | k+1=>sgsW m d l k++sgW m d (l.getD k (0,0,0)) (farAt l k)
def sgsL (m d:List Nat):Bool->List Sg->List Bool
 | _,[]=>[]
 | f,x::r=>sgW m d x f++sgsL m d (farNx f x.1) r
theorem getD_cons_drop {α:Type} {l:List α} {k:Nat} (z:α) (h:k<l.length):l.drop k=l.getD k z::l.drop (k+1):=by
 rw [List.drop_eq_getElem_cons h,List.getD_eq_getElem?_getD,List.getElem?_eq_getElem h]; rfl
theorem sgsW_L (m d:List Nat) (l:List Sg):∀k,k<=l.length->sgsW m d l k++sgsL m d (farAt l k) (l.drop k)=sgsL m d false l:=by
 intro k;induction k with
 | zero=>intro _; rfl
 | succ k ih =>
  intro a;rw [<- ih (by omega),getD_cons_drop (0,0,0) (show k<l.length by omega)];show(sgsW m d l k++_)++_=_++(_++_);rw [List.append_assoc];rfl
theorem sgsL_tok (m d:List Nat) {t:Tok} {r:List Sg} : sgsL m d false (sgsT t++r)=tokW m d t++sgsL m d false r:=by
 cases t with
 | lit c =>
  have f:=c.toNat_lt;show sayW m c.toNat 0 0++sgsL m d (farNx false c.toNat) r=_;have e:farNx false c.toNat=false:=by
   show(true && decide (256<c.toNat))=false;simp; omega
  rw [e];show(codeW m c.toNat++[])++_=_;rw [List.append_nil]; rfl
 | cpy n b =>
  show sayW m (257+(longS n).1) _ _++(sgsL m d (farNx false (257+(longS n).1)) (((farS b).1,(farS b).2.2,(farS b).2.1)::r))=_;have e:farNx false (257+(longS n).1)=true:=by
   show(true && decide (256<257+(longS n).1))=true;simp; omega
  rw [e];show _++(sayW d _ _ _++sgsL m d (farNx true (farS b).1) r)=_;have a:farNx true (farS b).1=false:=rfl;rw [a,<- List.append_assoc]; rfl
theorem sgsL_toks (m d:List Nat) (l:List Tok):sgsL m d false (sgs l)=toksW m d l:=by
 unfold sgs toksW;induction l with
 | nil =>
  show sayW m 256 0 0++[]=[]++codeW m 256;show(codeW m 256++[])++[]=_;simp
 | cons t l ih=>rw [List.flatMap_cons,List.flatMap_cons,List.append_assoc,sgsL_tok,ih,List.append_assoc]
theorem sgsW_toks (m d:List Nat) (l:List Tok):sgsW m d (sgs l) (sgs l).length=toksW m d l:=by
 rw [<- sgsL_toks,<- sgsW_L m d (sgs l) (sgs l).length (Nat.le_refl _),List.drop_length];show _=_++[];rw [List.append_nil]
/-! What is counted. -/
def symK (l:List Sg):Nat->List Nat
 | 0=>[]
 | k+1=>symK l k++if farAt l k then [] else [(l.getD k (0,0,0)).1]
def farK (l:List Sg):Nat->List Nat
 | 0=>[]
 | k+1=>farK l k++if farAt l k then [(l.getD k (0,0,0)).1] else []
def symL:Bool->List Sg->List Nat
 | _,[]=>[]
 | f,x::r=>(if f then [] else [x.1])++symL (farNx f x.1) r
def farL:Bool->List Sg->List Nat
 | _,[]=>[]
 | f,x::r=>(if f then [x.1] else [])++farL (farNx f x.1) r
theorem symK_L (l:List Sg):∀k,k<=l.length->symK l k++symL (farAt l k) (l.drop k)=symL false l/\farK l k++farL (farAt l k) (l.drop k)=farL false l:=by
 intro k;induction k with
 | zero=>intro _; exact⟨rfl,rfl⟩
 | succ k ih =>
  intro c;obtain⟨a,b⟩:=ih (by omega);rw [<- a,<- b,getD_cons_drop (0,0,0) (show k<l.length by omega)];refine⟨?_,?_⟩
  ·show(symK l k++_)++_=_++(_++_);rw [List.append_assoc]; rfl
  ·show(farK l k++_)++_=_++(_++_);rw [List.append_assoc]; rfl
theorem symL_tok {t:Tok} {r:List Sg} : symL false (sgsT t++r)=(match t with | .lit c=>[c.toNat] | .cpy n _=>[257+(longS n).1])++symL false r/\farL false (sgsT t++r)=(match t with | .lit c=>[] | .cpy _ b=>[(farS b).1])++farL false r:=by
 cases t with
 | lit c =>
  have d:=c.toNat_lt;have e:farNx false c.toNat=false:=by
   show(true && decide (256<c.toNat))=false;simp; omega
  refine⟨?_,?_⟩
  ·show [c.toNat]++symL (farNx false c.toNat) r=_;rw [e]
  ·show []++farL (farNx false c.toNat) r=_;rw [e]
 | cpy n b =>
  have e:farNx false (257+(longS n).1)=true:=by
   show(true && decide (256<257+(longS n).1))=true;simp; omega
  have a:farNx true (farS b).1=false:=rfl;refine⟨?_,?_⟩
  ·show [257+(longS n).1]++symL (farNx false (257+(longS n).1)) (_::r)=_;rw [e];show _++([]++symL (farNx true (farS b).1) r)=_;rw [a]; rfl
  ·show []++farL (farNx false (257+(longS n).1)) (_::r)=_;rw [e];show _++([(farS b).1]++farL (farNx true (farS b).1) r)=_;rw [a]; rfl
theorem symL_toks (l:List Tok):symL false (sgs l)=symsOf l/\farL false (sgs l)=farsOf l:=by
 unfold sgs;induction l with
 | nil=>exact⟨rfl,rfl⟩
 | cons t l ih =>
  rw [List.flatMap_cons,List.append_assoc,symL_tok.1,symL_tok.2,ih.1,ih.2];cases t <;> exact⟨rfl,rfl⟩
theorem symK_toks (l:List Tok):symK (sgs l) (sgs l).length=symsOf l/\farK (sgs l) (sgs l).length=farsOf l:=by
 obtain⟨a,b⟩:=symK_L (sgs l) (sgs l).length (Nat.le_refl _);rw [List.drop_length] at a b;obtain⟨c,d⟩:=symL_toks l;rw [<- c,<- d,<- a,<- b];exact⟨(List.append_nil _).symm,(List.append_nil _).symm⟩
theorem cnts_snoc (n s:Nat) (l:List Nat) (h:s<n):cnts n (l++[s])=(cnts n l).set s ((cnts n l).getD s 0+1):=by
 rw [cnts_get n s l h];refine List.ext_getElem (by simp [cnts]) fun i h1 h2=>?_;rw [List.getElem_set];simp only [cnts,List.getElem_map,List.getElem_range,List.count_append];by_cases e:s=i
 ·subst e;simp
 ·rw [if_neg e,List.count_singleton,beq_eq_false_iff_ne.2 e]; simp
def SgOk (l:List Sg):Prop:=∀k,k<l.length->((farAt l k=false->(l.getD k (0,0,0)).1<286)/\(farAt l k=true->(l.getD k (0,0,0)).1<30))/\(l.getD k (0,0,0)).2.2<=13/\(l.getD k (0,0,0)).2.1<32768
def sgOkL:Bool->List Sg->Prop
 | _,[]=>True
 | f,x::r=>(((f=false->x.1<286)/\(f=true->x.1<30))/\x.2.2<=13/\x.2.1<32768)/\sgOkL (farNx f x.1) r
theorem sgOk_drop {l:List Sg} : ∀k,k<=l.length->sgOkL false l->sgOkL (farAt l k) (l.drop k):=by
 intro k;induction k with
 | zero=>intro _ h; exact h
 | succ k ih =>
  intro a h;have:=ih (by omega) h;rw [getD_cons_drop (0,0,0) (show k<l.length by omega)] at this;exact this.2
theorem sgOk_of {l:List Sg} (h:sgOkL false l):SgOk l:=fun k hk=>by
 have:=sgOk_drop k (by omega) h;rw [getD_cons_drop (0,0,0) hk] at this;exact this.1
theorem sgOk_toks:∀(l:List Tok) (out:List UInt8),Good out l->SgOk (sgs l):=by
 intro l out h;refine sgOk_of ?_;unfold sgs;induction l generalizing out with
 | nil=>exact⟨⟨⟨fun _=>by show 256<286; decide,fun h=>by cases h⟩,by show 0<=13; decide,by show 0<32768; decide⟩,trivial⟩
 | cons t l ih =>
  rw [List.flatMap_cons,List.append_assoc];cases t with
  | lit c =>
   have o:=c.toNat_lt;have e:farNx false c.toNat=false:=by
    show(true && decide (256<c.toNat))=false;simp; omega
   refine⟨⟨⟨fun _=>by show c.toNat<286; omega,fun h=>by cases h⟩,by show 0<=13; decide,by show 0<32768; decide⟩,?_⟩;show sgOkL (farNx false c.toNat) _;rw [e];exact ih _ h
  | cpy n b =>
   obtain⟨⟨a,d,f,g,p⟩,i⟩:=h;have e:farNx false (257+(longS n).1)=true:=by
    show(true && decide (256<257+(longS n).1))=true;simp; omega
   obtain⟨q,r,j⟩:=longS_lt n a d;obtain⟨s,u,k⟩:=farS_lt b f g;have v:2 ^ (longS n).2.1<=2 ^ 5:=Nat.pow_le_pow_right (by decide) j;have w:2 ^ (farS b).2.1<=2 ^ 13:=Nat.pow_le_pow_right (by decide) k;refine⟨⟨⟨fun _=>by show 257+(longS n).1<286; omega,fun h=>by cases h⟩,by show(longS n).2.1<=13; omega,by show(longS n).2.2<32768; omega⟩,?_⟩;show sgOkL (farNx false (257+(longS n).1)) (((farS b).1,(farS b).2.2,(farS b).2.1)::_);rw [e];refine⟨⟨⟨fun h=>(by cases h),fun _=>by show(farS b).1<30; omega⟩,by show(farS b).2.1<=13; omega,by show(farS b).2.2<32768; omega⟩,?_⟩;have m:farNx true (farS b).1=false:=rfl;show sgOkL (farNx true (farS b).1) _;rw [m];exact ih _ i
theorem sgs_len (l:List Tok):(sgs l).length<=2 * l.length+1:=by
 unfold sgs;rw [List.length_append];induction l with
 | nil=>exact Nat.le_refl _
 | cons t l ih =>
  rw [List.flatMap_cons,List.length_append,List.length_cons];have:(sgsT t).length<=2:=by cases t <;> simp [sgsT]
  simp at ih ⊢;omega
end PI
namespace PI
theorem runL_eq (x:Nat):∀(l:List Nat) (m:Nat),m<=l.length->(∀j,j<m->l.getD j 0=x)->(m<l.length->l.getD m 0≠x)->runL x l=m:=by
 intro l;induction l with
 | nil=>intro m h _ _; simp at h; rw [h]; rfl
 | cons y l ih =>
  intro m c a b;cases m with
  | zero =>
   have:=b (by simp);unfold runL;rw [if_neg (by simpa using this)]
  | succ m =>
   have d:=a 0 (by omega);unfold runL;rw [if_pos (by simpa using d),ih m (by simpa using c) (fun j hj=>by simpa using a (j+1) (by omega)) (fun hj=>by simpa using b (by simpa using hj))]
theorem runL_at {l:List Nat} {i k:Nat} (hi:i<l.length) (hik:i<k) (hk:k<=l.length) (h:∀j,i<=j->j<k->l.getD j 0=l.getD i 0) (hs:k<l.length->l.getD k 0≠l.getD i 0):runL (l.getD i 0) (l.drop (i+1))+1=k - i:=by
 have e:runL (l.getD i 0) (l.drop i)=k - i:=by
  refine runL_eq _ _ _ (by rw [List.length_drop]; omega) (fun j hj=>?_) (fun hj=>?_)
  ·rw [List.getD_eq_getElem?_getD,List.getElem?_drop,<- List.getD_eq_getElem?_getD];exact h (i+j) (by omega) (by omega)
  ·rw [List.getD_eq_getElem?_getD,List.getElem?_drop,<- List.getD_eq_getElem?_getD,show i+(k - i)=k by omega];exact hs (by rw [List.length_drop] at hj; omega)
 rw [<- e,getD_cons_drop 0 hi,runL,if_pos rfl]
theorem rle_at {l:List Nat} {i f:Nat} (hi:i<l.length):rle (f+1) (l.drop i) =
  if l.getD i 0=0/\11<=runL (l.getD i 0) (l.drop (i+1))+1 then (18,min (runL (l.getD i 0) (l.drop (i+1))+1) 138 - 11)::rle f (l.drop (i+min (runL (l.getD i 0) (l.drop (i+1))+1) 138))
  else if l.getD i 0=0/\3<=runL (l.getD i 0) (l.drop (i+1))+1 then (17,runL (l.getD i 0) (l.drop (i+1))+1 - 3)::rle f (l.drop (i+(runL (l.getD i 0) (l.drop (i+1))+1)))
  else if 4<=runL (l.getD i 0) (l.drop (i+1))+1 then (l.getD i 0,0)::(16,min (runL (l.getD i 0) (l.drop (i+1))+1) 7 - 4)::rle f (l.drop (i+min (runL (l.getD i 0) (l.drop (i+1))+1) 7))
  else (l.getD i 0,0)::rle f (l.drop (i+1)):=by
 have e:=getD_cons_drop 0 hi;have a:∀m,l.drop (i+m)=(l.getD i 0::l.drop (i+1)).drop m:=fun m=>by rw [<- e,List.drop_drop]
 have b:∀m,(l.getD i 0::l.drop (i+1)).drop (m+1)=(l.drop (i+1)).drop m:=fun m=>rfl;rw [a (min _ 138),a (min _ 7),a (runL _ _+1)];rw [show rle (f+1) (l.drop i)=rle (f+1) (l.getD i 0::l.drop (i+1)) by rw [e]];rfl
def sgR (t:Nat × Nat):Sg:=(t.1,t.2,tellB t.1)
theorem tellB_le (s:Nat):tellB s<=7:=by unfold tellB; split <;> (try split) <;> (try split) <;> omega
theorem rle_val:∀(f:Nat) (l:List Nat),∀t ∈ rle f l,t.2<128:=by
 intro f;induction f with
 | zero=>intro l t a; cases a
 | succ f ih =>
  intro l t a;cases l with
  | nil=>cases a
  | cons x r =>
   rw [rle] at a;split at a
   ·rcases List.mem_cons.1 a with rfl | a
    ·show min (runL x r+1) 138 - 11<128; omega
    ·exact ih _ t a
   split at a
   ·rename_i hc1 hc
    rcases List.mem_cons.1 a with rfl | a
    ·show runL x r+1 - 3<128;have:¬ (11<=runL x r+1):=fun h=>hc1 ⟨hc.1,h⟩;omega
    ·exact ih _ t a
   split at a
   ·rcases List.mem_cons.1 a with rfl | a
    ·show 0<128; omega
    ·rcases List.mem_cons.1 a with rfl | a
     ·show min (runL x r+1) 7 - 4<128; omega
     ·exact ih _ t a
   ·rcases List.mem_cons.1 a with rfl | a
    ·show 0<128; omega
    ·exact ih _ t a
end PI
open Go.RowKit
theorem rowRd {M:List Pr} {A:Option Addr} {n c z:Nat} {e:TypeId} {xs:List Value} (H:Sp w0 M w) (k:Nat) (hk:M[k]?=some (Row e z (.slice A n c) n xs)):Rd w A xs:=by
 obtain⟨b,d,a,h,_⟩:=H.row_rd k hk;injection a with a _ _
 subst a;exact h
theorem Yk (m:List Nat):cells64 (castI m)=cellsN m:=by
 unfold cells64 castI cellsN;rw [List.map_map];rfl
theorem Wg:PI.book PI.fixedL=true:=by decide +kernel
theorem XL:PI.book PI.fixedD=true:=by decide +kernel
theorem WM:PI.fixedD.length=32:=by decide +kernel
theorem Wh (g:Nat) (V:Value) (at_:Nat) (O:Value) (most:Nat) (bl:Value) (H:Sp w0 (SmB g V at_ O most bl 0::L) w) :
  Calls Tryd.prog 41 #[.pointer (some ⟨g,0,none⟩)] w fun e w'=>∃A ca C k D cd E kd,e=.returned (.tuple #[.agg #[.slice A 288 ca,.slice C 288 k,.int .i64 (PI.mostN PI.fixedL:Int)],.agg #[.slice D 32 cd,.slice E 32 kd,.int .i64 (PI.mostN PI.fixedD:Int)]]) /\
   Sp w0 (SmB g V at_ O most bl 0::Row 47 1 (.slice C 288 k) 288 (rowU (PH.codeAt PI.fixedL) 288)::Row 47 1 (.slice E 32 kd) 32 (rowU (PH.codeAt PI.fixedD) 32)::Row 3 1 (.slice A 288 ca) 288 (cellsN PI.fixedL)::Row 3 1 (.slice D 32 cd) 32 (cellsN PI.fixedD)::L) w':=by
 obtain⟨i0,hi,G,I,J⟩:=info_parts infoInt;obtain⟨F,T⟩:=exq (PI.mostN PI.fixedL);obtain⟨M,U⟩:=exq (PI.mostN PI.fixedD);rw [T,U];have a2:=hid T;have a3:=hid U;have d:=hid ((((H.newBk [.slice none 0 0,.slice none 0 0,.int .i64 0] 101).newBk [.slice none 0 0,.slice none 0 0,.int .i64 0] 101).rowNil 3 1).rowNil 3 1);clear H T U;go_enter Tryd.func41,Tryd.ntmps41
 go_wp2_with fail
 replace d:=d.out;have es:(World.alloc w (.cells #[.slice none 0 0,.slice none 0 0,.int .i64 0] 101)).heap.size=w.heap.size+1:=Array.size_push _;rw [es] at d;clear es;generalize w.heap.size+1=g3 at d ⊢;generalize w.heap.size=g2 at d ⊢;generalize World.alloc (World.alloc w _) _=w1 at d ⊢;replace d:=hid (d.pick 5 [0,1,4,3,2]);go_loopw [4,6] (fun sv kv wr=>∃k:Nat,kv=.int .i64 k/\k<=288/\Sp w0 (Row 3 1 sv k (cellsN (PI.fixedL.take k))::Row 3 1 (.slice none 0 0) 0 []::SmB g V at_ O most bl 0::Bk g2 101 [.slice none 0 0,.slice none 0 0,.int .i64 0]::Bk g3 101 [.slice none 0 0,.slice none 0 0,.int .i64 0]::L) wr) (fun _ kv _=>288 - (intOf kv).toNat)
 case atStart=>exact⟨0,rfl,Nat.zero_le _,d.out⟩
 case round =>
  obtain⟨k,rfl,a8,y⟩:=hrel;clear d;obtain⟨n,o,rfl,_,_⟩:=Row.form y 0 rfl;by_cases R:k<288
  ·have k1:(k:Int)<288:=by omega
   by_cases S:144<=k
   ·by_cases B:256<=k
    ·by_cases p:280<=k
     ·have k2:(k:Int)≥144:=by omega
      have k3:¬ (k:Int)<256:=by omega
      have k4:(k:Int)≥256:=by omega
      have k5:¬ (k:Int)<280:=by omega
      have W:Hid (PI.fixedL.take (k+1)=PI.fixedL.take k++[8]):=hid (Zv R (by rw [ZM R]; simp only [if_pos p]));have c:=y.newBk [.int .i64 8] 3;have a:=hid (Rd.of_blk (c.blk 0 rfl));have b:=hid (c.pick 3 [1,2]);clear y c;go_wp2_with (at_builtin; refine wpList_append_sp rfl _ _ 51 rfl 3 i0 (.int .i64 0) 1 8 Tryd.underlying51 hi G I J rfl (by decide) _ k (cellsN (PI.fixedL.take k)) rfl b.out (some ⟨_,0,none⟩) 1 1 [.int .i64 8] rfl rfl a.out (by intro u r; simp only [List.mem_singleton] at r; subst r; rfl) (by unfold maxLen; omega) (by omega) ?_)
      intro v4 X f _;have d:=hid f;clear b a f;go_wp2_with fail
      go_roundw
      case rel =>
       refine⟨k+1,by go_num,by omega,?_⟩;rw [W.out,Zy];exact d.out
      case measure=>first | (simp [intOf]; omega) | simp [intOf]
     ·have k2:(k:Int)≥144:=by omega
      have k3:¬ (k:Int)<256:=by omega
      have k4:(k:Int)≥256:=by omega
      have k5:(k:Int)<280:=by omega
      have W:Hid (PI.fixedL.take (k+1)=PI.fixedL.take k++[7]):=hid (Zv R (by rw [ZM R]; simp only [if_neg p,if_pos B]));have c:=y.newBk [.int .i64 7] 3;have a:=hid (Rd.of_blk (c.blk 0 rfl));have b:=hid (c.pick 3 [1,2]);clear y c;go_wp2_with (at_builtin; refine wpList_append_sp rfl _ _ 51 rfl 3 i0 (.int .i64 0) 1 8 Tryd.underlying51 hi G I J rfl (by decide) _ k (cellsN (PI.fixedL.take k)) rfl b.out (some ⟨_,0,none⟩) 1 1 [.int .i64 7] rfl rfl a.out (by intro u r; simp only [List.mem_singleton] at r; subst r; rfl) (by unfold maxLen; omega) (by omega) ?_)
      intro v4 X f _;have d:=hid f;clear b a f;go_wp2_with fail
      go_roundw
      case rel =>
       refine⟨k+1,by go_num,by omega,?_⟩;rw [W.out,Zy];exact d.out
      case measure=>first | (simp [intOf]; omega) | simp [intOf]
    ·have k2:(k:Int)≥144:=by omega
     have k3:(k:Int)<256:=by omega
     have k4:¬ (k:Int)≥256:=by omega
     have p:¬ 280<=k:=by omega
     have W:Hid (PI.fixedL.take (k+1)=PI.fixedL.take k++[9]):=hid (Zv R (by rw [ZM R]; simp only [if_neg p,if_neg B,if_pos S]));have c:=y.newBk [.int .i64 9] 3;have a:=hid (Rd.of_blk (c.blk 0 rfl));have b:=hid (c.pick 3 [1,2]);clear y c;go_wp2_with (at_builtin; refine wpList_append_sp rfl _ _ 51 rfl 3 i0 (.int .i64 0) 1 8 Tryd.underlying51 hi G I J rfl (by decide) _ k (cellsN (PI.fixedL.take k)) rfl b.out (some ⟨_,0,none⟩) 1 1 [.int .i64 9] rfl rfl a.out (by intro u r; simp only [List.mem_singleton] at r; subst r; rfl) (by unfold maxLen; omega) (by omega) ?_)
     intro v4 X f _;have d:=hid f;clear b a f;go_wp2_with fail
     go_roundw
     case rel =>
      refine⟨k+1,by go_num,by omega,?_⟩;rw [W.out,Zy];exact d.out
     case measure=>first | (simp [intOf]; omega) | simp [intOf]
   ·have k2:¬ (k:Int)≥144:=by omega
    have k4:¬ (k:Int)≥256:=by omega
    have p:¬ 280<=k:=by omega
    have B:¬ 256<=k:=by omega
    have W:Hid (PI.fixedL.take (k+1)=PI.fixedL.take k++[8]):=hid (Zv R (by rw [ZM R]; simp only [if_neg p,if_neg B,if_neg S]));have c:=y.newBk [.int .i64 8] 3;have a:=hid (Rd.of_blk (c.blk 0 rfl));have b:=hid (c.pick 3 [1,2]);clear y c;go_wp2_with (at_builtin; refine wpList_append_sp rfl _ _ 51 rfl 3 i0 (.int .i64 0) 1 8 Tryd.underlying51 hi G I J rfl (by decide) _ k (cellsN (PI.fixedL.take k)) rfl b.out (some ⟨_,0,none⟩) 1 1 [.int .i64 8] rfl rfl a.out (by intro u r; simp only [List.mem_singleton] at r; subst r; rfl) (by unfold maxLen; omega) (by omega) ?_)
    intro v4 X f _;have d:=hid f;clear b a f;go_wp2_with fail
    go_roundw
    case rel =>
     refine⟨k+1,by go_num,by omega,?_⟩;rw [W.out,Zy];exact d.out
    case measure=>first | (simp [intOf]; omega) | simp [intOf]
  ·obtain rfl:k=288:=by omega
   rw [List.take_of_length_le (by rw [ZV]; exact Nat.le_refl _)] at y;have k1:¬ ((288:Nat):Int)<288:=by omega
   have d:=hid y.swap;clear y;go_wp2_with fail
   clear k1;go_loopw [5,8] (fun uv jv wr=>∃j:Nat,jv=.int .i64 j/\j<=32/\Sp w0 (Row 3 1 uv j (cellsN (List.replicate j 5))::Row 3 1 (.slice n 288 o) 288 (cellsN PI.fixedL)::SmB g V at_ O most bl 0::Bk g2 101 [.slice none 0 0,.slice none 0 0,.int .i64 0]::Bk g3 101 [.slice none 0 0,.slice none 0 0,.int .i64 0]::L) wr) (fun _ jv _=>32 - (intOf jv).toNat)
   case atStart=>exact⟨0,rfl,Nat.zero_le _,d.out⟩
   case round =>
    obtain⟨j,rfl,a9,y⟩:=hrel;clear d;obtain⟨s,t,rfl,_,_⟩:=Row.form y 0 rfl;by_cases hj:j<32
    ·have k1:(j:Int)<32:=by omega
     have c:=y.newBk [.int .i64 5] 3;have a:=hid (Rd.of_blk (c.blk 0 rfl));have b:=hid (c.pick 4 [1,2,3]);clear y c;go_wp2_with (at_builtin; refine wpList_append_sp rfl _ _ 51 rfl 3 i0 (.int .i64 0) 1 8 Tryd.underlying51 hi G I J rfl (by decide) _ j (cellsN (List.replicate j 5)) rfl b.out (some ⟨_,0,none⟩) 1 1 [.int .i64 5] rfl rfl a.out (by intro u r; simp only [List.mem_singleton] at r; subst r; rfl) (by unfold maxLen; omega) (by omega) ?_)
     intro v4 X f _;have d:=hid f;clear b a f;go_wp2_with fail
     go_roundw
     case rel =>
      refine⟨j+1,by go_num,by omega,?_⟩;rw [List.replicate_succ',Zy];exact d.out
     case measure=>first | (simp [intOf]; omega) | simp [intOf]
    ·obtain rfl:j=32:=by omega
     have k1:¬ ((32:Nat):Int)<32:=by omega
     have c:Sp w0 (SmB g V at_ O most bl 0::Row 3 1 (.slice s 32 t) 32 (cellsN PI.fixedD)::Row 3 1 (.slice n 288 o) 288 (cellsN PI.fixedL)::Bk g2 101 [.slice none 0 0,.slice none 0 0,.int .i64 0]::Bk g3 101 [.slice none 0 0,.slice none 0 0,.int .i64 0]::L) wr:=y.pick 5 [2,0,1,3,4];have i:=Z4 g V at_ O most bl n 288 o 0 PI.fixedL c ZV.symm (by decide) (fun w0 w h=>by rw [Yk]; exact rowRd h 1 rfl) Wg;rw [a2.out] at i;replace i:=hid i;clear y c;go_wp2_with fail
     refine i.out.mono ?_;rintro _ w2 ⟨C,k,rfl,c⟩;clear i;have f:=c.newBk [.slice n 288 o,.slice C 288 k,.int .i64 F] 101;replace f:=hid f;clear c;go_wp2_with fail
     replace f:=f.out;generalize w2.heap.size=g9 at f ⊢;generalize World.alloc w2 _=w3 at f ⊢;have H5:Sp w0 (SmB g V at_ O most bl 0::Row 3 1 (.slice s 32 t) 32 (cellsN PI.fixedD)::Row 3 1 (.slice n 288 o) 288 (cellsN PI.fixedL)::Row 47 1 (.slice C 288 k) 288 (rowU (PH.codeAt PI.fixedL) 288)::Bk g9 101 [.slice n 288 o,.slice C 288 k,.int .i64 F]::Bk g2 101 [.slice none 0 0,.slice none 0 0,.int .i64 0]::Bk g3 101 [.slice none 0 0,.slice none 0 0,.int .i64 0]::L) w3:=f.pick 7 [1,3,4,2,0,5,6];have i:=Z4 g V at_ O most bl s 32 t 0 PI.fixedD H5 WM.symm (by decide) (fun w0 w h=>by rw [Yk]; exact rowRd h 0 rfl) XL;rw [a3.out] at i;replace i:=hid i;clear f H5;go_wp2_with fail
     refine i.out.mono ?_;rintro _ X ⟨E,kd,rfl,H6⟩;clear i;have H7:=hid (H6.newBk [.slice s 32 t,.slice E 32 kd,.int .i64 M] 101);clear H6;go_wp2_with fail
     replace H7:=H7.out;generalize X.heap.size=g10 at H7 ⊢;generalize World.alloc X _=w5 at H7 ⊢;have a1:Hid (Sp w0 (Bk g2 101 [.slice none 0 0,.slice none 0 0,.int .i64 0]::Bk g3 101 [.slice none 0 0,.slice none 0 0,.int .i64 0]::SmB g V at_ O most bl 0::Bk g9 101 [.slice n 288 o,.slice C 288 k,.int .i64 F]::Bk g10 101 [.slice s 32 t,.slice E 32 kd,.int .i64 M]::Row 47 1 (.slice C 288 k) 288 (rowU (PH.codeAt PI.fixedL) 288)::Row 47 1 (.slice E 32 kd) 32 (rowU (PH.codeAt PI.fixedD) 32)::Row 3 1 (.slice n 288 o) 288 (cellsN PI.fixedL)::Row 3 1 (.slice s 32 t) 32 (cellsN PI.fixedD)::L) w5):=hid (H7.pick 9 [7,8,1,6,0,5,2,4,3]);have a4:Hid (Ent (SmB g V at_ O most bl 0::Bk g9 101 [.slice n 288 o,.slice C 288 k,.int .i64 F]::Bk g10 101 [.slice s 32 t,.slice E 32 kd,.int .i64 M]::Row 47 1 (.slice C 288 k) 288 (rowU (PH.codeAt PI.fixedL) 288)::Row 47 1 (.slice E 32 kd) 32 (rowU (PH.codeAt PI.fixedD) 32)::Row 3 1 (.slice n 288 o) 288 (cellsN PI.fixedL)::Row 3 1 (.slice s 32 t) 32 (cellsN PI.fixedD)::L) fun w=>w.cell? ⟨g9,0,none⟩=some (.slice n 288 o)/\w.cell? ⟨g9,1,none⟩=some (.slice C 288 k)/\w.cell? ⟨g9,2,none⟩=some (.int .i64 F)):=hid fun _ _ q=>⟨q.cell 1 rfl 0,q.cell 1 rfl 1,q.cell 1 rfl 2⟩;have a5:Hid (Ent (SmB g V at_ O most bl 0::Bk g9 101 [.slice n 288 o,.slice C 288 k,.int .i64 F]::Bk g10 101 [.slice s 32 t,.slice E 32 kd,.int .i64 M]::Row 47 1 (.slice C 288 k) 288 (rowU (PH.codeAt PI.fixedL) 288)::Row 47 1 (.slice E 32 kd) 32 (rowU (PH.codeAt PI.fixedD) 32)::Row 3 1 (.slice n 288 o) 288 (cellsN PI.fixedL)::Row 3 1 (.slice s 32 t) 32 (cellsN PI.fixedD)::L) fun w=>w.cell? ⟨g10,0,none⟩=some (.slice s 32 t)/\w.cell? ⟨g10,1,none⟩=some (.slice E 32 kd)/\w.cell? ⟨g10,2,none⟩=some (.int .i64 M)):=hid fun _ _ q=>⟨q.cell 2 rfl 0,q.cell 2 rfl 1,q.cell 2 rfl 2⟩;clear H7;refine wp_region_sc (L:=SmB g V at_ O most bl 0::Bk g9 101 [.slice n 288 o,.slice C 288 k,.int .i64 F]::Bk g10 101 [.slice s 32 t,.slice E 32 kd,.int .i64 M]::Row 47 1 (.slice C 288 k) 288 (rowU (PH.codeAt PI.fixedL) 288)::Row 47 1 (.slice E 32 kd) 32 (rowU (PH.codeAt PI.fixedD) 32)::Row 3 1 (.slice n 288 o) 288 (cellsN PI.fixedL)::Row 3 1 (.slice s 32 t) 32 (cellsN PI.fixedD)::L) [some (.agg #[.slice n 288 o,.slice C 288 k,.int .i64 F]),some (.agg #[.slice s 32 t,.slice E 32 kd,.int .i64 M]),some (undef),some (undef)] (fun _ _=>True) (fun ix vx=>match ix with | 2=>(fun _=>[Bk g2 101 [.slice n 288 o,.slice C 288 k,.int .i64 F]]) vx | 3=>(fun _=>[Bk g3 101 [.slice s 32 t,.slice E 32 kd,.int .i64 M]]) vx | _=>[]) (fun ix=>match ix with | 2=>[Bk g2 101 [.slice none 0 0,.slice none 0 0,.int .i64 0]] | 3=>[Bk g3 101 [.slice none 0 0,.slice none 0 0,.int .i64 0]] | _=>[]) 4 46
      [some 44,some 45,none,none]
      [[],[],[0,0],[1,2,0,1,2]]
      [[],[],[0],[0,1,2]]
      [[],[],[],[]] [[],[],[],[]] [(2,.pointer (some ⟨g2,0,none⟩)),(3,.pointer (some ⟨g3,0,none⟩)),(9,.pointer (some ⟨g9,0,none⟩)),(10,.pointer (some ⟨g10,0,none⟩))]
      (by kernel_rfl) rfl (by decide) (by rfl) (by decide +kernel) rfl rfl (by simp) (a1.out) ?hstep ?hend
     case hstep =>
      refine⟨?p0,⟨?p1,⟨?p2,⟨?p3,trivial⟩⟩⟩⟩
      case p0 =>
       intro x wx A l z N Q Y H K m;have e9:A.tmps[9]?.getD undef=.pointer (some ⟨g9,0,none⟩):=factsE_get N (9,_) (by simp) (by rfl);have Z:=hid m;clear m N Q z;obtain⟨d0,d1,d2⟩:=Y _ a4.out _ _ H;refine so ?_;go_step;exact Z.out _ _ rfl H
      case p1 =>
       intro x wx A l z N Q Y H K m;have b0:A.tmps[10]?.getD undef=.pointer (some ⟨g10,0,none⟩):=factsE_get N (10,_) (by simp) (by rfl);have Z:=hid m;clear m N Q z;obtain⟨d0,d1,d2⟩:=Y _ a5.out _ _ H;refine so ?_;go_step;exact Z.out _ _ rfl H
      case p2 =>
       intro x wx A l z N Q Y H K m;have e2:A.tmps[2]?.getD undef=.pointer (some ⟨g2,0,none⟩):=factsE_get N (2,_) (by simp) (by rfl);have a6:=tq Q 0;replace H:Sp w0 (_::l) wx:=H;have Z:Hid (∀(v:Value) (w' : World),(v=undef)->Sp w0 ((Bk g2 101 [.slice n 288 o,.slice C 288 k,.int .i64 F])::l) w'->K (A.put none v) w'):=hid m;clear m N Q Y z;obtain⟨w9,a0,H9⟩:=bk_store (P:=Tryd.prog) [.slice n 288 o,.slice C 288 k,.int .i64 F] 0 _ wx H (by show 0+3<=3; omega) (by intro u r; simp only [List.mem_cons,List.not_mem_nil,or_false] at r; rcases r with rfl | rfl | rfl <;> rfl)
       refine so ?_;exact wp_store_agg 101 _ _ rfl _ [.slice n 288 o,.slice C 288 k,.int .i64 F] (ev e2) (ev a6) a0 Tryd.sizeOf101 (Z.out undef _ rfl H9)
      case p3 =>
       intro x wx A l z N Q Y H K m;have e3:A.tmps[3]?.getD undef=.pointer (some ⟨g3,0,none⟩):=factsE_get N (3,_) (by simp) (by rfl);have a7:=tq Q 1;replace H:Sp w0 (_::l) wx:=H;have Z:Hid (∀(v:Value) (w' : World),(v=undef)->Sp w0 ((Bk g3 101 [.slice s 32 t,.slice E 32 kd,.int .i64 M])::l) w'->K (A.put none v) w'):=hid m;clear m N Q Y z;obtain⟨w9,a0,H9⟩:=bk_store (P:=Tryd.prog) [.slice s 32 t,.slice E 32 kd,.int .i64 M] 0 _ wx H (by show 0+3<=3; omega) (by intro u r; simp only [List.mem_cons,List.not_mem_nil,or_false] at r; rcases r with rfl | rfl | rfl <;> rfl)
       refine so ?_;exact wp_store_agg 101 _ _ rfl _ [.slice s 32 t,.slice E 32 kd,.int .i64 M] (ev e3) (ev a7) a0 Tryd.sizeOf101 (Z.out undef _ rfl H9)
     case hend =>
      intro x wx A hA Q H;replace H:Sp w0 (_::_::_::_::_::_::_::_::_::L) wx:=H;clear Q;simp only [putAll,Act.put,List.setIfInBounds_toArray,List.set_cons_succ,List.set_cons_zero,Nat.reduceAdd] at hA;subst hA;have HY:=hid H;clear H a1;go_wp2_with fail
      refine bodyPost_ret (vres_c2 rfl _ rfl rfl (bk_cells HY.out 0 rfl) (bk_cells HY.out 1 rfl) Tryd.isAgg101 Tryd.sizeOf101 rfl) rfl ?_;exact⟨n,o,C,k,s,t,E,kd,rfl,HY.out.pick 9 [2,5,6,7,8]⟩
end Go.Proofs.YteajimobgkempaaDoor

