/- A pack. -/
import Derived.Test.YteajimobgkempaaGreatDoorPk05
set_option linter.all false
set_option maxRecDepth 100000
set_option maxHeartbeats 8000000
namespace Go.Proofs.YteajimobgkempaaGreatDoor
variable {w0 w:World} {L:List Pr}
open Go.RowKit
def cellsP (t:List (Nat × Nat)):List Value:=t.flatMap fun p=>[.int .i64 p.1,.int .i64 p.2]
theorem Xa (t:List (Nat × Nat)):(cellsP t).length=t.length * 2:=by
 induction t with
 | nil=>rfl
 | cons p t ih=>show([_,_]++cellsP t).length=_; simp [ih]; omega
theorem Yt:∀(t:List (Nat × Nat)) (i:Nat),i<t.length->(cellsP t)[i * 2]?=some (.int .i64 ((t.getD i (0,0)).1:Int))/\(cellsP t)[i * 2+1]?=some (.int .i64 ((t.getD i (0,0)).2:Int))
 | [],i,h=>by simp at h
 | p::t,0,_=>⟨rfl,rfl⟩
 | p::t,i+1,h=>by
  have:=Yt t i (by simpa using h);have e:cellsP (p::t)=[.int .i64 p.1,.int .i64 p.2]++cellsP t:=rfl;rw [e,List.getElem?_append_right (by simp; omega),List.getElem?_append_right (by simp; omega)];simp only [List.length_cons,List.length_nil];rw [show(i+1) * 2 - (0+1+1)=i * 2 by omega,show(i+1) * 2+1 - (0+1+1)=i * 2+1 by omega];exact this
theorem rdP {w:World} {A:Option Addr} {t:List (Nat × Nat)} (h:Rd w A (cellsP t)) {i:Nat} (hi:i<t.length):∃ad,A=some ad/\w.cell? (ad.add (i * 2))=some (.int .i64 ((t.getD i (0,0)).1:Int))/\w.cell? ⟨(ad.add (i * 2)).block,(ad.add (i * 2)).off+1,none⟩=some (.int .i64 ((t.getD i (0,0)).2:Int)):=by
 obtain⟨ad,e,a⟩:=h (by intro e; have:=Xa t; rw [e] at this; simp at this; omega);have b:=Yt t i hi;refine⟨ad,e,a _ _ b.1,?_⟩;rw [Zv ad (i * 2) 1 (by omega)];exact a _ _ b.2
namespace PH
def bad (n:Int):Bool:=decide (n<0∨15<n)
def may (l:List Int):Bool:=decide (l.length<=1024) && !l.any bad
def tal (l:List Nat) (n:Nat):Nat:=if n=0 then 0 else l.count n
theorem tal_le (l:List Nat) (n:Nat):tal l n<=l.length:=by
 unfold tal;split
 ·exact Nat.zero_le _
 ·exact List.count_le_length
def share (l:List Nat):Nat->Nat
 | 0=>0
 | n+1=>share l n+tal l n * 2 ^ (15 - n)
theorem share_le (l:List Nat) (n:Nat):share l n<=n * (l.length * 32768):=by
 induction n with
 | zero=>exact Nat.zero_le _
 | succ n ih =>
  unfold share;have a:=tal_le l n;have b:2 ^ (15 - n)<=32768:=by
   have:(2:Nat) ^ (15 - n)<=2 ^ 15:=Nat.pow_le_pow_right (by omega) (by omega);exact this
  have c:tal l n * 2 ^ (15 - n)<=l.length * 32768:=Nat.mul_le_mul a b;rw [Nat.succ_mul];omega
def sum (l:List Nat):Nat:=share l 16
def state (l:List Nat):Int:=if sum l<32768 then -1 else if 32768<sum l then 1 else 0
def fst (l:List Nat):Nat->Nat
 | 0=>0
 | 1=>0
 | n+2=>(fst l (n+1)+tal l (n+1)) * 2
theorem fst_share (l:List Nat) (n:Nat) (h1:1<=n) (h:n<=16):fst l n * 2 ^ (16 - n)=2 * share l n:=by
 induction n with
 | zero=>omega
 | succ n ih =>
  cases n with
  | zero =>
   show 0 * _=2 * (share l 0+tal l 0 * 2 ^ 15);simp [share,tal]
  | succ n =>
   have:=ih (by omega) (by omega);rw [show fst l (n+1+1)=(fst l (n+1)+tal l (n+1)) * 2 from rfl,show share l (n+1+1)=share l (n+1)+tal l (n+1) * 2 ^ (15 - (n+1)) from rfl];have d:16 - (n+1)=(16 - (n+1+1))+1:=by omega
   have e:15 - (n+1)=16 - (n+1+1):=by omega
   rw [d,Nat.pow_succ] at this;rw [e];generalize 2 ^ (16 - (n+1+1))=p at this ⊢;generalize fst l (n+1)=a at this ⊢;generalize tal l (n+1)=b;generalize share l (n+1)=c at this ⊢;have f:(a+b) * 2 * p=a * (p * 2)+2 * (b * p):=by
    rw [Nat.add_mul,Nat.add_mul,Nat.mul_assoc,Nat.mul_assoc b 2 p,Nat.mul_comm 2 p,<- Nat.mul_assoc b p 2,Nat.mul_comm (b * p) 2]
   rw [f,this,Nat.mul_add]
theorem share_mono (l:List Nat) (n k:Nat) (h:n<=k):share l n<=share l k:=by
 obtain⟨d,rfl⟩:∃d,k=n+d:=⟨k - n,by omega⟩;clear h;induction d with
 | zero=>exact Nat.le_refl _
 | succ d ih=>rw [<- Nat.add_assoc,share]; omega
theorem fst_le (l:List Nat) (n:Nat) (h:n<=16) (hs:sum l<=32768):fst l n<=65536:=by
 rcases Nat.eq_zero_or_pos n with h0 | h0
 ·subst h0; exact Nat.zero_le _
 ·have b:=fst_share l n h0 h;have c:=share_mono l n 16 h;have a:1<=2 ^ (16 - n):=Nat.one_le_two_pow;have d:fst l n * 1<=fst l n * 2 ^ (16 - n):=Nat.mul_le_mul_left _ a;unfold sum at hs;omega
def codeAt (l:List Nat) (k:Nat):Nat:=if l.getD k 0=0 then 0 else fst l (l.getD k 0)+(l.take k).count (l.getD k 0)
def codes (l:List Nat):List Nat:=(List.range l.length).map (codeAt l)
def idx (l:List Nat) (n k:Nat):List Nat:=(List.range k).filter fun i=>l.getD i 0 == n
theorem idx_succ (l:List Nat) (n k:Nat):idx l n (k+1)=if l.getD k 0=n then idx l n k++[k] else idx l n k:=by
 unfold idx;rw [List.range_succ,List.filter_append];have e:List.filter (fun i=>l.getD i 0 == n) [k]=if l.getD k 0=n then [k] else []:=by
  rw [List.filter_cons];by_cases h:l.getD k 0=n
  ·rw [if_pos h,if_pos (by rw [h]; exact beq_self_eq_true n)]; rfl
  ·rw [if_neg h,if_neg (by rw [beq_iff_eq]; exact h)]; rfl
 rw [e];split
 ·rfl
 ·rw [List.append_nil]
def rowsB (l:List Nat):Nat->List Nat
 | 0=>[]
 | n+1=>rowsB l n++idx l (n+1) l.length
def rows (l:List Nat):List Nat:=rowsB l 15
end PH
theorem Rd.at64 {w:World} {A:Option Addr} {l:List Int} (h:Rd w A (cells64 l)) {k:Nat} (hk:k<l.length) :
  ∃ad,A=some ad/\w.cell? (ad.add k)=some (.int .i64 l[k]):=by
 obtain⟨ad,e,a⟩:=h.at_ (k:=k) (by simpa [cells64] using hk);exact⟨ad,e,by simpa [cells64] using a⟩
theorem TO (n:Int) (w:World):Calls Tryz.prog 181 #[.int .i64 n] w fun e w'=>e=.returned (.bool (PH.bad n))/\w=w':=by
 obtain⟨r,a⟩:=exq (PH.bad n);have b:=hid a;rw [a];clear a;go_enter Tryz.func181,Tryz.ntmps181
 go_wp2
 all_goals (
  go_ret;refine⟨Xe ?_,rfl⟩;rw [<- b.out];unfold PH.bad
  first
   | exact(decide_eq_true (by omega)).symm
   | exact(decide_eq_false (by omega)).symm
   | (rw [Bool.eq_iff_iff]; simp only [Bool.or_eq_true,decide_eq_true_eq]; done)
   | (rw [Bool.eq_iff_iff]; simp only [Bool.or_eq_true,decide_eq_true_eq]; omega))
theorem Ui (A:Option Addr) (n c:Nat) (l:List Int) (H:Sp w0 L w) (hn:n=l.length) (hb:Ent L fun w=>Rd w A (cells64 l)) (hl:n<=1000000000) :
  Calls Tryz.prog 186 #[.slice A n c,.func (.func 181) #[] #[]] w fun e w'=>∃r:Int,e=.returned (.int .i64 r)/\(0<=r↔l.any PH.bad=true)/\Sp w0 L w':=by
 have s:=hid hn;have v:=hid hb;clear hn hb;obtain⟨z,o⟩:=exq (l.any PH.bad);rw [o];have t:=hid o;clear o;go_enter Tryz.func186,Tryz.ntmps186
 go_wp2_with fail
 go_loopw [8] (fun iv wr=>∃i:Nat,iv=.int .i64 i/\i<=n/\(l.take i).any PH.bad=false/\Sp w0 L wr) (fun iv _=>n - (intOf iv).toNat)
 case atStart=>exact⟨0,rfl,Nat.zero_le _,rfl,H⟩
 case round =>
  obtain⟨i,rfl,C,d,H⟩:=hrel;have f:=hid d;clear d;by_cases p:i<n
  ·have y:(i:Int)<(n:Int):=by omega
   have b:i<l.length:=by rw [<- s.out]; exact p
   obtain⟨D,rfl,B⟩:=(v.out _ _ H).at64 b;obtain⟨x,m⟩:=exq (l[i]);rw [m] at B;have g:(l.take (i+1)).any PH.bad=PH.bad x:=by
    rw [List.take_succ_eq_append_getElem b,List.any_append,f.out,m];simp
   have j:=hid g;have a:x ∈ l:=by rw [<- m]; exact List.getElem_mem b
   have k:=hid a;clear g m a;go_wp2_with fail
   refine(TO x _).mono ?_;rintro _ _ ⟨rfl,rfl⟩;cases hbx:PH.bad x
   ·rw [hbx] at j;go_wp2_with fail
    go_roundw
    case rel=>exact⟨i+1,by go_num,by omega,j.out,H⟩
    case measure=>first | (simp [intOf]; omega) | simp [intOf]
   ·have q:=hid hbx;clear hbx;go_wp2_with fail
    go_ret;exact⟨_,rfl,⟨fun _=>by rw [<- t.out]; exact List.any_eq_true.2 ⟨x,k.out,q.out⟩,fun _=>by omega⟩,H⟩
  ·have y:¬ (i:Int)<(n:Int):=by omega
   go_wp2_with fail
   go_ret;have u:=f.out;rw [List.take_of_length_le (by rw [<- s.out]; omega),t.out] at u;refine⟨_,rfl,?_,H⟩;rw [u];exact⟨fun h=>absurd h (by omega),fun h=>by cases h⟩
theorem XS (A:Option Addr) (n c:Nat) (l:List Int) (H:Sp w0 L w) (hn:n=l.length) (hb:Ent L fun w=>Rd w A (cells64 l)) (hl:n<=1000000000) :
  Calls Tryz.prog 180 #[.slice A n c,.func (.func 181) #[] #[]] w fun e w'=>e=.returned (.bool (l.any PH.bad))/\Sp w0 L w':=by
 have a:=Ui A n c l H hn hb hl;obtain⟨z,h⟩:=exq (l.any PH.bad);rw [h] at a ⊢;have b:=hid a;clear a h hb hn;go_enter Tryz.func180,Tryz.ntmps180
 go_wp2_with fail
 refine b.out.mono ?_;rintro _ j ⟨r,rfl,d,i⟩;clear b;by_cases f:0<=r
 ·have g:=d.1 f;subst g;clear d;go_wp2;go_ret;exact⟨rfl,i⟩
 ·have g:z=false:=by
   cases z
   ·rfl
   ·exact absurd (d.2 rfl) f
  subst g;have k:decide (0<=r)=false:=decide_eq_false f;clear d f;go_wp2;go_ret;exact⟨rfl,i⟩
theorem Tc (A:Option Addr) (n c:Nat) (l:List Int) (H:Sp w0 L w) (hn:n=l.length) (hb:Ent L fun w=>Rd w A (cells64 l)) (hl:n<=1000000000) :
  Calls Tryz.prog 170 #[.slice A n c] w fun e w'=>e=.returned (.bool (PH.may l))/\Sp w0 L w':=by
 have d:=XS A n c l H hn hb hl;obtain⟨z,f⟩:=exq (l.any PH.bad);obtain⟨m,g⟩:=exq (PH.may l);rw [f] at d;rw [g];have i:=hid d;have a:m=(decide (n<=1024) && !z):=by rw [<- g,<- f,hn]; rfl
 have b:=hid a;clear d f g a hb hn;by_cases h:n<=1024
 ·have j:decide ((n:Int)<=1024)=true:=decide_eq_true (by omega);go_enter Tryz.func170,Tryz.ntmps170
  go_wp2_with fail
  refine i.out.mono ?_;rintro _ o ⟨rfl,k⟩;go_wp2;go_ret;exact⟨Xe (by rw [b.out,decide_eq_true h]; rfl),k⟩
 ·have j:decide ((n:Int)<=1024)=false:=decide_eq_false (by omega);go_enter Tryz.func170,Tryz.ntmps170
  go_wp2;go_ret;exact⟨Xe (by rw [b.out,decide_eq_false h]; rfl),H⟩
def cntV (f:Nat->Nat):List Value:=(List.range 16).map fun i=>.int .i64 (f i:Int)
theorem ZW (f:Nat->Nat) (i:Nat) (h:i<16):(cntV f)[i]?=some (.int .i64 (f i:Int)):=by
 unfold cntV;rw [List.getElem?_map,List.getElem?_range h];rfl
theorem We (f:Nat->Nat) (x v:Nat):(cntV f).set x (.int .i64 v)=cntV fun i=>if i=x then v else f i:=by
 apply List.ext_getElem?;intro i;rw [List.getElem?_set];by_cases h:i<16
 ·rw [ZW _ _ h,ZW _ _ h];by_cases e:x=i
  ·subst e;rw [if_pos rfl,if_pos (by simp [cntV]; exact h),if_pos rfl]
  ·rw [if_neg e,if_neg (fun h=>e h.symm)]
 ·have a:(cntV f)[i]?=none:=List.getElem?_eq_none (by simp [cntV]; omega);have b:(cntV fun i=>if i=x then v else f i)[i]?=none:=List.getElem?_eq_none (by simp [cntV]; omega);rw [a,b];split
  ·rw [if_neg (by simp [cntV]; omega)]
  ·rfl
theorem Uj (f:Nat->Nat):∀v ∈ cntV f,v.oneCell'=true:=by
 intro v a;obtain⟨i,_,rfl⟩:=List.mem_map.1 a;rfl
def tallyV (m:List Nat):Value:=.agg (cntV (PH.tal m)).toArray
theorem addr0 (g j:Nat):(⟨g,0,none⟩:Addr).add j=⟨g,j,none⟩:=by
 unfold Addr.add; split
 ·rename_i h0; subst h0; rfl
 ·simp
def castI (m:List Nat):List Int:=m.map fun n:Nat=>(n:Int)
theorem Wf (A:Option Addr) (n c:Nat) (m:List Nat) (H:Sp w0 L w) (hn:n=m.length) (hb:Ent L fun w=>Rd w A (cells64 (castI m))) (hl:n<=1000000000) (h15:∀x ∈ m,x<=15) :
  Calls Tryz.prog 153 #[.slice A n c] w fun e w'=>e=.returned (tallyV m)/\Sp w0 L w':=by
 have E:=hid hn;have M:=hid hb;clear hn hb;obtain⟨t,u⟩:=exq (tallyV m);rw [u];have N:=hid u;clear u;have F:(w.alloc (.cells #[.int .i64 0,.int .i64 0,.int .i64 0,.int .i64 0,.int .i64 0,.int .i64 0,.int .i64 0,.int .i64 0,.int .i64 0,.int .i64 0,.int .i64 0,.int .i64 0,.int .i64 0,.int .i64 0,.int .i64 0,.int .i64 0] 234)).heap.size=w.heap.size+1:=Array.size_push _;have f:=(H.newBk [.int .i64 0,.int .i64 0,.int .i64 0,.int .i64 0,.int .i64 0,.int .i64 0,.int .i64 0,.int .i64 0,.int .i64 0,.int .i64 0,.int .i64 0,.int .i64 0,.int .i64 0,.int .i64 0,.int .i64 0,.int .i64 0] 234).newBk [.int .i64 0,.int .i64 0,.int .i64 0,.int .i64 0,.int .i64 0,.int .i64 0,.int .i64 0,.int .i64 0,.int .i64 0,.int .i64 0,.int .i64 0,.int .i64 0,.int .i64 0,.int .i64 0,.int .i64 0,.int .i64 0] 234;rw [F] at f;clear F;go_enter Tryz.func153,Tryz.ntmps153
 go_wp2_with fail
 generalize w.heap.size+1=g3 at f ⊢;generalize w.heap.size=g2 at f ⊢;generalize (w.alloc _).alloc _=w1 at f ⊢;obtain⟨G,y⟩:∃G:Addr,(⟨g3,0,none⟩:Addr)=G:=⟨_,rfl⟩;rw [y];have o:=hid y;clear y;go_loopw [8] (fun iv wr=>∃i:Nat,iv=.int .i64 i/\i<=n/\Sp w0 (Bk g3 234 (cntV fun k=>(m.take i).count k)::Bk g2 234 [.int .i64 0,.int .i64 0,.int .i64 0,.int .i64 0,.int .i64 0,.int .i64 0,.int .i64 0,.int .i64 0,.int .i64 0,.int .i64 0,.int .i64 0,.int .i64 0,.int .i64 0,.int .i64 0,.int .i64 0,.int .i64 0]::L) wr) (fun iv _=>n - (intOf iv).toNat)
 case atStart=>exact⟨0,rfl,Nat.zero_le _,f⟩
 case round =>
  obtain⟨i,rfl,V,a⟩:=hrel;by_cases z:i<n
  ·have O:(i:Int)<(n:Int):=by omega
   have d:i<m.length:=by rw [<- E.out]; exact z
   obtain⟨Q,rfl,I⟩:=(M.out _ _ (a.pick 2 [])).at64 (k:=i) (by simpa [castI] using d);obtain⟨x,p⟩:=exq (m[i]);have J:x<=15:=by rw [<- p]; exact h15 _ (List.getElem_mem d)
   replace I:wr.cell? (Q.add i)=some (.int .i64 x):=by
    rw [I];simp [castI,p]
   obtain⟨q,r⟩:=exq ((m.take i).count x);have R:q<=i:=by
    rw [<- r];refine Nat.le_trans List.count_le_length ?_;rw [List.length_take]; omega
   have W:wr.cell? (G.add x)=some (.int .i64 q):=by
    rw [<- o.out,addr0,a.cell 0 rfl x,ZW _ _ (by omega),r]
   have X:wr.frozen? (G.add x)=false:=by
    rw [<- o.out,addr0];exact a.frozen 0 rfl x
   have Y:(x:Int)<16:=by omega
   have b:Sp w0 (Bk g3 234 (cntV fun k=>(m.take (i+1)).count k)::Bk g2 234 [.int .i64 0,.int .i64 0,.int .i64 0,.int .i64 0,.int .i64 0,.int .i64 0,.int .i64 0,.int .i64 0,.int .i64 0,.int .i64 0,.int .i64 0,.int .i64 0,.int .i64 0,.int .i64 0,.int .i64 0,.int .i64 0]::L) (wr.setCell (G.add x) (.int .i64 ((q:Int)+1))):=by
    have h:=a.set x (.int .i64 ((q+1:Nat):Int));rw [We] at h;rw [<- o.out,addr0];have e:(fun k=>(m.take (i+1)).count k)=fun k=>if k=x then q+1 else (m.take i).count k:=by
     funext k;rw [List.take_succ_eq_append_getElem d,List.count_append,p];by_cases B:k=x
     ·subst B;rw [if_pos rfl,r];simp
     ·rw [if_neg B,List.count_singleton,beq_eq_false_iff_ne.2 (fun h=>B h.symm)];simp
    rw [e];exact h
   have S:=hid b;clear b r p;go_wp2_with fail
   go_roundw
   case rel=>exact⟨i+1,by go_num,by omega,S.out⟩
   case measure=>first | (simp [intOf]; omega) | simp [intOf]
  ·have O:¬ (i:Int)<(n:Int):=by omega
   rw [List.take_of_length_le (by rw [<- E.out]; omega)] at a;have T:(fun i=>if i=0 then 0 else m.count i)=PH.tal m:=by
    funext i; unfold PH.tal; rfl
   have s:=a.set 0 (.int .i64 ((0:Nat):Int));rw [We,T] at s;have Z:wr.cell? ⟨g3,0,none⟩=some (.int .i64 (m.count 0:Int)):=by rw [a.cell 0 rfl 0,ZW _ _ (by omega)]
   have z0:wr.frozen? ⟨g3,0,none⟩=false:=a.frozen 0 rfl 0;have C:=hid s;have g:=s.swap;have D:=hid g;clear s g;obtain rfl:=o.out;go_wp2_with (first | (refine ZH rfl 234 _ rfl g3 234 (cntV (PH.tal m)) rfl (C.out.blk 0 rfl) Tryz.isAgg234 Tryz.sizeOf234 ?_) | (refine Zn rfl 234 _ _ rfl g2 234 _ (cntV (PH.tal m)) rfl rfl D.out rfl Tryz.sizeOf234 (Uj _) ?_))
   intro U K;go_wp2_with fail
   have l:=run_loadCells_list (P:=Tryz.prog) U ⟨g2,0,none⟩ (cntV (PH.tal m)) (fun j v hj=>by rw [addr0,K.cell 0 rfl]; exact hj);rw [show(cntV (PH.tal m)).length=16 from rfl] at l;refine bodyPost_ret (v:=tallyV m) (by simp [results,Tryz.results153,Tryz.isAgg234,Tryz.sizeOf234,l,Result.andThen,tallyV,asAddr,loadVar]) rfl ?_;exact⟨by rw [N.out],K.pick 2 []⟩
def cmpI (x y:Int):Int:=if x<y then -1 else if y<x then 1 else 0
theorem UV (x:Int) (w:World):Calls Tryz.prog 143 #[.int .i64 x] w fun e w'=>e=.returned (.bool false)/\w=w':=by
 go_enter Tryz.func143,Tryz.ntmps143
 go_wp2;go_ret;exact⟨rfl,rfl⟩
theorem UW (x y:Int) (w:World):Calls Tryz.prog 122 #[.int .i64 x,.int .i64 y] w fun e w'=>e=.returned (.int .i64 (cmpI x y))/\w=w':=by
 obtain⟨r,a⟩:=exq (cmpI x y);rw [a];have b:=hid a;clear a;go_enter Tryz.func122,Tryz.ntmps122
 go_wp2_with fail
 refine(UV x _).mono ?_;rintro _ _ ⟨rfl,rfl⟩;go_wp2_with fail
 refine(UV y _).mono ?_;rintro _ _ ⟨rfl,rfl⟩;by_cases c:x<y
 ·go_wp2_with fail
  go_ret;exact⟨Z1 (by rw [<- b.out]; unfold cmpI; rw [if_pos c]),rfl⟩
 ·by_cases d:y<x
  ·go_wp2_with fail
   go_ret;exact⟨Z1 (by rw [<- b.out]; unfold cmpI; rw [if_neg (by omega),if_pos (by omega)]),rfl⟩
  ·go_wp2_with fail
   go_ret;exact⟨Z1 (by rw [<- b.out]; unfold cmpI; rw [if_neg (by omega),if_neg (by omega)]),rfl⟩
theorem index16 (f:Nat->Nat) (i:Nat) (h:i<16) (w:World):(Instr.index 234 (.agg (cntV f).toArray) (.int .i64 i)).run Tryz.prog w=.ok (.int .i64 (f i:Int)) w:=by
 simp [Instr.index,run_underlying Tryz.underlying234,asIntOf,part,Result.andThen,ZW f i h];intro a; omega
theorem Uk (A:Option Addr) (n c:Nat) (m:List Nat) (H:Sp w0 L w) (hn:n=m.length) (hb:Ent L fun w=>Rd w A (cells64 (castI m))) (hl:n<=1024) (h15:∀x ∈ m,x<=15) :
  Calls Tryz.prog 151 #[.slice A n c] w fun e w'=>e=.returned (.tuple #[.int .i64 (PH.state m),.int .i64 0])/\Sp w0 L w':=by
 have b:=Tc A n c (castI m) H (by simpa [castI] using hn) hb (by omega);have k:PH.may (castI m)=true:=by
  unfold PH.may;rw [decide_eq_true (by rw [<- show n=(castI m).length by simpa [castI] using hn]; exact hl),Bool.true_and,Bool.not_eq_true',List.any_eq_false];intro x z;obtain⟨y,O,rfl⟩:=List.mem_map.1 z;have:=h15 y O;unfold PH.bad;simp only [decide_eq_true_eq];omega
 rw [k] at b;have B:=hid hn;have P:=hid hb;have C:=hid h15;have a:cmpI (PH.sum m:Int) 32768=PH.state m:=by
  unfold cmpI PH.state;by_cases I:PH.sum m<32768
  ·rw [if_pos I,if_pos (by omega)]
  ·rw [if_neg I,if_neg (by omega)];by_cases r:32768<PH.sum m
   ·rw [if_pos r,if_pos (by omega)]
   ·rw [if_neg r,if_neg (by omega)]
 have g:=hid a;clear hn hb h15 k a;obtain⟨st,a⟩:=exq (PH.state m);rw [a];rw [a] at g;clear a;obtain⟨t,D⟩:=exq (tallyV m);have l:∀(i:Nat) (w:World),i<16->(Instr.index 234 t (.int .i64 i)).run Tryz.prog w=.ok (.int .i64 (PH.tal m i:Int)) w:=fun i w h=>by rw [<- D]; exact index16 _ i h w
 have E:=hid l;have Q:=hid D;clear l D;go_enter Tryz.func151,Tryz.ntmps151
 go_wp2_with fail
 refine b.mono ?_;rintro _ X ⟨rfl,R⟩;clear b;go_wp2_with fail
 refine(Wf A n c m R B.out P.out (by omega) C.out).mono ?_;rintro _ Y ⟨rfl,S⟩;rw [Q.out];go_wp2_with fail
 go_loopw [4,12] (fun sv iv wr=>∃i:Nat,iv=.int .i64 i/\sv=.int .i64 (PH.share m i:Int)/\i<=16/\Sp w0 L wr) (fun _ iv _=>16 - (intOf iv).toNat)
 case atStart=>exact⟨0,rfl,rfl,by omega,S⟩
 case round =>
  obtain⟨i,rfl,rfl,Z,J⟩:=hrel;by_cases F:i<16
  ·have T:(i:Int)<16:=by omega
   have z:=E.out i wr F;obtain⟨q,u⟩:=exq (PH.tal m i);have U:q<=n:=by rw [<- u,B.out]; exact PH.tal_le m i
   obtain⟨s,f⟩:=exq (PH.share m i);have V:s<=600000000:=by
    rw [<- f];have:=PH.share_le m i;rw [<- B.out] at this;have r:i * (n * 32768)<=16 * (1024 * 32768):=Nat.mul_le_mul (by omega) (Nat.mul_le_mul_right _ hl);omega
   have j:PH.share m (i+1)=s+q * 2 ^ (15 - i):=by rw [PH.share,f,u]
   rw [u] at z;rw [f];obtain⟨p,v⟩:=exq (q * 2 ^ (15 - i));have W:p<=40000000:=by
    rw [<- v];have:(2:Nat) ^ (15 - i)<=2 ^ 15:=Nat.pow_le_pow_right (by omega) (by omega);have r:q * 2 ^ (15 - i)<=1024 * 2 ^ 15:=Nat.mul_le_mul (by omega) this;omega
   rw [v] at j;have G:=hid j;have K:=hid v;clear j v u f;obtain⟨d,M⟩:=exq (15 - i);have e1:(15:Int) - (i:Int)=(d:Int):=by omega
   have N:d<=15:=by omega
   rw [M] at K;have e2:(q:Int) * 2 ^ d=(p:Int):=by
    rw [<- K.out];simp
   clear M;go_wp2_with fail
   go_roundw
   case rel =>
    refine⟨i+1,by go_num,?_,by omega,J⟩;rw [G.out];exact congrArg (Value.int .i64) (by omega)
   case measure=>first | (simp [intOf]; omega) | simp [intOf]
  ·have T:¬ (i:Int)<16:=by omega
   obtain rfl:i=16:=by omega
   obtain⟨s,f⟩:=exq (PH.share m 16);have o:PH.sum m=s:=f;rw [o] at g;rw [f];clear f o;go_wp2_with fail
   refine(UW (s:Int) 32768 _).mono ?_;rintro _ _ ⟨rfl,rfl⟩;rw [g.out];go_wp2_with fail
   go_ret2;exact⟨rfl,J⟩
def cmpF:Value:=.func (.func 121) #[] #[]
theorem YN (x y:PK) (H:Sp w0 L w) :
  Calls Tryz.prog 121 #[x.val,y.val] w fun e w'=>e=.returned (.int .i64 (cmpI x.c y.c))/\Sp w0 L w':=by
 obtain⟨a,b,p⟩:=x;obtain⟨c,d,q⟩:=y;unfold PK.val PK.ptr;simp only;obtain⟨P,i⟩:∃P:Option Addr,p.map (fun g=>(⟨g,0,none⟩:Addr))=P:=⟨_,rfl⟩;obtain⟨Q,j⟩:∃P:Option Addr,q.map (fun g=>(⟨g,0,none⟩:Addr))=P:=⟨_,rfl⟩;rw [i,j];clear i j p q;obtain⟨r,k⟩:=exq (cmpI a c);have h:=fun w=>UW a c w;rw [k] at h ⊢;have m:=hid h;clear h k;have l:(w.alloc (.cells #[.int .i64 a,.int .i64 b,.pointer P] 143)).heap.size=w.heap.size+1:=Array.size_push _;have f:=(H.newBk [.int .i64 a,.int .i64 b,.pointer P] 143).newBk [.int .i64 c,.int .i64 d,.pointer Q] 143;rw [l] at f;clear l;go_enter Tryz.func121,Tryz.ntmps121
 go_wp2_with fail
 generalize w.heap.size+1=g2 at f ⊢;generalize w.heap.size=g1 at f ⊢;generalize (w.alloc _).alloc _=w1 at f ⊢;have n:=f.cell 0 rfl 0;have o:=f.cell 1 rfl 0;simp only [List.getElem?_cons_zero] at n o;refine(m.out _).mono ?_;rintro _ _ ⟨rfl,rfl⟩;go_wp2_with fail
 go_ret;exact⟨rfl,f.pick 2 []⟩
end Go.Proofs.YteajimobgkempaaGreatDoor

