/- A pack. -/
import Derived.WideKeyEntry
import Derived.Test.YteajimobgkempaaDoorPk16
import Derived.Test.YteajimobgkempaaDoorPk18
set_option linter.all false
set_option maxRecDepth 100000
set_option maxHeartbeats 8000000
namespace Go.Proofs.YteajimobgkempaaDoor
variable {w0 w:World} {L:List Pr}
open Go.RowKit
section
variable {P:Program}
theorem Xa {fn:Func} {s:Tmp} {ty:TypeId} (h:fn.results=#[.cell s ty]) (tmps:Array Value) {w:World} {ad:Addr} {cs:List Value} (hx:tmps[s]?.getD undef=.pointer (some ad)) (hc:∀j v,cs[j]?=some v->w.cell? (ad.add j)=some v) (ha:∀w,(isAgg ty).run P w=.ok true w) (hs:∀w,(sizeOf ty).run P w=.ok cs.length w) :
  (results fn tmps).run P w=.ok (.agg cs.toArray) w:=by
 have a:=run_loadCells_list (P:=P) w ad cs hc;simp [results,h,hx,asAddr,loadVar,ha,hs,a,Result.andThen]
theorem vres_c2 {fn:Func} {s t:Tmp} {ty:TypeId} (h:fn.results=#[.cell s ty,.cell t ty]) (tmps:Array Value) {w:World} {ad bd:Addr} {cs ds:List Value} (hx:tmps[s]?.getD undef=.pointer (some ad)) (hy:tmps[t]?.getD undef=.pointer (some bd)) (hc:∀j v,cs[j]?=some v->w.cell? (ad.add j)=some v) (hd:∀j v,ds[j]?=some v->w.cell? (bd.add j)=some v) (ha:∀w,(isAgg ty).run P w=.ok true w) (hs:∀w,(sizeOf ty).run P w=.ok cs.length w) (ht:ds.length=cs.length) :
  (results fn tmps).run P w=.ok (.tuple #[.agg cs.toArray,.agg ds.toArray]) w:=by
 have b:=run_loadCells_list (P:=P) w ad cs hc;have a:=run_loadCells_list (P:=P) w bd ds hd;rw [ht] at a;simp [results,h,hx,hy,asAddr,loadVar,ha,hs,b,a,Result.andThen]
end
theorem Vx (l:List Int):PH.enI l=20∨PH.enI l=1:=by unfold PH.enI; split <;> simp
theorem Wf (g:Nat) (V:Value) (at_:Nat) (O:Value) (most:Nat) (bl:Value) (A:Option Addr) (n c:Nat) (l:List Int) (d d2:Nat) (hF:∀(w0 w:World) (L:List Pr),Sp w0 (SmB g V at_ O most bl d::L) w->Calls Tryd.prog 43 #[.pointer (some ⟨g,0,none⟩),.int .i64 ((20:Nat):Int)] w fun e w'=>e=.returned (.tuple #[])/\Sp w0 (SmB g V at_ O most bl d2::L) w') (H:Sp w0 (SmB g V at_ O most bl d::L) w) (hn:n=l.length) (hnl:n<=1000000) (hb:Ent L fun w=>Rd w A (cells64 l)) (hbk:PH.okB l=false) :
  Calls Tryd.prog 69 #[.pointer (some ⟨g,0,none⟩),.slice A n c] w fun e w'=>e=.returned (.agg #[.slice none 0 0,.slice none 0 0,.int .i64 0])/\Sp w0 (SmB g V at_ O most bl d2::L) w':=by
 have o:=H.newBk [.slice none 0 0,.slice none 0 0,.int .i64 0] 101;have a:=hid o;have t:=hid hn;have u:=hid hb;have j:=hid hbk;have k:Hid (∀(w0 w:World) (L:List Pr),Sp w0 (SmB g V at_ O most bl d::L) w->Calls Tryd.prog 43 #[.pointer (some ⟨g,0,none⟩),.int .i64 ((20:Nat):Int)] w fun e w'=>e=.returned (.tuple #[])/\Sp w0 (SmB g V at_ O most bl d2::L) w'):=hid hF;clear H o hn hb hbk hF;go_enter Tryd.func69,Tryd.ntmps69
 go_wp2_with fail
 replace a:=a.out;generalize World.alloc _ _=w1 at a ⊢;generalize w.heap.size=g2 at a ⊢;have f:=Xt A n c l a t.out (fun w0 w h=>u.out w0 w h.tail2) hnl;rw [j.out] at f;obtain⟨q,p⟩:=exq (PH.enI l);have m:=Vx l;rw [p] at f m;rw [if_neg (by decide)] at f;replace f:=hid f;clear p a;have x:(q != 0)=true:=by simp; omega
 have v : ¬ q=0:=by omega
 go_wp2_with fail
 refine f.out.mono ?_;rintro _ y ⟨rfl,r⟩;have s:=hid (k.out _ _ _ r.swap);clear f r;go_wp2_with fail
 refine s.out.mono ?_;rintro _ i ⟨rfl,b⟩;clear s;have a:=hid (((b.swap.set 0 (.slice none 0 0)).set 1 (.slice none 0 0)).set 2 (.int .i64 0));have z:i.cell? ⟨g2,0,none⟩=some (.slice none 0 0):=b.cell 1 rfl 0;have B:i.cell? ⟨g2,1,none⟩=some (.slice none 0 0):=b.cell 1 rfl 1;have C:i.cell? ⟨g2,2,none⟩=some (.int .i64 0):=b.cell 1 rfl 2;have D:i.frozen? ⟨g2,0,none⟩=false:=b.frozen 1 rfl 0;have E:i.frozen? ⟨g2,1,none⟩=false:=b.frozen 1 rfl 1;have F:i.frozen? ⟨g2,2,none⟩=false:=b.frozen 1 rfl 2;clear b;go_wp2_with fail
 refine bodyPost_ret (Xa rfl _ rfl (bk_cells a.out 0 rfl) Tryd.isAgg101 Tryd.sizeOf101) rfl ?_;exact⟨rfl,a.out.tail⟩
theorem Z4 (g:Nat) (V:Value) (at_:Nat) (O:Value) (most:Nat) (bl:Value) (A:Option Addr) (n c d:Nat) (m:List Nat) (H:Sp w0 (SmB g V at_ O most bl d::L) w) (hn:n=m.length) (hnl:n<=1000000) (hb:Ent L fun w=>Rd w A (cells64 (castI m))) (hbk:PI.book m=true) :
  Calls Tryd.prog 69 #[.pointer (some ⟨g,0,none⟩),.slice A n c] w fun e w'=>∃C k,e=.returned (.agg #[.slice A n c,.slice C n k,.int .i64 (PI.mostN m:Int)])/\Sp w0 (SmB g V at_ O most bl d::Row 47 1 (.slice C n k) n (rowU (PH.codeAt m) n)::L) w':=by
 have a:PH.okB (castI m)=true:=hbk;have b:PH.may (castI m)=true:=by
  unfold PH.okB at a;simp only [Bool.and_eq_true] at a;exact a.1
 have p:mayBook m=true:=by
  unfold PH.okB at a;simp only [Bool.and_eq_true,PI.PH.nat_cast] at a;exact a.2
 have i:¬ PH.state m=1:=fun h=>by rw [PH.many_no_book m h] at p; cases p
 have Y:=H.newBk [.slice none 0 0,.slice none 0 0,.int .i64 0] 101;have j:=hid Y;have HN:=hid hn;have K:=hid hb;have M:=hid a;have o:n=(castI m).length:=by rw [hn]; simp [castI]
 have q:=hid o;have t:PH.cn (castI m)=n:=by unfold PH.cn PH.ecI; rw [if_pos b,PI.PH.nat_cast,if_neg i,if_pos rfl,o]
 have u:PH.crow (castI m)=rowU (PH.codeAt m) n:=by unfold PH.crow PH.ecI; rw [if_pos b,PI.PH.nat_cast,if_neg i,if_pos rfl,o]
 have v:PH.stI (castI m)=PH.state m:=by unfold PH.stI; rw [if_pos b,PI.PH.nat_cast]
 have x:PH.ecI (castI m)=0:=by unfold PH.ecI; rw [if_pos b,PI.PH.nat_cast,if_neg i]
 have y:PH.erI (castI m)=0:=by unfold PH.erI; rw [if_pos b]
 have N:=hid t;have P:=hid u;have z:=hid v;have Q:=hid x;have R:=hid y;obtain⟨st,l⟩:=exq (PH.state m);have B:PI.mostN m=if st=0 then 15 else 1:=by unfold PI.mostN; rw [l]
 rw [l] at z;have D:=hid B;clear H Y hn hb hbk a b p i o t u v x y l B;go_enter Tryd.func69,Tryd.ntmps69
 go_wp2_with fail
 replace j:=j.out;generalize World.alloc _ _=w1 at j ⊢;generalize w.heap.size=g2 at j ⊢;have E:=Xt A n c (castI m) j q.out (fun w0 w h=>K.out w0 w h.tail2) hnl;rw [M.out,if_pos rfl] at E;replace E:=hid E;clear j;go_wp2_with fail
 refine E.out.mono ?_;rintro _ w2 ⟨rfl,Z⟩;have F:=XI A n c (castI m) Z q.out (fun w0 w h=>K.out w0 w h.tail2) hnl;rw [Q.out,N.out,P.out] at F;replace F:=hid F;clear E Z;go_wp2_with fail
 refine F.out.mono ?_;rintro _ w3 ⟨vc,rfl,S⟩;obtain⟨C,k,rfl,a0,a1⟩:=Row.form S 0 rfl;have G:=XH A n c (castI m) S q.out (fun w0 w h=>K.out w0 w h.tail.tail2) hnl;rw [z.out,R.out] at G;replace G:=hid G;clear F S;go_wp2_with fail
 refine G.out.mono ?_;rintro _ w4 ⟨rfl,T⟩;have H5:=T.newBk [.slice A n c,.slice C n k,.int .i64 15] 101;have H6:=T.newBk [.slice A n c,.slice C n k,.int .i64 1] 101;have j:=hid H5;have f:=hid H6;clear G T H5 H6;by_cases J:st=0
 ·have k1:(st != 0)=false:=by simp [J]
  have r:=D.out;rw [if_pos J] at r;have s:=hid r;clear r;have I:=hid (((((j.out.pick 3 [2,0,1]).set 0 (.slice A n c)).set 1 (.slice C n k)).set 2 (.int .i64 15)).pick 4 [0,3,2]);have U:=j.out.cell 2 rfl 0;have W:=j.out.cell 2 rfl 1;have X:=j.out.cell 2 rfl 2;have z0:=j.out.frozen 2 rfl 0;have z1:=j.out.frozen 2 rfl 1;have z2:=j.out.frozen 2 rfl 2;simp only [List.getElem?_cons_zero,List.getElem?_cons_succ] at U W X;go_wp2_with fail
  refine bodyPost_ret (Xa rfl _ rfl (bk_cells I.out 0 rfl) Tryd.isAgg101 Tryd.sizeOf101) rfl ?_;exact⟨C,k,by rw [s.out]; rfl,I.out.tail⟩
 ·have k1:(st != 0)=true:=by simp [J]
  have r:=D.out;rw [if_neg J] at r;have s:=hid r;clear r;have I:=hid (((((f.out.pick 3 [2,0,1]).set 0 (.slice A n c)).set 1 (.slice C n k)).set 2 (.int .i64 1)).pick 4 [0,3,2]);have U:=f.out.cell 2 rfl 0;have W:=f.out.cell 2 rfl 1;have X:=f.out.cell 2 rfl 2;have z0:=f.out.frozen 2 rfl 0;have z1:=f.out.frozen 2 rfl 1;have z2:=f.out.frozen 2 rfl 2;simp only [List.getElem?_cons_zero,List.getElem?_cons_succ] at U W X;go_wp2_with fail
  refine bodyPost_ret (Xa rfl _ rfl (bk_cells I.out 0 rfl) Tryd.isAgg101 Tryd.sizeOf101) rfl ?_;exact⟨C,k,by rw [s.out]; rfl,I.out.tail⟩
def cellsP (t:List (Nat × Nat)):List Value:=t.flatMap fun p=>[.int .i64 p.1,.int .i64 p.2]
theorem Yz (t:List (Nat × Nat)):(cellsP t).length=t.length * 2:=by
 induction t with
 | nil=>rfl
 | cons p t ih=>show([_,_]++cellsP t).length=_; simp [ih]; omega
theorem Z5:∀(t:List (Nat × Nat)) (i:Nat),i<t.length->(cellsP t)[i * 2]?=some (.int .i64 ((t.getD i (0,0)).1:Int))/\(cellsP t)[i * 2+1]?=some (.int .i64 ((t.getD i (0,0)).2:Int))
 | [],i,h=>by simp at h
 | p::t,0,_=>⟨rfl,rfl⟩
 | p::t,i+1,h=>by
  have:=Z5 t i (by simpa using h);have e:cellsP (p::t)=[.int .i64 p.1,.int .i64 p.2]++cellsP t:=rfl;rw [e,List.getElem?_append_right (by simp; omega),List.getElem?_append_right (by simp; omega)];simp only [List.length_cons,List.length_nil];rw [show(i+1) * 2 - (0+1+1)=i * 2 by omega,show(i+1) * 2+1 - (0+1+1)=i * 2+1 by omega];exact this
theorem rdP {w:World} {A:Option Addr} {t:List (Nat × Nat)} (h:Rd w A (cellsP t)) {i:Nat} (hi:i<t.length):∃ad,A=some ad/\w.cell? (ad.add (i * 2))=some (.int .i64 ((t.getD i (0,0)).1:Int))/\w.cell? ⟨(ad.add (i * 2)).block,(ad.add (i * 2)).off+1,none⟩=some (.int .i64 ((t.getD i (0,0)).2:Int)):=by
 obtain⟨ad,e,a⟩:=h (by intro e; have:=Yz t; rw [e] at this; simp at this; omega);have b:=Z5 t i hi;refine⟨ad,e,a _ _ b.1,?_⟩;rw [Yw ad (i * 2) 1 (by omega)];exact a _ _ b.2
open Go.RowKit Go.MapKept
abbrev Three:=UInt8 × UInt8 × UInt8
def key3 (k:Three):Value:=.agg #[.int .u8 k.1.toNat,.int .u8 k.2.1.toNat,.int .u8 k.2.2.toNat]
structure MapOk (es:Array MapEntry) (clock:Nat):Prop where
 st:Stamped es clock
 ks:∀e ∈ es.toList,∃k,e.key=key3 k
theorem MapOk.empty:MapOk #[] 0:=⟨stamped_empty 0,by simp⟩
theorem MapOk.push {es:Array MapEntry} {clock:Nat} (h:MapOk es clock) {k:Three} (v:Value) (hk:∀e ∈ es.toList,e.key≠key3 k):MapOk (es.push ⟨key3 k,v,clock⟩) (clock+1) :=
 ⟨stamped_push h.st hk,fun e he=>by
  simp only [Array.toList_push,List.mem_append,List.mem_singleton] at he;rcases he with he | rfl
  ·exact h.ks e he
  ·exact⟨k,rfl⟩⟩
theorem MapOk.modify {es:Array MapEntry} {clock:Nat} (h:MapOk es clock) (j:Nat) (v:Value):MapOk (es.modify j fun e=>{ e with val:=v }) clock :=
 ⟨stamped_modify h.st _ _ (fun _ _=>rfl) (fun _ _ _=>rfl),fun e he=>by
  obtain⟨i,hi,rfl⟩:=List.getElem_of_mem he
  have hi2:i<es.toList.length:=by simpa using hi
  obtain⟨k,hk⟩:=h.ks es.toList[i] (List.getElem_mem hi2)
  refine⟨k,?_⟩
  rw [<- hk]
  simp only [Array.toList_modify]
  rw [List.getElem_modify]
  split <;> rfl⟩
section
variable {w:World} {b:Nat} {es:Array MapEntry} {clock:Nat} {k:Three}
end
namespace PM
def at3 (B:List UInt8) (i:Nat):Three:=(B.getD i 0,B.getD (i+1) 0,B.getD (i+2) 0)
def places (B:List UInt8) (n:Nat) (k:Three):List Nat:=(List.range n).filter (fun i=>at3 B i == k)
theorem places_succ (B:List UInt8) (n:Nat) (k:Three):places B (n+1) k=if at3 B n=k then places B n k++[n] else places B n k:=by
 unfold places;rw [List.range_succ,List.filter_append];by_cases h:at3 B n=k
 ·rw [if_pos h]; simp [h]
 ·rw [if_neg h]; simp [h]
theorem places_none {B:List UInt8} {n:Nat} {k:Three} (h:∀i,i<n->at3 B i≠k):places B n k=[]:=by
 unfold places;rw [List.filter_eq_nil_iff];intro i a;have:=h i (by simpa using a);simpa using this
def mlenN (B:List UInt8) (p q:Nat):Nat->Nat
 | 0=>0
 | m+1=>if q<B.length/\B.getD p 0=B.getD q 0 then mlenN B (p+1) (q+1) m+1 else 0
def mlen (B:List UInt8) (p q:Nat):Nat:=mlenN B p q 258
theorem mlenN_le (B:List UInt8) (p q m:Nat):mlenN B p q m<=m:=by
 induction m generalizing p q with
 | zero=>exact Nat.le_refl _
 | succ m ih =>
  unfold mlenN;split
  ·have:=ih (p+1) (q+1); omega
  ·omega
theorem mlenN_same (B:List UInt8) (p q m i:Nat) (h:i<mlenN B p q m):B.getD (p+i) 0=B.getD (q+i) 0:=by
 induction m generalizing p q i with
 | zero=>exact absurd h (Nat.not_lt_zero _)
 | succ m ih =>
  unfold mlenN at h;split at h
  ·rename_i h2
   cases i with
   | zero=>exact h2.2
   | succ i =>
    have:=ih (p+1) (q+1) i (by omega)
    rwa [show p+(i+1)=p+1+i by omega,show q+(i+1)=q+1+i by omega]
  ·omega
theorem mlenN_stop (B:List UInt8) (p q m:Nat) (h:mlenN B p q m<m):¬ (q+mlenN B p q m<B.length/\B.getD (p+mlenN B p q m) 0=B.getD (q+mlenN B p q m) 0):=by
 induction m generalizing p q with
 | zero=>exact absurd h (Nat.not_lt_zero _)
 | succ m ih =>
  unfold mlenN at h ⊢;split
  ·rename_i h2
   rw [if_pos h2] at h;have:=ih (p+1) (q+1) (by omega)
   rwa [show p+(mlenN B (p+1) (q+1) m+1)=p+1+mlenN B (p+1) (q+1) m by omega,show q+(mlenN B (p+1) (q+1) m+1)=q+1+mlenN B (p+1) (q+1) m by omega]
  ·rename_i h2
   simpa using h2
end PM
namespace PM
def go (B:List UInt8) (q:Nat):List Nat->Nat->Nat × Nat->Nat × Nat
 | [],_,b=>b
 | p::ps,d,b=>if d=0 then b else if 32768<q - p then b else go B q ps (d - 1) (if b.1<mlen B p q then (mlen B p q,q - p) else b)
theorem go_zero (B:List UInt8) (q:Nat) (ps:List Nat) (b:Nat × Nat):go B q ps 0 b=b:=by cases ps <;> rfl
def best (B:List UInt8) (q d:Nat):Nat × Nat:=if q+3<=B.length then go B q (places B q (at3 B q)).reverse d (0,0) else (0,0)
theorem places_mem {B:List UInt8} {n:Nat} {k:Three} {i:Nat} : i ∈ places B n k↔i<n/\at3 B i=k:=by
 unfold places;rw [List.mem_filter,List.mem_range,beq_iff_eq]
theorem mlen_three {B:List UInt8} {p q:Nat} (h:q+3<=B.length):3<=mlen B p q↔at3 B p=at3 B q:=by
 have e:at3 B p=at3 B q↔B.getD p 0=B.getD q 0/\B.getD (p+1) 0=B.getD (q+1) 0/\B.getD (p+2) 0=B.getD (q+2) 0:=by
  simp [at3]
 rw [e];constructor
 ·intro k;have:=fun i hi=>mlenN_same B p q 258 i (Nat.lt_of_lt_of_le hi k);exact⟨this 0 (by omega),this 1 (by omega),this 2 (by omega)⟩
 ·rintro⟨b,c,d⟩;rcases Nat.lt_or_ge (mlen B p q) 3 with k | k
  ·exfalso;have a:=mlenN_stop B p q 258 (by unfold mlen at k; omega);unfold mlen at k;generalize mlenN B p q 258=m at k a;refine a ⟨by omega,?_⟩
   match m,k with
   | 0,_=>exact b
   | 1,_=>exact c
   | 2,_=>exact d
  ·exact k
theorem mlen_le (B:List UInt8) (p q:Nat):mlen B p q<=258:=mlenN_le B p q 258
abbrev St:=Nat × Nat × UInt8
def cut (B:List UInt8) (d:Nat):Nat->Nat->List St
 | 0,_=>[]
 | f+1,q =>
  if q<B.length then
   if (best B q d).1=0∨(best B q d).1<(best B (q+1) d).1 then (0,0,B.getD q 0)::cut B d f (q+1)
   else ((best B q d).1,(best B q d).2,0)::cut B d f (q+(best B q d).1)
  else []
def made (s:St):Nat:=max s.1 1
end PM
namespace PM
def grow (far:Nat):Nat->List UInt8->List UInt8
 | 0,b=>b
 | n+1,b=>grow far n (b++[b.getD (b.length - far) 0])
def step (s:St) (b:List UInt8):List UInt8:=if s.1=0 then b++[s.2.2] else grow s.2.1 s.1 b
def size:List St->Nat
 | []=>0
 | s::l=>made s+size l
end PM
namespace PD
def tokOf (s:PM.St):PI.Tok:=if s.1=0 then .lit s.2.2 else .cpy s.1 s.2.1
def toks (Y:List PM.St):List PI.Tok:=Y.map tokOf
def used (l:List Nat) (least:Nat):Nat->Nat
 | 0=>0
 | n+1=>if least<n+1/\l.getD n 0=0 then used l least n else n+1
def cut (l:List Nat) (least:Nat):List Nat:=l.take (used l least l.length)
def lenA (Y:List PM.St):List Nat:=cut (PI.lensA (toks Y)) 257
def lenB (Y:List PM.St):List Nat:=cut (PI.lensB (toks Y)) 1
def rl:Nat->Nat->List Nat->List (Nat × Nat)
 | 0,_,_=>[]
 | f+1,p,l=>match l with
  | []=>[]
  | x::r =>
   if p=x/\x≠0/\3<=PI.runL x r+1 then (16,min (PI.runL x r+1) 6 - 3)::rl f x (l.drop (min (PI.runL x r+1) 6))
   else if x=0/\11<=PI.runL x r+1 then (18,min (PI.runL x r+1) 138 - 11)::rl f x (l.drop (min (PI.runL x r+1) 138))
   else if x=0/\3<=PI.runL x r+1 then (17,PI.runL x r+1 - 3)::rl f x (l.drop (PI.runL x r+1))
   else (x,0)::rl f x r
def row (l:List Nat):List (Nat × Nat):=rl l.length 0 l
def toldN (m:List Nat):Nat->Nat
 | 0=>0
 | n+1=>if 4<n+1/\m.getD (PI.orderT.getD n 0) 0=0 then toldN m n else n+1
def told (m:List Nat):Nat:=toldN m 19
def rowY (Y:List PM.St):List (Nat × Nat):=row (lenA Y++lenB Y)
def fst7 (Y:List PM.St):List Nat:=PI.firstOf (rowY Y)
def dynW (Y:List PM.St):List Bool:=PI.headW (fst7 Y) (told (fst7 Y)) (lenA Y).length (lenB Y).length (rowY Y)++PI.toksW (lenA Y) (lenB Y) (toks Y)
def fixW (Y:List PM.St):List Bool:=PI.toksW PI.fixedL PI.fixedD (toks Y)
def pad (n:Nat):Nat:=(n+7) / 8 * 8 - n
def sto (n a:Nat):Int:=if n<=65535 then ((3+pad (a+3)+32+8 * n:Nat):Int) else -1
def fixN (Y:List PM.St):Nat:=3+(fixW Y).length
def dynN (Y:List PM.St):Nat:=3+(dynW Y).length
def pick (s:Int) (f d:Nat):Nat:=if 0<=s then (if (f:Int)<s then (if d<f then 2 else 1) else if (d:Int)<s then 2 else 0) else if d<f then 2 else 1
def kind (Y:List PM.St) (b:List UInt8) (a:Nat):Nat:=pick (sto b.length a) (fixN Y) (dynN Y)
def bodyD (k:Nat) (Y:List PM.St) (b:List UInt8) (a:Nat):List Bool:=if k=0 then List.replicate (pad a) false++PI.storedW b else if k=1 then fixW Y else dynW Y
def layD (k:Nat) (Y:List PM.St) (b:List UInt8) (last:Bool) (a:Nat):List Bool:=[last]++PBits.bitsOf k 2++bodyD k Y b (a+3)
def partD (Y:List PM.St) (b:List UInt8) (last:Bool) (a:Nat):List Bool:=layD (kind Y b a) Y b last a
def partY (Y:List PM.St) (i:Nat):List PM.St:=(Y.drop (512 * i)).take 512
def atB (Y:List PM.St) (i:Nat):Nat:=PM.size (Y.take (512 * i))
def partB (Y:List PM.St) (b:List UInt8) (i:Nat):List UInt8:=(b.drop (atB Y i)).take (PM.size (partY Y i))
def many (Y:List PM.St):Nat:=max 1 ((Y.length+511) / 512)
def stD (Y:List PM.St) (b:List UInt8):Nat->List Bool
 | 0=>[]
 | i+1=>stD Y b i++partD (partY Y i) (partB Y b i) (decide (Y.length<=512 * (i+1))) (stD Y b i).length
def bitsD (Y:List PM.St) (b:List UInt8):List Bool:=stD Y b (many Y)
def stream (Y:List PM.St) (b:List UInt8):List UInt8:=PI.packB (bitsD Y b)
section
variable (c:List Nat) (z:Nat)
end
end PD
namespace PD
def longT:List (Nat × Nat):=PI.lengthsT++[(258,0)]
end PD
structure DTabs (TL TF:Option Addr) (cl cf:Nat) (w:World):Prop where
 long:w.cell? ⟨0,0,none⟩=some (.slice TL 29 cl)
 longs:Rd w TL (cellsP PD.longT)
 far:w.cell? ⟨4,0,none⟩=some (.slice TF 30 cf)
 fars:Rd w TF (cellsP PI.awayT)
 order:∀i,i<19->w.cell? ⟨1,i,none⟩=some (.int .i64 (PI.orderT.getD i 0:Nat))
theorem DTabs.heap {TL TF:Option Addr} {cl cf:Nat} {W w:World} (h:DTabs TL TF cl cf W) (hs:∀b,b<W.heap.size->w.heap[b]?=W.heap[b]?):DTabs TL TF cl cf w:=by
 have a:∀(p:Addr) u,W.cell? p=some u->w.cell? p=some u:=fun p u hp=>by
  rw [<- hp]; exact World.cell?_of_block (hs p.block (Zz hp))
 exact⟨a _ _ h.long,h.longs.keep fun p u _ hp=>(a p u hp).trans hp.symm,a _ _ h.far,h.fars.keep fun p u _ hp=>(a p u hp).trans hp.symm,fun i hi=>a _ _ (h.order i hi)⟩
namespace PD
abbrev Wd:=Nat × Nat × Nat × Nat
def wd (s:PM.St):List Wd:=if s.1=0 then [(0,s.2.2.toNat,0,0)] else [(0,257+(PI.longS s.1).1,(PI.longS s.1).2.1,(PI.longS s.1).2.2),(1,(PI.farS s.2.1).1,(PI.farS s.2.1).2.1,(PI.farS s.2.1).2.2)]
def wds (Y:List PM.St):List Wd:=Y.flatMap wd
def words (Y:List PM.St):List Wd:=wds Y++[(0,256,0,0)]
end PD
end Go.Proofs.YteajimobgkempaaDoor

