/- A pack. -/
import Derived.Test.YteajimobgkempaaDoorPk35
import Derived.Test.YteajimobgkempaaDoorPk42
set_option linter.all false
set_option maxRecDepth 100000
set_option maxHeartbeats 8000000
namespace Go.Proofs.YteajimobgkempaaDoor
variable {w0 w:World} {L:List Pr}
open Go.RowKit
def AEnd (w0:World) (L:List Pr) (T:Except Nat (Nat × List UInt8 × List PI.Blk)) (e:Ending) (w' : World):Prop :=
 match T with
 | .error c=>e=.returned (.tuple #[.slice none 0 0,.int .i64 0,.int .i64 c])/\Sp w0 L w'
 | .ok r=>∃vo,e=.returned (.tuple #[vo,.int .i64 (((r.1+7) / 8:Nat):Int),.int .i64 0])/\Sp w0 (Row 5 1 vo r.2.1.length (cells8 r.2.1)::L) w'
def BEnd (w0:World) (L:List Pr) (T:Except Nat (Nat × List UInt8 × List PI.Blk)) (e:Ending) (w' : World):Prop :=
 match T with
 | .error c=>e=.returned (.tuple #[.slice none 0 0,.int .i64 c])/\Sp w0 L w'
 | .ok r=>∃vb,e=.returned (.tuple #[vb,.int .i64 0])/\Sp w0 (Row 71 4 vb r.2.2.length (Zc r.2.2)::L) w'
theorem AEnd.no {w0:World} {T:Except Nat (Nat × List UInt8 × List PI.Blk)} {w' : World} {c:Nat} (h:T=.error c) (H:Sp w0 L w'):AEnd w0 L T (.returned (.tuple #[.slice none 0 0,.int .i64 0,.int .i64 c])) w':=by
 subst h; exact⟨rfl,H⟩
theorem AEnd.yes {w0:World} {T:Except Nat (Nat × List UInt8 × List PI.Blk)} {w' : World} {r:Nat × List UInt8 × List PI.Blk} {vo:Value} {n:Int} (h:T=.ok r) (hn:n=(((r.1+7) / 8:Nat):Int)) (H:Sp w0 (Row 5 1 vo r.2.1.length (cells8 r.2.1)::L) w'):AEnd w0 L T (.returned (.tuple #[vo,.int .i64 n,.int .i64 0])) w':=by
 subst h hn; exact⟨vo,rfl,H⟩
theorem BEnd.no {w0:World} {T:Except Nat (Nat × List UInt8 × List PI.Blk)} {w' : World} {c:Nat} (h:T=.error c) (H:Sp w0 L w'):BEnd w0 L T (.returned (.tuple #[.slice none 0 0,.int .i64 c])) w':=by
 subst h; exact⟨rfl,H⟩
theorem BEnd.yes {w0:World} {T:Except Nat (Nat × List UInt8 × List PI.Blk)} {w' : World} {r:Nat × List UInt8 × List PI.Blk} {vb:Value} (h:T=.ok r) (H:Sp w0 (Row 71 4 vb r.2.2.length (Zc r.2.2)::L) w'):BEnd w0 L T (.returned (.tuple #[vb,.int .i64 0])) w':=by
 subst h; exact⟨vb,rfl,H⟩
theorem YR (v:Value) (l:List UInt8) (most:Nat) (TL TA:Option Addr) (cl ca:Nat) (H:Sp w0 L w) (hb:Ent L fun w=>Byt w v l) (hl:l.length<=100000000) (hm:most<=1000000000) (hT:Ent L (Tabs TL TA cl ca)) :
  Calls Tryd.prog 22 #[v,.int .i64 most] w (AEnd w0 L (PI.all (PBits.ofB l) most)):=by
 have k:=hid (YB v l most TL TA cl ca H hb hl hm hT);clear hT hb;go_enter Tryd.func22,Tryd.ntmps22
 go_wp2_with fail
 refine k.out.mono ?_;intro M b f;unfold XEnd at f;cases hr:PI.all (PBits.ofB l) most with
 | error c =>
  rw [hr] at f;obtain⟨rfl,j⟩:=f;have z:=PI.all_err hr;have N:((c:Int) != 0)=true:=by simp; omega
  have A : ¬ (c:Int)=0:=by omega
  have n:=hid hr;clear hr k z;go_wp2_with fail
  go_ret3
  exact AEnd.no n.out j
 | ok r =>
  rw [hr] at f;obtain⟨u,rfl,j⟩:=f;obtain⟨o,O,P,d⟩:=Wn j;obtain⟨a,p,R⟩:=r;simp only at d;obtain⟨B,C,rfl,D,E⟩:=Row.form d 2 rfl;have g:=(PI.all_pos hr).1;rw [PBits.ofB_length] at g;simp only at g;obtain⟨S,T,F,q,G,I,J⟩:=Zo d;have U:b.cell? ⟨u,0,none⟩=some (.pointer (some ⟨o,0,none⟩)):=d.cell 1 rfl 0;have V:b.cell? ⟨u,1,none⟩=some (.slice B p.length C):=d.cell 1 rfl 1;have n:=hid hr;obtain⟨K,i⟩:=exq ((a+7) / 8);obtain⟨x,s⟩:=exq (a+7);have W:(a:Int)+7=(x:Int):=by omega
  have X:(x:Int) / 8=(K:Int):=by omega
  have t:=hid i;have Q:Hid (∀m:Nat,Calls Tryd.prog 37 #[.pointer (some ⟨o,0,none⟩)] (b.drewN m) fun e w'=>e=.returned (.int .i64 a)/\w'=b.drewN m):=hid fun m=>(VJ o a (w:=b.drewN m) I J).mono fun _ _ h=>⟨h.1,h.2.symm⟩;clear hr k j F q G i s;go_wp2_with fail
  go_quiet ((go_at_call 37; exact Calls.quiet_of_same (Q.out _)))
  have y:=d.drewN nq;generalize b.drewN nq=w7 at y ⊢;go_wp2;go_ret3
  refine AEnd.yes n.out (by rw [<- t.out]) ?_;exact y.pick 4 [2]
theorem YD (v:Value) (l:List UInt8) (most:Nat) (TL TA:Option Addr) (cl ca:Nat) (H:Sp w0 L w) (hb:Ent L fun w=>Byt w v l) (hl:l.length<=100000000) (hm:most<=1000000000) (hT:Ent L (Tabs TL TA cl ca)) :
  Calls Tryd.prog 23 #[v,.int .i64 most] w (BEnd w0 L (PI.all (PBits.ofB l) most)):=by
 have d:=hid (YB v l most TL TA cl ca H hb hl hm hT);clear hT hb;go_enter Tryd.func23,Tryd.ntmps23
 go_wp2_with fail
 refine d.out.mono ?_;intro k g a;unfold XEnd at a;cases hr:PI.all (PBits.ofB l) most with
 | error c =>
  rw [hr] at a;obtain⟨rfl,b⟩:=a;have h:=PI.all_err hr;have m:((c:Int) != 0)=true:=by simp; omega
  have i : ¬ (c:Int)=0:=by omega
  have e:=hid hr;clear hr d h;go_wp2_with fail
  go_ret2;exact BEnd.no e.out b
 | ok r =>
  rw [hr] at a;obtain⟨j,rfl,b⟩:=a;obtain⟨n,o,vb,f⟩:=Wn b;have p:g.cell? ⟨j,3,none⟩=some vb:=f.cell 1 rfl 3;have e:=hid hr;clear hr d b;go_wp2_with fail
  go_ret2;exact BEnd.yes e.out (f.pick 4 [3])
namespace PI
theorem row_a:(all (PBits.ofB [3,0]) 0).toOption.map (fun r=>((r.1+7) / 8,r.2.1))=some (2,[]):=by decide +kernel
theorem row_b:(all (PBits.ofB [1,2,0,253,255,97,98,99]) 2).toOption.map (fun r=>((r.1+7) / 8,r.2.1))=some (7,[97,98]):=by decide +kernel
theorem row_c:(all (PBits.ofB [75,4,0]) 9).toOption.map (fun r=>((r.1+7) / 8,r.2.1))=some (3,[97]):=by decide +kernel
end PI
theorem AEnd.row {w0:World} {T:Except Nat (Nat × List UInt8 × List PI.Blk)} {n:Nat} {o:List UInt8} (h:T.toOption.map (fun r=>((r.1+7) / 8,r.2.1))=some (n,o)) {e:Ending} {w' : World} (k:AEnd w0 L T e w') :
  ∃A c,e=.returned (.tuple #[.slice A o.length c,.int .i64 n,.int .i64 0])/\Sp w0 (Row 5 1 (.slice A o.length c) o.length (cells8 o)::L) w':=by
 cases T with
 | error c=>cases h
 | ok r =>
  have a:((r.1+7) / 8,r.2.1)=(n,o):=Option.some.inj h;injection a with h3 h4
  obtain⟨b,rfl,H⟩:=k;rw [h4] at H;obtain⟨A,c,rfl,_,_⟩:=Row.form H 0 rfl;exact⟨A,c,by rw [h3],H⟩
theorem Wy (TL TA:Option Addr) (cl ca:Nat) (H:Sp w0 L w) (hT:Ent L (Tabs TL TA cl ca)) :
  Calls Tryd.prog 7 #[] w fun e w'=>e=.returned (.bool true)/\Sp w0 L w':=by
 have i:=H.newBk (cells8 [3,0]) 5;have a:=YR (.slice (some ⟨w.heap.size,0,none⟩) 2 2) [3,0] 0 TL TA cl ca i (fun _ _ h=>Byt.of_blk [3,0] (h.blk 0 rfl) (by decide)) (by decide) (by decide) (fun w0 w h=>hT w0 w (h.pick 1 []));have b:=hid a;clear a i;go_enter Tryd.func7,Tryd.ntmps7
 go_wp2_with fail
 refine b.out.mono ?_;intro j m c;obtain⟨t,u,rfl,f⟩:=AEnd.row PI.row_a c;replace f:=f.pick 2 [0];clear b c H;have k:=f.newBk (cells8 [1,2,0,253,255,97,98,99]) 5;have a:=YR (.slice (some ⟨m.heap.size,0,none⟩) 8 8) [1,2,0,253,255,97,98,99] 2 TL TA cl ca k (fun _ _ h=>Byt.of_blk [1,2,0,253,255,97,98,99] (h.blk 0 rfl) (by decide)) (by decide) (by decide) (fun w0 w h=>hT w0 w (h.pick 2 []));have b:=hid a;clear a k;go_wp2_with fail
 refine b.out.mono ?_;intro j n c;obtain⟨o,p,rfl,g⟩:=AEnd.row PI.row_b c;replace g:=g.pick 3 [0,2];clear b c f;have l:=g.newBk (cells8 [75,4,0]) 5;have a:=YR (.slice (some ⟨n.heap.size,0,none⟩) 3 3) [75,4,0] 9 TL TA cl ca l (fun _ _ h=>Byt.of_blk [75,4,0] (h.blk 0 rfl) (by decide)) (by decide) (by decide) (fun w0 w h=>hT w0 w (h.pick 3 []));have b:=hid a;clear a l;go_wp2_with fail
 refine b.out.mono ?_;intro j w3 c;obtain⟨q,r,rfl,d⟩:=AEnd.row PI.row_c c;replace d:=d.pick 4 [0,2,3];clear b c g;have v:(convert 25 9 (.slice o 2 p)).run Tryd.prog w3=.ok (.string (strOf [97,98])) w3:=run_str w3 _ _ 5 _ [97,98] Tryd.underlying25 Tryd.underlying5 Tryd.underlying9 (d.row_byt 1 rfl);have x:(convert 25 9 (.slice q 1 r)).run Tryd.prog w3=.ok (.string (strOf [97])) w3:=run_str w3 _ _ 5 _ [97] Tryd.underlying25 Tryd.underlying5 Tryd.underlying9 (d.row_byt 0 rfl);have y:((strOf [97]).toList == [97])=true:=by decide +kernel
 have z:((strOf [97,98]).toList == [97,98])=true:=by decide +kernel
 have s:=d.pick 3 [];clear d;go_wp2_with fail
 go_ret;exact⟨rfl,s⟩
def blC (b:PI.Blk):List Value:=[.int .i64 b.kind,.bool b.last,.int .i64 b.from_,.int .i64 b.to_]
theorem rdBlk {w:World} {A:Option Addr} {l:List PI.Blk} (h:Rd w A (Zc l)) {i:Nat} {b:PI.Blk} (hi:l[i]?=some b):∃ad,A=some ad/\∀j v,(blC b)[j]?=some v->w.cell? ((ad.add (i * 4)).add j)=some v:=by
 have c:i<l.length:=(List.getElem?_eq_some_iff.1 hi).1;have d:Zc l=l.flatMap blC:=rfl;rw [d] at h;obtain⟨ad,e,d⟩:=h (fun h0=>by
  have:=congrArg List.length h0;rw [ZC blC 4 (fun _=>rfl)] at this;simp at this;omega)
 refine⟨ad,e,fun j v hj=>?_⟩;have f:j<4:=(List.getElem?_eq_some_iff.1 hj).1;obtain⟨p,a,g⟩:=ZQ blC 4 (fun _=>rfl) l i j f c;rw [hi] at a;injection a with a
 rw [Go.Addr.add_add];refine d _ _ ?_;rw [g,<- a];exact hj
theorem AEnd.got {w0:World} {T:Except Nat (Nat × List UInt8 × List PI.Blk)} {r:Nat × List UInt8 × List PI.Blk} (h:T=.ok r) {e:Ending} {w' : World} (k:AEnd w0 L T e w') :
  ∃A c,e=.returned (.tuple #[.slice A r.2.1.length c,.int .i64 (((r.1+7) / 8:Nat):Int),.int .i64 0])/\Sp w0 (Row 5 1 (.slice A r.2.1.length c) r.2.1.length (cells8 r.2.1)::L) w':=by
 subst h;obtain⟨a,rfl,H⟩:=k;obtain⟨A,c,rfl,_,_⟩:=Row.form H 0 rfl;exact⟨A,c,rfl,H⟩
theorem AEnd.bad {w0:World} {T:Except Nat (Nat × List UInt8 × List PI.Blk)} {c:Nat} (h:T=.error c) {e:Ending} {w' : World} (k:AEnd w0 L T e w') :
  e=.returned (.tuple #[.slice none 0 0,.int .i64 0,.int .i64 c])/\Sp w0 L w':=by
 subst h; exact k
theorem BEnd.got {w0:World} {T:Except Nat (Nat × List UInt8 × List PI.Blk)} {r:Nat × List UInt8 × List PI.Blk} (h:T=.ok r) {e:Ending} {w' : World} (k:BEnd w0 L T e w') :
  ∃A c,e=.returned (.tuple #[.slice A r.2.2.length c,.int .i64 0])/\Sp w0 (Row 71 4 (.slice A r.2.2.length c) r.2.2.length (Zc r.2.2)::L) w':=by
 subst h;obtain⟨a,rfl,H⟩:=k;obtain⟨A,c,rfl,_,_⟩:=Row.form H 0 rfl;exact⟨A,c,rfl,H⟩
theorem ZJ {M:List Pr} {A:Option Addr} {n c:Nat} {e:TypeId} {l:List UInt8} (H:Sp w0 M w) (k:Nat) (hk:M[k]?=some (Row e 1 (.slice A n c) n (cells8 l))) (hn:n=l.length):Byt w (.slice A n c) l:=by
 subst hn;exact H.row_byt k hk
theorem XT {W:World} {A:Option Addr} {ps:List PartV} (h:Rd W A (ps.flatMap PartV.cells)) (hok:∀x ∈ ps,x.Ok W):Ent [Same W] fun w=>Rd w A (ps.flatMap PartV.cells)/\∀x ∈ ps,x.Ok w :=
 Ent.of_same 0 rfl fun _ hs=>⟨h.keep fun p _ _ hp=>World.cell?_of_block (hs p.block (Zz hp)),fun x hx=>(hok x hx).keep hs⟩
theorem Wz {W:World} {TL TA:Option Addr} {cl ca:Nat} (h:Tabs TL TA cl ca W):Ent [Same W] (Tabs TL TA cl ca):=Ent.of_same 0 rfl fun _ hs=>h.heap hs
theorem rowRd9 {M:List Pr} {A:Option Addr} {n c z:Nat} {e:TypeId} {xs:List Value} (H:Sp w0 M w) (k:Nat) (hk:M[k]?=some (Row e z (.slice A n c) n xs)):Rd w A xs:=by
 obtain⟨b,d,a,h,_⟩:=H.row_rd k hk;injection a with a
 subst a;exact h
theorem BEnd.bad9 {w0:World} {T:Except Nat (Nat × List UInt8 × List PI.Blk)} {c:Nat} (h:T=.error c) {e:Ending} {w' : World} (k:BEnd w0 L T e w'):e=.returned (.tuple #[.slice none 0 0,.int .i64 c])/\Sp w0 L w':=by
 subst h; exact k
theorem WU (AA:Option Addr) (n c:Nat) (B:List UInt8) (most:Nat) (TL TA:Option Addr) (cl ca:Nat) (H:Sp w0 L w) (hT:Ent L (Tabs TL TA cl ca)) (hn:n=B.length) (hnm:n<=1000000) (hm:most<=1000000) (hb:Ent L fun w=>Byt w (.slice AA n c) B) :
  Calls Tryd.prog 6 #[.slice AA n c,.int .i64 most] w fun e w'=>e=.returned (.bool true)/\Sp w0 L w':=by
 obtain⟨i8,hj,a2,a3,a4⟩:=info_parts info8;have HT:=hid hT;have p:=hid hn;have HB:=hid hb;have k:=hid (H.rowNil 5 1);have P:=hid (Xu (hb _ _ H));have a5:Hid ((cells8 B).length=n):=hid (by unfold cells8; rw [List.length_map,hn]);clear hT hn hb H;go_enter Tryd.func6,Tryd.ntmps6
 go_wp2_with (at_builtin; refine wpList_append_sp rfl _ _ 25 rfl 5 i8 (.int .u8 0) 1 1 Tryd.underlying25 hj a2 a3 a4 rfl (by decide) (.slice none 0 0) 0 [] rfl k.out AA n c (cells8 B) rfl (by rw [a5.out,Nat.mul_one]) P.out (Zr _) (by unfold maxLen; omega) (by omega) ?_)
 intro v3 w3 H3 _;obtain⟨Q,R,rfl,_,_⟩:=Row.form H3 0 rfl;obtain⟨T,I⟩:=exq (PI.all (PBits.ofB B) most);have f:=YR (.slice Q n R) B most TL TA cl ca H3 (fun w0 w h=>ZJ h 0 rfl p.out) (by rw [<- p.out]; omega) (by omega) (fun w0 w h=>HT.out w0 w h.tail);rw [I] at f;replace f:=hid f;have j:=hid I;clear k P H3 I;go_wp2_with fail
 refine f.out.mono ?_;intro e9 w4 y;clear f;cases T with
 | error er =>
  have b1:=PI.all_err j.out;obtain⟨rfl,J⟩:=AEnd.bad rfl y;have f:=YD (.slice Q n R) B most TL TA cl ca J (fun w0 w h=>ZJ h 0 rfl p.out) (by rw [<- p.out]; omega) (by omega) (fun w0 w h=>HT.out w0 w h.tail);rw [j.out] at f;replace f:=hid f;clear y J;go_wp2_with fail
  refine f.out.mono ?_;intro e9 w5 y;obtain⟨rfl,E⟩:=BEnd.bad9 rfl y;have s:=Wo AA n c B most E p.out hnm hm (fun w0 w h=>HB.out _ _ h.tail);rw [j.out] at s;replace s:=hid s;clear f y E;go_wp2_with fail
  refine s.out.mono ?_;rintro _ w6 ⟨g,rfl,b2,a,o,BV,N⟩;obtain⟨S,U,d,_,_⟩:=sm_open N;have c5:w6.cell? ⟨g,5,none⟩=some (.int .i64 er):=d.cell 0 rfl 5;have s1:(convert 25 9 (.slice Q n R)).run Tryd.prog w6=.ok (.string (strOf B)) w6:=run_str w6 _ _ 5 _ B Tryd.underlying25 Tryd.underlying5 Tryd.underlying9 (ZJ d 2 rfl p.out);have s2:(convert 25 9 (.slice AA n c)).run Tryd.prog w6=.ok (.string (strOf B)) w6:=run_str w6 _ _ 5 _ B Tryd.underlying25 Tryd.underlying5 Tryd.underlying9 (HB.out _ _ (d.pick 3 []));have k1:((er:Int) != 0)=true:=by simp; omega
  have k2:¬ (er:Int)=0:=by omega
  obtain⟨so,t⟩:=exq (strOf B);rw [t] at s1 s2;have k:=hid (d.pick 3 []);clear t s N d j;go_wp2_with fail
  go_ret;exact⟨rfl,k.out⟩
 | ok r =>
  obtain⟨A6,c6,V,J⟩:=AEnd.got rfl y;obtain⟨u,o,l⟩:=r;simp only at V J;subst V;have f:=YD (.slice Q n R) B most TL TA cl ca J (fun w0 w h=>ZJ h 1 rfl p.out) (by rw [<- p.out]; omega) (by omega) (fun w0 w h=>HT.out w0 w h.tail2);rw [j.out] at f;replace f:=hid f;have F:=PI.all_pos j.out;rw [PBits.ofB_length,<- p.out] at F;obtain⟨a6,W⟩:=F;simp only at a6 W;obtain⟨us,X⟩:=exq ((u+7) / 8);rw [X];obtain⟨O,z⟩:=exq o.length;rw [z] at J W;simp only [z];have A:=hid z;clear y J z;go_wp2_with fail
  refine f.out.mono ?_;intro e9 w5 y;obtain⟨A8,c8,Y,E⟩:=BEnd.got rfl y;simp only at Y E;subst Y;obtain⟨m,C⟩:=exq l.length;rw [C] at E;simp only [C];have K:=hid C;rw [A.out] at E;have s:=Wo AA n c B most E p.out hnm hm (fun w0 w h=>HB.out _ _ (h.pick 3 []));rw [j.out] at s;replace s:=hid s;clear f y E C;go_wp2_with fail
  refine s.out.mono ?_;rintro _ w6 ⟨g,rfl,BV,N⟩;simp only at N;obtain⟨S,U,d,_,_⟩:=sm_open N;rw [A.out,K.out] at d;obtain⟨BA,bc,rfl,a8,a9⟩:=Row.form d 2 rfl;have b3:m<=9223372036854775807:=Nat.le_trans a8 a9;have c5:w6.cell? ⟨g,5,none⟩=some (.int .i64 0):=d.cell 0 rfl 5;have c1:w6.cell? ⟨g,1,none⟩=some (.int .i64 u):=d.cell 0 rfl 1;have c2:w6.cell? ⟨g,2,none⟩=some (.slice S O U):=d.cell 0 rfl 2;have c4:w6.cell? ⟨g,4,none⟩=some (.slice BA m bc):=d.cell 0 rfl 4;have s1:(convert 25 9 (.slice Q n R)).run Tryd.prog w6=.ok (.string (strOf B)) w6:=run_str w6 _ _ 5 _ B Tryd.underlying25 Tryd.underlying5 Tryd.underlying9 (ZJ d 5 rfl p.out);have s2:(convert 25 9 (.slice AA n c)).run Tryd.prog w6=.ok (.string (strOf B)) w6:=run_str w6 _ _ 5 _ B Tryd.underlying25 Tryd.underlying5 Tryd.underlying9 (HB.out _ _ (d.pick 6 []));have s3:∀q,(convert 25 9 (.slice A6 O c6)).run Tryd.prog (w6.drewN q)=.ok (.string (strOf o)) (w6.drewN q):=fun q=>run_str _ _ _ 5 _ o Tryd.underlying25 Tryd.underlying5 Tryd.underlying9 (ZJ (d.drewN q) 4 rfl A.out.symm);have s4:∀q,(convert 25 9 (.slice S O U)).run Tryd.prog (w6.drewN q)=.ok (.string (strOf o)) (w6.drewN q):=fun q=>run_str _ _ _ 5 _ o Tryd.underlying25 Tryd.underlying5 Tryd.underlying9 (ZJ (d.drewN q) 1 rfl A.out.symm);obtain⟨so,t⟩:=exq (strOf B);obtain⟨sp,Z⟩:=exq (strOf o);rw [t] at s1 s2;rw [Z] at s3 s4;obtain⟨a7,b0⟩:=exq (u+7);have y1:(u:Int)+7=(a7:Int):=by omega
  have y2:(a7:Int) / 8=(us:Int):=by omega
  have k:=hid d;clear t Z s N d j b0 X;go_wp2_with fail
  go_quiet (fail)
  have d:=k.out.drewN nq;generalize w6.drewN nq=w7 at d ⊢;clear k s1 s2 s3 s4 c1 c2 c4 c5 y1 y2;have k:=hid d;clear d;go_wp2_with fail
  go_loopw [12] (fun iv wr=>∃i:Nat,iv=.int .i64 i/\i<=m/\Sp w0 (SmB g (.slice AA n c) u (.slice S O U) most (.slice BA m bc) 0::Row 5 1 (.slice S O U) O (cells8 o)::Row 70 4 (.slice BA m bc) m (Zc l)::Row 71 4 (.slice A8 m c8) m (Zc l)::L) wr) (fun iv _=>m - (intOf iv).toNat)
  case atStart=>exact⟨0,rfl,Nat.zero_le _,k.out.pick 6 [0,1,2,3]⟩
  case round =>
   clear k;obtain⟨i,rfl,b4,d⟩:=hrel;by_cases a0:i<m
   ·have k1:(i:Int)<(m:Int):=by omega
    have D:l[i]?=some (l[i]'(by rw [K.out]; exact a0)):=List.getElem?_eq_getElem _;obtain⟨⟨bk,bl,bf,bt⟩,a1⟩:∃b,l[i]'(by rw [K.out]; exact a0)=b:=⟨_,rfl⟩;rw [a1] at D;obtain⟨M,rfl,v⟩:=rdBlk (rowRd9 d 3 rfl) D;obtain⟨G,rfl,x⟩:=rdBlk (rowRd9 d 2 rfl) D;have p0:wr.cell? (M.add (i * 4))=some (.int .i64 bk):=by have:=v 0 _ rfl; rwa [Go.Addr.add_add,Nat.add_zero] at this
    have p1:wr.cell? ⟨(M.add (i * 4)).block,(M.add (i * 4)).off+1,none⟩=some (.bool bl):=v 1 _ rfl;have p2:wr.cell? ⟨(M.add (i * 4)).block,(M.add (i * 4)).off+2,none⟩=some (.int .i64 bf):=v 2 _ rfl;have p3:wr.cell? ⟨(M.add (i * 4)).block,(M.add (i * 4)).off+3,none⟩=some (.int .i64 bt):=v 3 _ rfl;have q0:wr.cell? (G.add (i * 4))=some (.int .i64 bk):=by have:=x 0 _ rfl; rwa [Go.Addr.add_add,Nat.add_zero] at this
    have q1:wr.cell? ⟨(G.add (i * 4)).block,(G.add (i * 4)).off+1,none⟩=some (.bool bl):=x 1 _ rfl;have q2:wr.cell? ⟨(G.add (i * 4)).block,(G.add (i * 4)).off+2,none⟩=some (.int .i64 bf):=x 2 _ rfl;have q3:wr.cell? ⟨(G.add (i * 4)).block,(G.add (i * 4)).off+3,none⟩=some (.int .i64 bt):=x 3 _ rfl;have c4:wr.cell? ⟨g,4,none⟩=some (.slice (some G) m bc):=d.cell 0 rfl 4;have k:=hid d;clear d v x D a1;go_wp2_with fail
    go_quiet (fail)
    have H8:=k.out.drewN nq;generalize wr.drewN nq=w8 at H8 ⊢;clear k p0 p1 p2 p3 q0 q1 q2 q3 c4;go_wp2_with fail
    go_roundw
    case rel=>exact⟨i+1,by go_num,by omega,H8⟩
    case measure=>first | (simp [intOf]; omega) | simp [intOf]
   ·have k1:¬ (i:Int)<(m:Int):=by omega
    have k:=hid (d.pick 4 []);clear d;go_wp2_with fail
    go_ret;exact⟨rfl,k.out⟩
end Go.Proofs.YteajimobgkempaaDoor

