/- A pack. -/
import Derived.Test.YtnjpnmpemhldcaaGreatDoorPk50
set_option linter.all false
set_option maxRecDepth 100000
set_option maxHeartbeats 8000000
namespace Go.Proofs.YtnjpnmpemhldcaaGreatDoor
variable {w0 w:World} {L:List Pr}
open Go.RowKit Go.Deep
namespace PG
theorem loop_go {B:List UInt8} {most f a:Nat} {out:List UInt8} {sp:List Sp4} (h:a<B.length∨a=0):loop B most (f+1) a out sp=match get (B.drop a) (most - out.length) with
   | .error e=>.error e
   | .ok r=>loop B most f (a+r.2.2) (out++r.2.1) (sp++[(a,a+r.2.2,out.length,out.length+r.2.1.length)]):=by
 show(if a<B.length∨a=0 then _ else _)=_;rw [if_pos h] <;> rfl
theorem loop_end {B:List UInt8} {most f a:Nat} {out:List UInt8} {sp:List Sp4} (h:¬ (a<B.length∨a=0)):loop B most (f+1) a out sp=.ok (out,sp):=by
 show(if a<B.length∨a=0 then _ else _)=_;rw [if_neg h]
end PG
def spC (x:PG.Sp4):List Value:=[.int .i64 x.1,.int .i64 x.2.1,.int .i64 x.2.2.1,.int .i64 x.2.2.2]
def spV (l:List PG.Sp4):List Value:=l.flatMap spC
theorem TY (l:List PG.Sp4) (x:PG.Sp4):spV (l++[x])=spV l++spC x:=by unfold spV; simp
theorem TZ (l:List PG.Sp4):(spV l).length=l.length * 4:=Xz spC 4 (fun _=>rfl) l
theorem T0 (x:PG.Sp4):∀u ∈ spC x,u.oneCell'=true:=by
 intro u a;simp only [spC,List.mem_cons,List.not_mem_nil,or_false] at a;rcases a with rfl | rfl | rfl | rfl <;> rfl
theorem infoSpan:(Tryz.prog.info? 44).map (fun i=>(i.zero,i.size,i.bytes))=some (some (.agg #[.int .i64 0,.int .i64 0,.int .i64 0,.int .i64 0]),4,32):=by kernel_rfl
def LEnd (w0:World) (L:List Pr) (T:Except Nat (List UInt8 × List PG.Sp4)) (e:Ending) (w' : World):Prop :=
 match T with
 | .error c=>e=.returned (.tuple #[.slice none 0 0,.slice none 0 0,.int .i64 c])/\Sp w0 L w'
 | .ok r=>∃A ca S cs,e=.returned (.tuple #[.slice A r.1.length ca,.slice S r.2.length cs,.int .i64 0])/\Sp w0 (Row 5 1 (.slice A r.1.length ca) r.1.length (cells8 r.1)::Row 44 4 (.slice S r.2.length cs) r.2.length (spV r.2)::L) w'
theorem LEnd.no {w0:World} {T:Except Nat (List UInt8 × List PG.Sp4)} {c:Nat} (h:T=.error c) {w' : World} (H:Sp w0 L w'):LEnd w0 L T (.returned (.tuple #[.slice none 0 0,.slice none 0 0,.int .i64 c])) w':=by
 subst h; exact⟨rfl,H⟩
theorem LEnd.yes {w0:World} {T:Except Nat (List UInt8 × List PG.Sp4)} {out:List UInt8} {sp:List PG.Sp4} {A S:Option Addr} {on oc sn sc:Nat} (h:T=.ok (out,sp)) (ho:out.length=on) (hs:sp.length=sn) {w' : World} (H:Sp w0 (Row 5 1 (.slice A on oc) on (cells8 out)::Row 44 4 (.slice S sn sc) sn (spV sp)::L) w'):LEnd w0 L T (.returned (.tuple #[.slice A on oc,.slice S sn sc,.int .i64 0])) w':=by
 subst h ho hs; exact⟨A,oc,S,sc,rfl,H⟩
theorem Uf (BA:Option Addr) (n c:Nat) (B:List UInt8) (most:Nat) {TL TA:Option Addr} {cl ca:Nat} (H:Sp w0 L w) (hb:Ent L fun w=>Byt w (.slice BA n c) B) (hct:Ent L CrcTab) (hT:Ent L (Tabs TL TA cl ca)) (hn:B.length=n) (hnm:n<=100000000) (hm:most<=1000000000) (hcn:n<=c) (hcm:c<=maxLen) :
  Calls Tryz.prog 13 #[.slice BA n c,.int .i64 most] w (LEnd w0 L (PG.all B most)):=by
 obtain⟨i0,hi,a0,a1,a3⟩:=info_parts info8;obtain⟨j0,gi,a4,a5,a6⟩:=info_parts infoSpan;obtain⟨T,m⟩:=exq (PG.all B most);rw [m];have h0:PG.loop B most (n+2) 0 [] []=T:=by rw [<- m,<- hn]; rfl
 have F:=hid h0;have HB:=hid hb;have G:=hid hct;have I:=hid hT;have J:=hid hn;have K:=hid hcm;have HX:=hid ((H.rowNil 44 4).rowNil 5 1);clear m h0 hb hct hT hn hcm H;have k0:¬ (most:Int)<0:=by omega
 go_enter Tryz.func13,Tryz.ntmps13
 go_wp2_with fail
 clear k0;go_loopw [4,5,7] (fun ov sv av wr=>∃(a f on oc sn sc:Nat) (out:List UInt8) (sp:List PG.Sp4) (A S:Option Addr),av=.int .i64 a/\ov=.slice A on oc/\sv=.slice S sn sc/\out.length=on/\sp.length=sn/\a<=n/\on<=most/\sn<=a/\n<a+f/\PG.loop B most f a out sp=T/\Sp w0 (Row 5 1 (.slice A on oc) on (cells8 out)::Row 44 4 (.slice S sn sc) sn (spV sp)::L) wr) (fun _ _ av _=>n+1 - (intOf av).toNat)
 case atStart=>exact⟨0,n+2,0,0,0,0,[],[],none,none,rfl,rfl,rfl,rfl,rfl,Nat.zero_le _,Nat.zero_le _,Nat.le_refl _,by omega,F.out,HX.out⟩
 case round =>
  obtain⟨a,f,on,oc,sn,sc,out,sp,A,S,rfl,rfl,rfl,j,o,a7,b3,b4,hf,hT,C⟩:=hrel;clear HX F;obtain⟨f,rfl⟩:∃g,f=g+1:=⟨f - 1,by omega⟩;have M:=hid j;have N:=hid o;have HF:=hid hf;by_cases b:a<n∨a=0
  ·rw [PG.loop_go (by rw [J.out]; exact b),j] at hT;have D:=hid hT;have y1:(most:Int) - (on:Int)=((most - on:Nat):Int):=by omega
   have y2:¬ (on:Int) > (most:Int):=by omega
   have y3:(a:Int)<=(n:Int):=by omega
   have y4:(n:Int)<=(c:Int):=by omega
   clear hT j o hf;by_cases b5:a<n
   ·have k1:(a:Int)<(n:Int):=by omega
    have E:=hid (Yn (subZ BA c a 1) (n - a) (c - a) (B.drop a) (most - on) C (fun _ _ q=>(HB.out _ _ q.tail2).dropZ a a7) (fun _ _ q=>G.out _ _ q.tail2) (fun _ _ q=>I.out _ _ q.tail2) (by rw [List.length_drop,J.out]) (by omega) (by omega) (by omega) (by have:=K.out; omega));have b2:¬ (c:Int)=(a:Int):=by omega
    have Z:Value.slice (subZ BA c a 1) (n - a) (c - a)=.slice (BA.map (·.add a)) (n - a) (c - a):=by unfold subZ; rw [if_neg (by omega),Nat.mul_one]
    rw [Z] at E;clear Z b C;go_wp2_with fail
    refine E.out.mono ?_;intro Z w1 p;clear E;cases hr:PG.get (B.drop a) (most - on) with
    | error z =>
     obtain⟨rfl,k⟩:=GEnd.bad hr p;have hz:=PG.get_err hr;have y9:¬ (z:Int)=0:=by omega
     have d:T=.error z:=by rw [<- D.out,hr]
     clear hr hz;have e:=hid (k.newBk [.int .u8 0,.int .u8 0,.int .u8 0,.int .u32 0,.slice none 0 0,.string ⟨#[]⟩,.string ⟨#[]⟩] 28);have s:=hid d;clear d p k;go_wp2_with fail
     go_ret3
     exact LEnd.no s.out (e.out.pick 3 [])
    | ok r =>
     obtain⟨t,h,u⟩:=r;obtain⟨PA,pe,OA,oe,rfl,k⟩:=GEnd.got hr p;obtain⟨a8,O,P⟩:=PG.get_used hr;rw [List.length_drop,J.out] at O;obtain⟨pn,v⟩:=exq h.length;have i:=D.out;rw [hr] at i;simp only [v] at k i P ⊢;obtain⟨a2,Q⟩:=exq (a+u);obtain⟨l,x⟩:=exq (on+pn);rw [Q,x] at i;have y5:(a:Int)+(u:Int)=(a2:Int):=by omega
     have y6:(on:Int)+(pn:Int)=(l:Int):=by omega
     have R:a2<=n:=by omega
     have U:l<=most:=by omega
     have b6:a<a2:=by omega
     have V:sn+1<=a2:=by omega
     have W:=hid v;have a9:=hid i;have y:=hid x;have b0:=hid (show n<a2+f by have:=HF.out; omega);have e:=k.newBk [.int .u8 t.flags.toNat,.int .u8 t.level.toNat,.int .u8 t.system.toNat,.int .u32 t.time,.slice PA t.extra.length pe,.string (strOf t.name),.string (strOf t.note)] 28;replace e:=hid (e.pick 5 [4,3,1]);clear hr p k D i v Q x a8 O P;go_upto_region 8 with (fail)
     replace e:=e.out;generalize World.alloc _ _=w2 at e ⊢;have b1:w2.heap.size=w2.heap.size:=rfl;have X:Rd (w2.alloc (.cells #[.int .i64 a,.int .i64 a2,.int .i64 on,.int .i64 l] 44)) (some ⟨w2.heap.size,0,none⟩) (spC (a,a2,on,l)):=Rd.of_blk (Blk.new w2 44 [.int .i64 a,.int .i64 a2,.int .i64 on,.int .i64 l]);have Y:=hid X;have H9:=hid (e.alloc (.cells #[.int .i64 a,.int .i64 a2,.int .i64 on,.int .i64 l] 44));clear X e b1;go_wp2_with (at_builtin; refine Za rfl _ _ 39 rfl 44 j0 (.agg #[.int .i64 0,.int .i64 0,.int .i64 0,.int .i64 0]) 4 32 Tryz.underlying39 gi a4 a5 a6 rfl (by decide) (.slice S sn sc) sn (spV sp) rfl H9.out (some ⟨w2.heap.size,0,none⟩) 1 1 (spC (a,a2,on,l)) rfl rfl Y.out (T0 _) (by unfold maxLen; omega) (by omega) ?_)
     intro v5 w5 H5 _;obtain⟨S5,c5,rfl,_,_⟩:=Row.form H5 0 rfl;have H6:=hid (H5.pick 3 [1,0,2]);clear Y H9 H5;go_wp2_with (at_builtin; refine Za rfl _ _ 23 rfl 5 i0 (.int .u8 0) 1 1 Tryz.underlying23 hi a0 a1 a3 rfl (by decide) (.slice A on oc) on (cells8 out) rfl H6.out OA pn oe (cells8 h) rfl (by rw [Zo,W.out,Nat.mul_one]) (rowRd H6.out 2 rfl) (Zg _) (by unfold maxLen; omega) (by omega) ?_)
     intro v7 w7 H7 _;obtain⟨A7,c7,rfl,_,_⟩:=Row.form H7 0 rfl;have H8:=hid (H7.pick 3 [0,1]);clear H6 H7;go_wp2_with fail
     go_roundw
     case rel =>
      refine⟨a2,f,l,c7,sn+1,c5,out++h,sp++[(a,a2,on,l)],A7,S5,rfl,by rw [y.out],rfl,by rw [List.length_append,M.out,W.out,y.out],by rw [List.length_append,List.length_singleton,N.out],R,U,V,b0.out,a9.out,?_⟩;have:=H8.out;rw [y.out] at this;rw [TY,Zf];exact this
     case measure=>first | (simp [intOf]; omega) | simp [intOf]
   ·obtain⟨rfl,rfl⟩:a=0/\n=0:=by omega
    obtain rfl:B=[]:=List.length_eq_zero_iff.1 J.out;have k1:¬ ((0:Nat):Int)<((0:Nat):Int):=by omega
    have E:=hid (Yn BA 0 c [] (most - on) C (fun _ _ q=>HB.out _ _ q.tail2) (fun _ _ q=>G.out _ _ q.tail2) (fun _ _ q=>I.out _ _ q.tail2) rfl (by omega) (by omega) (by omega) (by have:=K.out; omega));clear b C;go_wp2_with fail
    refine E.out.mono ?_;intro Z w1 p;clear E;obtain⟨rfl,k⟩:=GEnd.bad (PG.get_nil _) p;have d:T=.error 4:=D.out.symm;have e:=hid (k.newBk [.int .u8 0,.int .u8 0,.int .u8 0,.int .u32 0,.slice none 0 0,.string ⟨#[]⟩,.string ⟨#[]⟩] 28);have s:=hid d;clear d p k;go_wp2_with fail
    go_ret3
    exact LEnd.no s.out (e.out.pick 3 [])
  ·have k1:¬ (a:Int)<(n:Int):=by omega
   have k2:¬ (a:Int)=0:=by omega
   rw [PG.loop_end (by rw [J.out]; exact b)] at hT;have D:=hid hT;have HH:=hid C;clear hT C j o hf b;go_wp2_with fail
   go_ret3
   exact LEnd.yes D.out.symm M.out N.out HH.out
def TEnd (w0:World) (L:List Pr) (T:Except Nat (PG.Hd × List UInt8 × Nat)) (e:Ending) (w' : World):Prop :=
 match T with
 | .error c=>e=.returned (.tuple #[.slice none 0 0,.int .i64 0,.int .i64 c])/\Sp w0 L w'
 | .ok r=>∃A ca,e=.returned (.tuple #[.slice A r.2.1.length ca,.int .i64 r.2.2,.int .i64 0])/\Sp w0 (Row 5 1 (.slice A r.2.1.length ca) r.2.1.length (cells8 r.2.1)::L) w'
theorem TEnd.no {w0:World} {T:Except Nat (PG.Hd × List UInt8 × Nat)} {c:Nat} (h:T=.error c) {w' : World} (H:Sp w0 L w'):TEnd w0 L T (.returned (.tuple #[.slice none 0 0,.int .i64 0,.int .i64 c])) w':=by
 subst h; exact⟨rfl,H⟩
theorem TEnd.yes {w0:World} {T:Except Nat (PG.Hd × List UInt8 × Nat)} {hd:PG.Hd} {out:List UInt8} {u:Nat} {A:Option Addr} {ca:Nat} (h:T=.ok (hd,out,u)) {w' : World} (H:Sp w0 (Row 5 1 (.slice A out.length ca) out.length (cells8 out)::L) w'):TEnd w0 L T (.returned (.tuple #[.slice A out.length ca,.int .i64 u,.int .i64 0])) w':=by
 subst h; exact⟨A,ca,rfl,H⟩
theorem Si (BA:Option Addr) (n c:Nat) (B:List UInt8) (a most:Nat) {TL TA:Option Addr} {cl ca:Nat} (H:Sp w0 L w) (hb:Ent L fun w=>Byt w (.slice BA n c) B) (hct:Ent L CrcTab) (hT:Ent L (Tabs TL TA cl ca)) (hn:B.length=n) (hnm:n<=100000000) (hm:most<=1000000000) (hcn:n<=c) (hcm:c<=maxLen) (han:a<=n) :
  Calls Tryz.prog 15 #[.slice BA n c,.int .i64 a,.int .i64 most] w (TEnd w0 L (PG.get (B.drop a) most)):=by
 have i:=hid (Yn (subZ BA c a 1) (n - a) (c - a) (B.drop a) most H (fun _ _ q=>(hb _ _ q).dropZ a han) hct hT (by rw [List.length_drop,hn]) (by omega) hm (by omega) (by omega));have v:¬ (a:Int) > (n:Int):=by omega
 have x:(a:Int)<=(n:Int):=by omega
 have y:(n:Int)<=(c:Int):=by omega
 clear hb hct hT H;go_enter Tryz.func15,Tryz.ntmps15
 by_cases e:c=a
 ·have f:Value.slice (subZ BA c a 1) (n - a) (c - a)=.slice BA 0 0:=by unfold subZ; rw [if_pos e]; congr 1 <;> omega
  rw [f] at i;clear f;subst e;obtain rfl:n=c:=by omega
  go_wp2_with fail
  refine i.out.mono ?_;intro f l d;clear i;cases hr:PG.get (B.drop n) most with
  | error z =>
   obtain⟨rfl,b⟩:=GEnd.bad hr d;have g:=hid b;have h:=hid hr;clear d hr b;go_wp2_with fail
   go_ret3
   exact TEnd.no h.out g.out
  | ok r =>
   obtain⟨m,j,u⟩:=r;obtain⟨o,p,s,t,rfl,b⟩:=GEnd.got hr d;have g:=hid (b.pick 2 [0]);have h:=hid hr;clear d hr b;go_wp2_with fail
   go_ret3
   exact TEnd.yes h.out g.out
 ·have k:¬ (c:Int)=(a:Int):=by omega
  have f:Value.slice (subZ BA c a 1) (n - a) (c - a)=.slice (BA.map (·.add a)) (n - a) (c - a):=by unfold subZ; rw [if_neg e,Nat.mul_one]
  rw [f] at i;clear f;go_wp2_with fail
  refine i.out.mono ?_;intro f l d;clear i;cases hr:PG.get (B.drop a) most with
  | error z =>
   obtain⟨rfl,b⟩:=GEnd.bad hr d;have g:=hid b;have h:=hid hr;clear d hr b;go_wp2_with fail
   go_ret3
   exact TEnd.no h.out g.out
  | ok r =>
   obtain⟨m,j,u⟩:=r;obtain⟨o,p,s,t,rfl,b⟩:=GEnd.got hr d;have g:=hid (b.pick 2 [0]);have h:=hid hr;clear d hr b;go_wp2_with fail
   go_ret3
   exact TEnd.yes h.out g.out
namespace PG
theorem W_append (l m:List Mem):W (l++m)=W l++W m:=List.flatMap_append
theorem O_append (l m:List Mem):O (l++m)=O l++O m:=List.flatMap_append
theorem W_one (x:Mem):W [x]=put x.1 x.2:=by unfold W; simp
theorem O_one (x:Mem):O [x]=x.2:=by unfold O; simp
theorem take_one {α:Type} {l:List α} {i:Nat} {x:α} (h:l[i]?=some x):l.take (i+1)=l.take i++[x]:=by
 obtain⟨a,e⟩:=List.getElem?_eq_some_iff.1 h;rw [List.take_succ_eq_append_getElem a,e]
theorem W_take {l:List Mem} {i:Nat} {x:Mem} (h:l[i]?=some x):W (l.take (i+1))=W (l.take i)++put x.1 x.2:=by rw [take_one h,W_append,W_one]
theorem O_take {l:List Mem} {i:Nat} {x:Mem} (h:l[i]?=some x):O (l.take (i+1))=O (l.take i)++x.2:=by rw [take_one h,O_append,O_one]
theorem W_drop {l:List Mem} {i:Nat} {x:Mem} (h:l[i]?=some x):(W l).drop (W (l.take i)).length=put x.1 x.2++W (l.drop (i+1)):=by
 have e:l=l.take i++(x::l.drop (i+1)):=by
  obtain⟨a,e⟩:=List.getElem?_eq_some_iff.1 h;rw [<- e,<- List.drop_eq_getElem_cons a,List.take_append_drop]
 have b:W l=W (l.take i)++(put x.1 x.2++W (l.drop (i+1))):=by
  rw [<- W_cons,<- W_append,<- e]
 rw [b,List.drop_left]
theorem W_take_le (l:List Mem) (i:Nat):(W (l.take i)).length<=(W l).length:=by
 have:W l=W (l.take i)++W (l.drop i):=by rw [<- W_append,List.take_append_drop]
 rw [this,List.length_append];omega
theorem spans_len:∀(l:List Mem) (a o:Nat),(spans l a o).length=l.length
 | [],_,_=>rfl
 | x::l,a,o=>by
  show(spans l _ _).length+1=l.length+1;rw [spans_len l]
theorem spans_get:∀(l:List Mem) (a o i:Nat) (x:Mem),l[i]?=some x->(spans l a o)[i]?=some (a+(W (l.take i)).length,a+(W (l.take i)).length+(put x.1 x.2).length,o+(O (l.take i)).length,o+(O (l.take i)).length+x.2.length)
 | [],_,_,_,_,h=>by simp at h
 | y::l,a,o,0,x,h=>by
  have:y=x:=by simpa using h
  subst this;rfl
 | y::l,a,o,i+1,x,h=>by
  have b : l[i]?=some x:=by simpa using h
  show(spans l _ _)[i]?=_;rw [spans_get l _ _ i x b,List.take_succ_cons,W_cons,O_cons,List.length_append,List.length_append];simp only [Nat.add_assoc]
theorem get_mid {l:List Mem} (hg:∀x ∈ l,Good x) {i:Nat} {x:Mem} (h:l[i]?=some x) (most:Nat) (hm:x.2.length<=most):get ((W l).drop (W (l.take i)).length) most=.ok (x.1,x.2,(put x.1 x.2).length):=by
 obtain⟨a,b,c⟩:=hg x (List.mem_of_getElem? h);rw [W_drop h];exact get_put x.1 a b x.2 _ most hm c
end PG
open Go.ChangeShapes Go.WideShapes Go.ChangeAt Go.RowKit Go.Deep
structure OneV where
 h:PG.Hd
 B:Option Addr
 n:Nat
 c:Nat
 X:Option Addr
 m:Nat
 d:Nat
 b:List UInt8
instance:Inhabited OneV:=⟨⟨⟨0,0,0,0,[],[],[]⟩,none,0,0,none,0,0,[]⟩⟩
def OneV.cells (x:OneV):List Value:=[.int .u8 x.h.flags.toNat,.int .u8 x.h.level.toNat,.int .u8 x.h.system.toNat,.int .u32 x.h.time,.slice x.B x.n x.c,.string (strOf x.h.name),.string (strOf x.h.note),.slice x.X x.m x.d]
structure OneV.Ok (w:World) (x:OneV):Prop where
 e:x.h.extra.length=x.n
 eb:Byt w (.slice x.B x.n x.c) x.h.extra
 e1:x.n<=x.c
 e2:x.c<=maxLen
 m1:x.h.name.length<=maxLen
 m2:x.h.note.length<=maxLen
 t:x.h.time<4294967296
 b:x.b.length=x.m
 bb:Byt w (.slice x.X x.m x.d) x.b
 b1:x.m<=x.d
 b2:x.d<=maxLen
section
variable {H:Type} {enc:TypeId × Value->H} {P:Program} {w:World} {base:Nat} {held:Bool}
theorem Y8 {t e:TypeId} {n:Nat} {c:Value} {y:DataW H × List MemPlace} (h1:P.underlying t=some (.slice e)) (h1b:P.underlying e=some (.int .u8)) (h1c:P.cellsOf e=1) (h:DataW.trod enc P w base (fun _=>true) held n t [c]=some y):∃A l k bs,c=.slice A l k/\bs.length=l/\Byt w (.slice A l k) bs/\l<=k/\k<=maxLen:=by
 obtain⟨B,o,f,rfl⟩:=cells1 h1 h;obtain⟨a,j,d,g,i,b⟩:=V9 (fun p:Nat=>Value.int .u8 p) (fun p=>p<256) h1 h1c (fun n c y h=>by
  obtain⟨k,d,_,m⟩:=DataW.trod_int h1b h;have b:=bounds_u8 m;obtain⟨q,rfl⟩:=Int.eq_ofNat_of_zero_le b.1;exact⟨q,by simpa using d,by have:=b.2; omega⟩) h
 subst d;refine⟨B,a.length,f,a.map UInt8.ofNat,rfl,by simp,⟨B,f,by simp,?_,by simpa using g,i⟩,g,i⟩;have:cells8 (a.map UInt8.ofNat)=a.map fun p:Nat=>Value.int .u8 p:=by
  unfold cells8;rw [List.map_map];refine List.map_congr_left fun p hp=>?_;have:=b p hp;show Value.int .u8 (((UInt8.ofNat p).toNat:Nat):Int)=_;rw [UInt8.toNat_ofNat',Nat.mod_eq_of_lt (by omega)]
 rw [this];exact j
theorem X7 {t:TypeId} {n:Nat} {c:Value} {y:DataW H × List MemPlace} (h0:P.underlying t=some (.int .u8)) (h:DataW.trod enc P w base (fun _=>true) held n t [c]=some y):∃u:UInt8,c=.int .u8 u.toNat:=by
 obtain⟨a,b,_,e⟩:=DataW.trod_int h0 h;replace b:c=.int .u8 a:=by simpa using b
 subst b;have d:=bounds_u8 e;obtain⟨f,rfl⟩:=Int.eq_ofNat_of_zero_le d.1;have:=d.2;exact⟨UInt8.ofNat f,by rw [UInt8.toNat_ofNat',Nat.mod_eq_of_lt (by omega)]⟩
theorem US {t:TypeId} {n:Nat} {c:Value} {y:DataW H × List MemPlace} (h0:P.underlying t=some (.int .u32)) (h:DataW.trod enc P w base (fun _=>true) held n t [c]=some y):∃u:Nat,c=.int .u32 u/\u<4294967296:=by
 obtain⟨a,b,_,e⟩:=DataW.trod_int h0 h;replace b:c=.int .u32 a:=by simpa using b
 subst b;have d:=bounds_u32 e;obtain⟨f,rfl⟩:=Int.eq_ofNat_of_zero_le d.1;exact⟨f,rfl,by have:=d.2; omega⟩
theorem Wy {t:TypeId} {n:Nat} {c:Value} {y:DataW H × List MemPlace} (h0:P.underlying t=some .string) (h:DataW.trod enc P w base (fun _=>true) held n t [c]=some y):∃s:List UInt8,c=.string (strOf s)/\s.length<=maxLen:=by
 obtain⟨s,a,_,b⟩:=DataW.trod_string h0 h;replace a:c=.string s:=by simpa using a
 exact⟨s.data.toList,a,b⟩
theorem T1 {e eb:TypeId} {f0 f1 f2 f3 f4 f5 f6:Field} (he:P.underlying e=some (.struct #[f0,f1,f2,f3,f4,f5,f6])) (hone:oneCellFields P #[f0,f1,f2,f3,f4,f5,f6]=true) (h0:P.underlying f0.type=some (.int .u8)) (h1:P.underlying f1.type=some (.int .u8)) (h2:P.underlying f2.type=some (.int .u8)) (h3:P.underlying f3.type=some (.int .u32))
  (h4:P.underlying f4.type=some (.slice eb)) (h4b:P.underlying eb=some (.int .u8)) (h4c:P.cellsOf eb=1) (h5:P.underlying f5.type=some .string) (h6:P.underlying f6.type=some .string)
  (n:Nat) (cs:List Value) (y:DataW H × List MemPlace) (hl:cs.length=7) (h:DataW.trod enc P w base (fun _=>true) held n e cs=some y):∃(hd:PG.Hd) (B:Option Addr) (l k:Nat),cs=[.int .u8 hd.flags.toNat,.int .u8 hd.level.toNat,.int .u8 hd.system.toNat,.int .u32 hd.time,.slice B l k,.string (strOf hd.name),.string (strOf hd.note)]/\hd.extra.length=l/\Byt w (.slice B l k) hd.extra/\l<=k/\k<=maxLen/\hd.name.length<=maxLen/\hd.note.length<=maxLen/\hd.time<4294967296:=by
 obtain⟨q,m,_,rfl,_,b,a⟩:=DataW.trod_struct he h
 match cs,hl,q,b with
 | [c0,c1,c2,c3,c4,c5,c6],_,[y0,y1,y2,y3,y4,y5,y6],_ =>
  have d:=a 0 f0 rfl;have f:=a 1 f1 rfl;have g:=a 2 f2 rfl;have i:=a 3 f3 rfl;have j:=a 4 f4 rfl;have o:=a 5 f5 rfl;have p:=a 6 f6 rfl;obtain⟨r,s⟩:=hone_of hone 0 f0 rfl;obtain⟨t,u⟩:=hone_of hone 1 f1 rfl;obtain⟨v,x⟩:=hone_of hone 2 f2 rfl;obtain⟨z,A⟩:=hone_of hone 3 f3 rfl;obtain⟨C,D⟩:=hone_of hone 4 f4 rfl;obtain⟨E,F⟩:=hone_of hone 5 f5 rfl;obtain⟨G,I⟩:=hone_of hone 6 f6 rfl;rw [r,s] at d;rw [t,u] at f;rw [v,x] at g;rw [z,A] at i;rw [C,D] at j;rw [E,F] at o;rw [G,I] at p;obtain⟨J,rfl⟩:=X7 (c:=c0) h0 d;obtain⟨K,rfl⟩:=X7 (c:=c1) h1 f;obtain⟨L,rfl⟩:=X7 (c:=c2) h2 g;obtain⟨M,rfl,N⟩:=US (c:=c3) h3 i;obtain⟨B,l,k,O,rfl,Q,R,S,T⟩:=Y8 (c:=c4) h4 h4b h4c j;obtain⟨U,rfl,V⟩:=Wy (c:=c5) h5 o;obtain⟨W,rfl,X⟩:=Wy (c:=c6) h6 p;exact⟨⟨J,K,L,M,O,U,W⟩,B,l,k,rfl,Q,R,S,T,V,X,N⟩
theorem Sj {e eb:TypeId} {f0 f1 f2 f3 f4 f5 f6 g0 g1:Field} (hE:P.underlying e=some (.struct #[g0,g1])) (o0:g0.offset=0) (k0:P.cellsOf g0.type=7) (o1:g1.offset=7) (k1:P.cellsOf g1.type=1) (he:P.underlying g0.type=some (.struct #[f0,f1,f2,f3,f4,f5,f6])) (hone:oneCellFields P #[f0,f1,f2,f3,f4,f5,f6]=true) (h0:P.underlying f0.type=some (.int .u8)) (h1:P.underlying f1.type=some (.int .u8)) (h2:P.underlying f2.type=some (.int .u8)) (h3:P.underlying f3.type=some (.int .u32))
  (h4:P.underlying f4.type=some (.slice eb)) (h4b:P.underlying eb=some (.int .u8)) (h4c:P.cellsOf eb=1) (h5:P.underlying f5.type=some .string) (h6:P.underlying f6.type=some .string) (h7:P.underlying g1.type=some (.slice eb))
  (n:Nat) (cs:List Value) (y:DataW H × List MemPlace) (hl:cs.length=8) (h:DataW.trod enc P w base (fun _=>true) held n e cs=some y):∃x:OneV,cs=x.cells/\x.Ok w:=by
 obtain⟨o,m,_,rfl,_,a,d⟩:=DataW.trod_struct hE h
 match cs,hl,o,a with
 | [c0,c1,c2,c3,c4,c5,c6,c7],_,[y0,y1],_ =>
  have f:=d 0 g0 rfl;have g:=d 1 g1 rfl;rw [o0,k0] at f;rw [o1,k1] at g;obtain⟨p,B,l,k,b,q,r,s,t,u,v,A⟩:=T1 he hone h0 h1 h2 h3 h4 h4b h4c h5 h6 m [c0,c1,c2,c3,c4,c5,c6] y0 rfl f;obtain⟨X,i,j,C,D,E,F,G,I⟩:=Y8 (c:=c7) h7 h4b h4c g;refine⟨⟨p,B,l,k,X,i,j,C⟩,?_,⟨q,r,s,t,u,v,A,E,F,G,I⟩⟩;subst D;have:=congrArg (fun z=>z++[Value.slice X i j]) b;exact this
end
theorem OneV.Ok.keep {w w' : World} {x:OneV} (h:x.Ok w) (hs:∀b,b<w.heap.size->w'.heap[b]?=w.heap[b]?):x.Ok w' :=
 { h with eb:=h.eb.keep fun p _ hp=>World.cell?_of_block (hs p.block (Zt hp)),bb:=h.bb.keep fun p _ hp=>World.cell?_of_block (hs p.block (Zt hp)) }
end Go.Proofs.YtnjpnmpemhldcaaGreatDoor

