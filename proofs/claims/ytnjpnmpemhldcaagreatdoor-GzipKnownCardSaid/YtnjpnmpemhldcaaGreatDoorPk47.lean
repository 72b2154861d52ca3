/- A pack. -/
import Derived.Deep.Fields
import Derived.Test.YtnjpnmpemhldcaaGreatDoorPk29
import Derived.Test.YtnjpnmpemhldcaaGreatDoorPk46
set_option linter.all false
set_option maxRecDepth 100000
set_option maxHeartbeats 8000000
namespace Go.Proofs.YtnjpnmpemhldcaaGreatDoor
variable {w0 w:World} {L:List Pr}
open Go.RowKit
theorem WV (v:Value) (W:World):(Instr.typeAssert (.iface 32 v) 20 32 true).run Tryz.prog W=.ok (.tuple #[v,.bool true]) W:=by kernel_rfl
theorem WW (px pe c:Nat) (v0 e0:Value) (w:World) (hx:w.cell? ⟨px,0,none⟩=some v0) (zx:w.frozen? ⟨px,0,none⟩=false) (he:(w.setCell ⟨px,0,none⟩ (.pointer none)).cell? ⟨pe,0,none⟩=some e0) (ze:(w.setCell ⟨px,0,none⟩ (.pointer none)).frozen? ⟨pe,0,none⟩=false) :
  CallsD Tryz.prog 99 #[.pointer (some ⟨px,0,none⟩),.pointer (some ⟨pe,0,none⟩)] (.panicking (pan c)) w fun e u' w' =>
   e=.returned (.tuple #[])/\u'=.panicking [{ v:=.iface 32 (.int .i64 c),recovered:=true }]/\w'=(w.setCell ⟨px,0,none⟩ (.pointer none)).setCell ⟨pe,0,none⟩ (.int .i64 c):=by
 refine callsD_of_wpS Tryz.func99 rfl fun c₀ cs hu=>?_;unfold pan at hu;have a:=WV (.int .i64 c);apply wpS_seq;apply wpS_region;simp [wpOpsS,go_sem,recoverD,hu,Tryz.ntmps99,Exit.thenS];refine wpS_of_wp ?_;go_wp2;simp [bodyPostS,results,Tryz.results99]
theorem XZ (px pe:Nat) (w:World) :
  CallsD Tryz.prog 99 #[.pointer (some ⟨px,0,none⟩),.pointer (some ⟨pe,0,none⟩)] .returning w fun e u' w'=>e=.returned (.tuple #[])/\u'=.returning/\w'=w:=by
 refine callsD_of_wpS Tryz.func99 rfl fun c₀ cs hu=>?_;apply wpS_seq;apply wpS_region;simp [wpOpsS,go_sem,recoverD,hu,Tryz.ntmps99,Exit.thenS];refine wpS_of_wp ?_;go_wp2;cases c₀
 simp_all [bodyPostS,results,Tryz.results99]
namespace PI
theorem blocks_step {B:List Bool} {most f a:Nat} {out:List UInt8} {bl:List Blk} : blocks B most (f+1) a out bl=(block B most a out).bind fun r =>
  if r.1 then .ok (r.2.2.1,r.2.2.2,bl++[⟨r.2.1,r.1,out.length,r.2.2.2.length⟩]) else blocks B most f r.2.2.1 r.2.2.2 (bl++[⟨r.2.1,r.1,out.length,r.2.2.2.length⟩]):=rfl
end PI
def Xd (gx:Nat) (l:List UInt8) (most:Nat) (r:Nat × List UInt8 × List PI.Blk):Pr:=Ex fun gr:Nat=>Ex fun vo:Value=>Ex fun vb:Value=>Star (Rr gr l r.1) (Star (XpB gx gr vo most vb) (Star (Row 5 1 vo r.2.1.length (cells8 r.2.1)) (Row 218 4 vb r.2.2.length (Zj r.2.2))))
def XEnd (w0:World) (L:List Pr) (l:List UInt8) (most:Nat) (T:Except Nat (Nat × List UInt8 × List PI.Blk)) (e:Ending) (w' : World):Prop :=
 match T with
 | .error c=>e=.returned (.tuple #[.pointer none,.int .i64 c])/\Sp w0 L w'
 | .ok r=>∃gx,e=.returned (.tuple #[.pointer (some ⟨gx,0,none⟩),.int .i64 0])/\Sp w0 (Xd gx l most r::L) w'
theorem XEnd.no {w0:World} {l:List UInt8} {most:Nat} {T:Except Nat (Nat × List UInt8 × List PI.Blk)} {w' : World} {c:Nat} (h:T=.error c) (H:Sp w0 L w'):XEnd w0 L l most T (.returned (.tuple #[.pointer none,.int .i64 c])) w':=by
 subst h; exact⟨rfl,H⟩
theorem XEnd.yes {w0:World} {l:List UInt8} {most:Nat} {T:Except Nat (Nat × List UInt8 × List PI.Blk)} {w' : World} {r:Nat × List UInt8 × List PI.Blk} {gx:Nat} (h:T=.ok r) (H:Sp w0 (Xd gx l most r::L) w'):XEnd w0 L l most T (.returned (.tuple #[.pointer (some ⟨gx,0,none⟩),.int .i64 0])) w':=by
 subst h; exact⟨gx,rfl,H⟩
theorem WX (v:Value) (l:List UInt8) (most:Nat) (TL TA:Option Addr) (cl ca:Nat) (H:Sp w0 L w) (hb:Ent L fun w=>Byt w v l) (hl:l.length<=100000000) (hm:most<=1000000000) (hT:Ent L (Tabs TL TA cl ca)) :
  Calls Tryz.prog 67 #[v,.int .i64 most] w (XEnd w0 L l most (PI.all (PBits.ofB l) most)):=by
 obtain⟨T,o⟩:=exq (PI.all (PBits.ofB l) most);rw [o];unfold PI.all at o;have u:=hid o;have J:=hid hl;have K:=hid hT;have HM:=hid hm;have a0:∀(fn:Fn) (first cap:Array Value) (w:World),(Instr.makeFunc fn first cap).run Tryz.prog w=.ok (.func fn first cap) w:=fun _ _ _ _=>rfl;have k0:¬ (most:Int)<0:=by omega
 have U:(w.alloc (.cells #[.pointer none] 122)).heap.size=w.heap.size+1:=Array.size_push _;have g:=(H.newBk [.pointer none] 122).newBk [.int .i64 0] 32;rw [U] at g;clear U;have HB:=hid hb;clear o hT hb hm hl;go_enter_defers Tryz.func67,Tryz.ntmps67
 go_wp2_with fail
 generalize w.heap.size+1=pe at g ⊢;generalize w.heap.size=px at g ⊢;generalize (w.alloc _).alloc _=w1 at g ⊢;refine(XE (l:=l) g (HB.out _ _ (g.pick 2 [])) (by have:=J.out; omega)).mono ?_;rintro _ i ⟨_,rfl,n,rfl,d⟩;obtain⟨j,M⟩:=exq i.heap.size;have k:=d.newBk [.pointer (some ⟨n,0,none⟩),.slice none 0 0,.int .i64 most,.slice none 0 0] 128;rw [M] at k;have m:=(k.pick 4 [3,0,1,2]);have c4:(i.alloc (.cells #[.pointer (some ⟨n,0,none⟩),.slice none 0 0,.int .i64 most,.slice none 0 0] 128)).cell? ⟨px,0,none⟩=some (.pointer none):=m.cell 0 rfl 0;have z4:(i.alloc (.cells #[.pointer (some ⟨n,0,none⟩),.slice none 0 0,.int .i64 most,.slice none 0 0] 128)).frozen? ⟨px,0,none⟩=false:=m.frozen 0 rfl 0;have q:=m.set 0 (.pointer (some ⟨j,0,none⟩));have x:=(((q.pick 4 [2,1,0,3]).rowNil 218 4).rowNil 5 1);have V:Sp w0 (Rr n l 0::XpB j n (.slice none 0 0) most (.slice none 0 0)::Row 5 1 (.slice none 0 0) 0 []::Row 218 4 (.slice none 0 0) 0 []::Bk px 122 [.pointer (some ⟨j,0,none⟩)]::Bk pe 32 [.int .i64 0]::L) _:=x.pick 6 [2,3,0,1,4,5];have s:=hid V;clear H g d k m q x V;go_wp2_with fail
 generalize World.setCell _ _ _=w5 at s ⊢;go_loopw [] (fun wr=>∃(a f:Nat) (vo vb:Value) (out:List UInt8) (bl:List PI.Blk),a<=8 * l.length/\8 * l.length<a+f/\out.length<=most/\bl.length<=a/\PI.blocks (PBits.ofB l) most f a out bl=T/\Sp w0 (Rr n l a::XpB j n vo most vb::Row 5 1 vo out.length (cells8 out)::Row 218 4 vb bl.length (Zj bl)::Bk px 122 [.pointer (some ⟨j,0,none⟩)]::Bk pe 32 [.int .i64 0]::L) wr) (fun wr=>8 * l.length+1 - atOf n wr)
 case atStart=>exact⟨0,(PBits.ofB l).length+1,_,_,[],[],Nat.zero_le _,by rw [PBits.ofB_length]; omega,Nat.zero_le _,Nat.zero_le _,u.out,s.out⟩
 case round =>
  obtain⟨a,f,vo,vb,out,bl,N,hf,y,a1,t,g⟩:=hrel;clear s u;obtain⟨f,rfl⟩:∃f',f=f'+1:=⟨f - 1,by omega⟩;rw [PI.blocks_step] at t;have p:=hid t;have HA:Hid (atOf n wr=a):=hid (YL g);have W:=VZ j n l out bl most a vo vb TL TA cl ca g N J.out y HM.out (by have:=J.out; omega) (fun w0 w h=>K.out w0 w (h.pick 2 []));have O:=hid W;have c1:wr.cell? ⟨px,0,none⟩=some (.pointer (some ⟨j,0,none⟩)):=g.cell 4 rfl 0;clear t W;go_wp2_with fail
  refine O.out.mono ?_;intro e9 i z;unfold XPost at z;cases hr:PI.block (PBits.ofB l) most a out with
  | error c =>
   rw [hr] at z;obtain⟨rfl,d⟩:=z;have F:T=.error c:=by rw [<- p.out,hr]; rfl
   have X:i.cell? ⟨px,0,none⟩=some (.pointer (some ⟨j,0,none⟩)):=d.cell 0 rfl 0;have Y:i.frozen? ⟨px,0,none⟩=false:=d.frozen 0 rfl 0;have k:=(d.set 0 (.pointer none)).swap;have Z:(i.setCell ⟨px,0,none⟩ (.pointer none)).cell? ⟨pe,0,none⟩=some (.int .i64 0):=k.cell 0 rfl 0;have z2:(i.setCell ⟨px,0,none⟩ (.pointer none)).frozen? ⟨pe,0,none⟩=false:=k.frozen 0 rfl 0;have m:=k.set 0 (.int .i64 c);clear hr O p;go_wp2_with fail
   refine leaves_cons (f:=99) (args:=#[.pointer (some ⟨px,0,none⟩),.pointer (some ⟨pe,0,none⟩)]) (by simp) (by simp [go_sem]) ?_;refine(WW px pe c _ _ _ X Y Z z2).mono ?_;rintro e u' P ⟨rfl,rfl,rfl⟩;have A:=m.cell 0 rfl 0;have B:=m.cell 1 rfl 0;generalize World.setCell _ _ _=w9 at m A B ⊢;simp [Leaves,settle,results,Tryz.results67,go_sem,A,B];exact XEnd.no F m.tail2
  | ok r =>
   obtain⟨G,C,I,b⟩:=r;rw [hr] at z;obtain⟨rfl,D,E,d⟩:=z;obtain⟨q1,Q,q3,q4⟩:=PI.block_ok y hr;rw [PBits.ofB_length] at Q;have F:Hid ((if G=true then .ok (I,b,bl++[⟨C,G,out.length,b.length⟩]) else PI.blocks (PBits.ofB l) most f I b (bl++[⟨C,G,out.length,b.length⟩]))=T):=by rw [<- p.out,hr]; exact hid rfl
   simp only at d q1 Q q3 q4;clear hr O p g c1;cases G with
   | false =>
    go_wp2_with fail
    go_roundw
    case rel =>
     refine⟨I,f,D,E,b,bl++[⟨C,false,out.length,b.length⟩],Q,by omega,q3,by rw [List.length_append,List.length_singleton]; omega,by have h:=F.out; rw [if_neg (by decide)] at h; exact h,?_⟩;rw [List.length_append,List.length_singleton];exact d
    case measure =>
     have:=YL d;rw [this,HA.out];omega
   | true =>
    have R:T=.ok (I,b,bl++[⟨C,true,out.length,b.length⟩]):=by have h:=F.out; rw [if_pos rfl] at h; exact h.symm
    have X:i.cell? ⟨px,0,none⟩=some (.pointer (some ⟨j,0,none⟩)):=d.cell 4 rfl 0;have Y:i.frozen? ⟨px,0,none⟩=false:=d.frozen 4 rfl 0;have k:=((d.pick 6 [4,5,0,1,2,3]).set 0 (.pointer (some ⟨j,0,none⟩))).swap;have Z:(i.setCell ⟨px,0,none⟩ (.pointer (some ⟨j,0,none⟩))).cell? ⟨pe,0,none⟩=some (.int .i64 0):=k.cell 0 rfl 0;have z2:(i.setCell ⟨px,0,none⟩ (.pointer (some ⟨j,0,none⟩))).frozen? ⟨pe,0,none⟩=false:=k.frozen 0 rfl 0;have m:=k.set 0 (.int .i64 0);have S:=hid m;clear d k m;go_wp2_with fail
    refine leaves_cons (f:=99) (args:=#[.pointer (some ⟨px,0,none⟩),.pointer (some ⟨pe,0,none⟩)]) (by simp) (by simp [go_sem]) ?_;refine(XZ px pe _).mono ?_;rintro e u' P ⟨rfl,rfl,rfl⟩;have q:=S.out;have A:=q.cell 0 rfl 0;have B:=q.cell 1 rfl 0;generalize World.setCell _ _ _=w9 at q A B ⊢;simp [Leaves,settle,results,Tryz.results67,go_sem,A,B];have x:=q.pick 6 [2,3,4,5];refine XEnd.yes R ?_;have e:(bl++[⟨C,true,out.length,b.length⟩]:List PI.Blk).length=bl.length+1:=by rw [List.length_append]; rfl
    rw [<- e] at x;exact Sp.ex n (Sp.ex D (Sp.ex E (((x.pick 4 [2,3,0,1]).star.pick 3 [2,0,1]).star.swap.star)))
theorem TJ {gx:Nat} {l:List UInt8} {most:Nat} {r:Nat × List UInt8 × List PI.Blk} (H:Sp w0 (Xd gx l most r::L) w) :
  ∃gr vo vb,Sp w0 (Rr gr l r.1::XpB gx gr vo most vb::Row 5 1 vo r.2.1.length (cells8 r.2.1)::Row 218 4 vb r.2.2.length (Zj r.2.2)::L) w:=by
 obtain⟨gr,H⟩:=H.unex;obtain⟨vo,H⟩:=H.unex;obtain⟨vb,H⟩:=H.unex;exact⟨gr,vo,vb,((H.unstar.swap.unstar.pick 3 [1,0,2]).unstar.pick 4 [3,2,0,1])⟩
def f8 (j:Nat):Nat:=if j<144 then 8 else if j<256 then 9 else if j<280 then 7 else 8
open Go.ChangeShapes Go.WideShapes Go.ChangeAt Go.RowKit Go.Deep
section
variable {H:Type} {enc:TypeId × Value->H} {P:Program} {w:World} {base:Nat} {spare:Nat->Bool} {held:Bool}
end
theorem Rd.same {W:World} {A:Option Addr} {xs:List Value} (h:Rd W A xs) (k:Nat) (hk:L[k]?=some (Same W)):Ent L (fun w=>Rd w A xs) :=
 Ent.of_same k hk fun _ hs=>h.keep fun p _ _ hp=>World.cell?_of_block (hs p.block (Zt hp))
open Go.ChangeShapes Go.WideShapes Go.ChangeAt Go.RowKit Go.Deep
structure PartV where
 p:PI.WPart
 bv:Value
 cv:Value
instance:Inhabited PartV:=⟨⟨⟨0,[],[]⟩,undef,undef⟩⟩
def cellsPr (l:List (Nat × Nat)):List Value:=l.flatMap fun c=>[.int .u16 c.1,.int .u16 c.2]
def PartV.cells (x:PartV):List Value:=[.int .u8 x.p.kind,x.bv,x.cv]
def PartV.Ok (w:World) (x:PartV):Prop:=x.p.kind<256/\Byt w x.bv x.p.bytes/\(∃A c,x.cv=.slice A x.p.copies.length c/\Rd w A (cellsPr x.p.copies)/\x.p.copies.length<=c/\c<=maxLen)/\∀c ∈ x.p.copies,c.1<65536/\c.2<65536
theorem UI {α β:Type} (f:α->List β) (z:Nat) (hf:∀p,(f p).length=z):∀(ps:List α) (i j:Nat),j<z->i<ps.length->∃p,ps[i]?=some p/\(ps.flatMap f)[i * z+j]?=(f p)[j]?:=by
 intro ps;induction ps with
 | nil=>intro i j _ h; cases h
 | cons p ps ih =>
  intro i j a b;rw [List.flatMap_cons];cases i with
  | zero=>exact⟨p,rfl,by rw [Nat.zero_mul,Nat.zero_add,List.getElem?_append_left (by rw [hf]; exact a)]⟩
  | succ i =>
   obtain⟨q,c,d⟩:=ih i j a (by simpa using b);refine⟨q,c,?_⟩;rw [List.getElem?_append_right (by rw [hf,Nat.succ_mul]; omega),hf,show(i+1) * z+j - z=i * z+j by rw [Nat.succ_mul]; omega];exact d
section
variable {H:Type} {enc:TypeId × Value->H} {P:Program} {w:World} {base:Nat} {spare:Nat->Bool} {held:Bool}
end
theorem PartV.Ok.keep {w w' : World} {x:PartV} (h:x.Ok w) (hs:∀b,b<w.heap.size->w'.heap[b]?=w.heap[b]?):x.Ok w':=by
 obtain⟨a,d,⟨A,c,e,f,g⟩,i⟩:=h;exact⟨a,d.keep fun p _ hp=>World.cell?_of_block (hs p.block (Zt hp)),⟨A,c,e,f.keep fun p _ _ hp=>World.cell?_of_block (hs p.block (Zt hp)),g⟩,i⟩
namespace PI
theorem firstsW_len (FF l:List Nat):(firstsW FF l).length=3 * l.length:=by
 unfold firstsW;induction l with
 | nil=>rfl
 | cons x l ih=>rw [List.flatMap_cons,List.length_append,ih,PBits.bitsOf_length,List.length_cons]; omega
end PI
theorem PI.cnts_le (n:Nat) (l:List Nat):∀x ∈ PI.cnts n l,x<=l.length:=fun x hx=>by
 obtain⟨q,a,rfl⟩:=List.mem_map.1 hx;exact List.count_le_length
def AEnd (w0:World) (L:List Pr) (T:Except Nat (Nat × List UInt8 × List PI.Blk)) (e:Ending) (w' : World):Prop :=
 match T with
 | .error c=>e=.returned (.tuple #[.slice none 0 0,.int .i64 0,.int .i64 c])/\Sp w0 L w'
 | .ok r=>∃vo,e=.returned (.tuple #[vo,.int .i64 (((r.1+7) / 8:Nat):Int),.int .i64 0])/\Sp w0 (Row 5 1 vo r.2.1.length (cells8 r.2.1)::L) w'
def BEnd (w0:World) (L:List Pr) (T:Except Nat (Nat × List UInt8 × List PI.Blk)) (e:Ending) (w' : World):Prop :=
 match T with
 | .error c=>e=.returned (.tuple #[.slice none 0 0,.int .i64 c])/\Sp w0 L w'
 | .ok r=>∃vb,e=.returned (.tuple #[vb,.int .i64 0])/\Sp w0 (Row 218 4 vb r.2.2.length (Zj r.2.2)::L) w'
theorem AEnd.no {w0:World} {T:Except Nat (Nat × List UInt8 × List PI.Blk)} {w' : World} {c:Nat} (h:T=.error c) (H:Sp w0 L w'):AEnd w0 L T (.returned (.tuple #[.slice none 0 0,.int .i64 0,.int .i64 c])) w':=by
 subst h; exact⟨rfl,H⟩
theorem AEnd.yes {w0:World} {T:Except Nat (Nat × List UInt8 × List PI.Blk)} {w' : World} {r:Nat × List UInt8 × List PI.Blk} {vo:Value} {n:Int} (h:T=.ok r) (hn:n=(((r.1+7) / 8:Nat):Int)) (H:Sp w0 (Row 5 1 vo r.2.1.length (cells8 r.2.1)::L) w'):AEnd w0 L T (.returned (.tuple #[vo,.int .i64 n,.int .i64 0])) w':=by
 subst h hn; exact⟨vo,rfl,H⟩
theorem BEnd.no {w0:World} {T:Except Nat (Nat × List UInt8 × List PI.Blk)} {w' : World} {c:Nat} (h:T=.error c) (H:Sp w0 L w'):BEnd w0 L T (.returned (.tuple #[.slice none 0 0,.int .i64 c])) w':=by
 subst h; exact⟨rfl,H⟩
theorem BEnd.yes {w0:World} {T:Except Nat (Nat × List UInt8 × List PI.Blk)} {w' : World} {r:Nat × List UInt8 × List PI.Blk} {vb:Value} (h:T=.ok r) (H:Sp w0 (Row 218 4 vb r.2.2.length (Zj r.2.2)::L) w'):BEnd w0 L T (.returned (.tuple #[vb,.int .i64 0])) w':=by
 subst h; exact⟨vb,rfl,H⟩
theorem TK (v:Value) (l:List UInt8) (most:Nat) (TL TA:Option Addr) (cl ca:Nat) (H:Sp w0 L w) (hb:Ent L fun w=>Byt w v l) (hl:l.length<=100000000) (hm:most<=1000000000) (hT:Ent L (Tabs TL TA cl ca)) :
  Calls Tryz.prog 39 #[v,.int .i64 most] w (AEnd w0 L (PI.all (PBits.ofB l) most)):=by
 have k:=hid (WX v l most TL TA cl ca H hb hl hm hT);clear hT hb;go_enter Tryz.func39,Tryz.ntmps39
 go_wp2_with fail
 refine k.out.mono ?_;intro M b f;unfold XEnd at f;cases hr:PI.all (PBits.ofB l) most with
 | error c =>
  rw [hr] at f;obtain⟨rfl,j⟩:=f;have z:=PI.all_err hr;have N:((c:Int) != 0)=true:=by simp; omega
  have A : ¬ (c:Int)=0:=by omega
  have n:=hid hr;clear hr k z;go_wp2_with fail
  go_ret3
  exact AEnd.no n.out j
 | ok r =>
  rw [hr] at f;obtain⟨u,rfl,j⟩:=f;obtain⟨o,O,P,d⟩:=TJ j;obtain⟨a,p,R⟩:=r;simp only at d;obtain⟨B,C,rfl,D,E⟩:=Row.form d 2 rfl;have g:=(PI.all_pos hr).1;rw [PBits.ofB_length] at g;simp only at g;obtain⟨S,T,F,q,G,I,J⟩:=ZA d;have U:b.cell? ⟨u,0,none⟩=some (.pointer (some ⟨o,0,none⟩)):=d.cell 1 rfl 0;have V:b.cell? ⟨u,1,none⟩=some (.slice B p.length C):=d.cell 1 rfl 1;have n:=hid hr;obtain⟨K,i⟩:=exq ((a+7) / 8);obtain⟨x,s⟩:=exq (a+7);have W:(a:Int)+7=(x:Int):=by omega
  have X:(x:Int) / 8=(K:Int):=by omega
  have t:=hid i;have Q:Hid (∀m:Nat,Calls Tryz.prog 68 #[.pointer (some ⟨o,0,none⟩)] (b.drewN m) fun e w'=>e=.returned (.int .i64 a)/\w'=b.drewN m):=hid fun m=>(T7 o a (w:=b.drewN m) I J).mono fun _ _ h=>⟨h.1,h.2.symm⟩;clear hr k j F q G i s;go_wp2_with fail
  go_quiet ((go_at_call 68; exact Calls.quiet_of_same (Q.out _)))
  have y:=d.drewN nq;generalize b.drewN nq=w7 at y ⊢;go_wp2;go_ret3
  refine AEnd.yes n.out (by rw [<- t.out]) ?_;exact y.pick 4 [2]
namespace PI
end PI
theorem AEnd.row {w0:World} {T:Except Nat (Nat × List UInt8 × List PI.Blk)} {n:Nat} {o:List UInt8} (h:T.toOption.map (fun r=>((r.1+7) / 8,r.2.1))=some (n,o)) {e:Ending} {w' : World} (k:AEnd w0 L T e w') :
  ∃A c,e=.returned (.tuple #[.slice A o.length c,.int .i64 n,.int .i64 0])/\Sp w0 (Row 5 1 (.slice A o.length c) o.length (cells8 o)::L) w':=by
 cases T with
 | error c=>cases h
 | ok r =>
  have a:((r.1+7) / 8,r.2.1)=(n,o):=Option.some.inj h;injection a with h3 h4
  obtain⟨b,rfl,H⟩:=k;rw [h4] at H;obtain⟨A,c,rfl,_,_⟩:=Row.form H 0 rfl;exact⟨A,c,by rw [h3],H⟩
theorem AEnd.got {w0:World} {T:Except Nat (Nat × List UInt8 × List PI.Blk)} {r:Nat × List UInt8 × List PI.Blk} (h:T=.ok r) {e:Ending} {w' : World} (k:AEnd w0 L T e w') :
  ∃A c,e=.returned (.tuple #[.slice A r.2.1.length c,.int .i64 (((r.1+7) / 8:Nat):Int),.int .i64 0])/\Sp w0 (Row 5 1 (.slice A r.2.1.length c) r.2.1.length (cells8 r.2.1)::L) w':=by
 subst h;obtain⟨a,rfl,H⟩:=k;obtain⟨A,c,rfl,_,_⟩:=Row.form H 0 rfl;exact⟨A,c,rfl,H⟩
theorem AEnd.bad {w0:World} {T:Except Nat (Nat × List UInt8 × List PI.Blk)} {c:Nat} (h:T=.error c) {e:Ending} {w' : World} (k:AEnd w0 L T e w') :
  e=.returned (.tuple #[.slice none 0 0,.int .i64 0,.int .i64 c])/\Sp w0 L w':=by
 subst h; exact k
theorem BEnd.got {w0:World} {T:Except Nat (Nat × List UInt8 × List PI.Blk)} {r:Nat × List UInt8 × List PI.Blk} (h:T=.ok r) {e:Ending} {w' : World} (k:BEnd w0 L T e w') :
  ∃A c,e=.returned (.tuple #[.slice A r.2.2.length c,.int .i64 0])/\Sp w0 (Row 218 4 (.slice A r.2.2.length c) r.2.2.length (Zj r.2.2)::L) w':=by
 subst h;obtain⟨a,rfl,H⟩:=k;obtain⟨A,c,rfl,_,_⟩:=Row.form H 0 rfl;exact⟨A,c,rfl,H⟩
theorem ZT {M:List Pr} {A:Option Addr} {n c:Nat} {e:TypeId} {l:List UInt8} (H:Sp w0 M w) (k:Nat) (hk:M[k]?=some (Row e 1 (.slice A n c) n (cells8 l))) (hn:n=l.length):Byt w (.slice A n c) l:=by
 subst hn;exact H.row_byt k hk
theorem V3 {W:World} {TL TA:Option Addr} {cl ca:Nat} (h:Tabs TL TA cl ca W):Ent [Same W] (Tabs TL TA cl ca):=Ent.of_same 0 rfl fun _ hs=>h.heap hs
end Go.Proofs.YtnjpnmpemhldcaaGreatDoor

