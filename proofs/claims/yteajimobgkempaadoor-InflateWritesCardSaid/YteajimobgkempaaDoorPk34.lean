/- A pack. -/
import Derived.Test.YteajimobgkempaaDoorPk33
set_option linter.all false
set_option maxRecDepth 100000
set_option maxHeartbeats 8000000
namespace Go.Proofs.YteajimobgkempaaDoor
variable {w0 w:World} {L:List Pr}
open Go.RowKit
theorem XR (v:Value) (W:World):(Instr.typeAssert (.iface 33 v) 20 33 true).run Tryd.prog W=.ok (.tuple #[v,.bool true]) W:=by kernel_rfl
theorem XS (px pe c:Nat) (v0 e0:Value) (w:World) (hx:w.cell? ⟨px,0,none⟩=some v0) (zx:w.frozen? ⟨px,0,none⟩=false) (he:(w.setCell ⟨px,0,none⟩ (.pointer none)).cell? ⟨pe,0,none⟩=some e0) (ze:(w.setCell ⟨px,0,none⟩ (.pointer none)).frozen? ⟨pe,0,none⟩=false) :
  CallsD Tryd.prog 60 #[.pointer (some ⟨px,0,none⟩),.pointer (some ⟨pe,0,none⟩)] (.panicking (pan c)) w fun e u' w' =>
   e=.returned (.tuple #[])/\u'=.panicking [{ v:=.iface 33 (.int .i64 c),recovered:=true }]/\w'=(w.setCell ⟨px,0,none⟩ (.pointer none)).setCell ⟨pe,0,none⟩ (.int .i64 c):=by
 refine callsD_of_wpS Tryd.func60 rfl fun c₀ cs hu=>?_;unfold pan at hu;have a:=XR (.int .i64 c);apply wpS_seq;apply wpS_region;simp [wpOpsS,go_sem,recoverD,hu,Tryd.ntmps60,Exit.thenS];refine wpS_of_wp ?_;go_wp2;simp [bodyPostS,results,Tryd.results60]
theorem Xe (px pe:Nat) (w:World) :
  CallsD Tryd.prog 60 #[.pointer (some ⟨px,0,none⟩),.pointer (some ⟨pe,0,none⟩)] .returning w fun e u' w'=>e=.returned (.tuple #[])/\u'=.returning/\w'=w:=by
 refine callsD_of_wpS Tryd.func60 rfl fun c₀ cs hu=>?_;apply wpS_seq;apply wpS_region;simp [wpOpsS,go_sem,recoverD,hu,Tryd.ntmps60,Exit.thenS];refine wpS_of_wp ?_;go_wp2;cases c₀
 simp_all [bodyPostS,results,Tryd.results60]
namespace PI
theorem blocks_step {B:List Bool} {most f a:Nat} {out:List UInt8} {bl:List Blk} : blocks B most (f+1) a out bl=(block B most a out).bind fun r =>
  if r.1 then .ok (r.2.2.1,r.2.2.2,bl++[⟨r.2.1,r.1,out.length,r.2.2.2.length⟩]) else blocks B most f r.2.2.1 r.2.2.2 (bl++[⟨r.2.1,r.1,out.length,r.2.2.2.length⟩]):=rfl
end PI
def Xd (gx:Nat) (l:List UInt8) (most:Nat) (r:Nat × List UInt8 × List PI.Blk):Pr:=Ex fun gr:Nat=>Ex fun vo:Value=>Ex fun vb:Value=>Star (Rr gr l r.1) (Star (XpB gx gr vo most vb) (Star (Row 5 1 vo r.2.1.length (cells8 r.2.1)) (Row 71 4 vb r.2.2.length (Zc r.2.2))))
def XEnd (w0:World) (L:List Pr) (l:List UInt8) (most:Nat) (T:Except Nat (Nat × List UInt8 × List PI.Blk)) (e:Ending) (w' : World):Prop :=
 match T with
 | .error c=>e=.returned (.tuple #[.pointer none,.int .i64 c])/\Sp w0 L w'
 | .ok r=>∃gx,e=.returned (.tuple #[.pointer (some ⟨gx,0,none⟩),.int .i64 0])/\Sp w0 (Xd gx l most r::L) w'
theorem XEnd.no {w0:World} {l:List UInt8} {most:Nat} {T:Except Nat (Nat × List UInt8 × List PI.Blk)} {w' : World} {c:Nat} (h:T=.error c) (H:Sp w0 L w'):XEnd w0 L l most T (.returned (.tuple #[.pointer none,.int .i64 c])) w':=by
 subst h; exact⟨rfl,H⟩
theorem XEnd.yes {w0:World} {l:List UInt8} {most:Nat} {T:Except Nat (Nat × List UInt8 × List PI.Blk)} {w' : World} {r:Nat × List UInt8 × List PI.Blk} {gx:Nat} (h:T=.ok r) (H:Sp w0 (Xd gx l most r::L) w'):XEnd w0 L l most T (.returned (.tuple #[.pointer (some ⟨gx,0,none⟩),.int .i64 0])) w':=by
 subst h; exact⟨gx,rfl,H⟩
theorem YB (v:Value) (l:List UInt8) (most:Nat) (TL TA:Option Addr) (cl ca:Nat) (H:Sp w0 L w) (hb:Ent L fun w=>Byt w v l) (hl:l.length<=100000000) (hm:most<=1000000000) (hT:Ent L (Tabs TL TA cl ca)) :
  Calls Tryd.prog 36 #[v,.int .i64 most] w (XEnd w0 L l most (PI.all (PBits.ofB l) most)):=by
 obtain⟨T,o⟩:=exq (PI.all (PBits.ofB l) most);rw [o];unfold PI.all at o;have u:=hid o;have J:=hid hl;have K:=hid hT;have HM:=hid hm;have a0:∀(fn:Fn) (first cap:Array Value) (w:World),(Instr.makeFunc fn first cap).run Tryd.prog w=.ok (.func fn first cap) w:=fun _ _ _ _=>rfl;have k0:¬ (most:Int)<0:=by omega
 have U:(w.alloc (.cells #[.pointer none] 91)).heap.size=w.heap.size+1:=Array.size_push _;have g:=(H.newBk [.pointer none] 91).newBk [.int .i64 0] 33;rw [U] at g;clear U;have HB:=hid hb;clear o hT hb hm hl;go_enter_defers Tryd.func36,Tryd.ntmps36
 go_wp2_with fail
 generalize w.heap.size+1=pe at g ⊢;generalize w.heap.size=px at g ⊢;generalize (w.alloc _).alloc _=w1 at g ⊢;refine(YX (l:=l) g (HB.out _ _ (g.pick 2 [])) (by have:=J.out; omega)).mono ?_;rintro _ i ⟨_,rfl,n,rfl,d⟩;obtain⟨j,M⟩:=exq i.heap.size;have k:=d.newBk [.pointer (some ⟨n,0,none⟩),.slice none 0 0,.int .i64 most,.slice none 0 0] 96;rw [M] at k;have m:=(k.pick 4 [3,0,1,2]);have c4:(i.alloc (.cells #[.pointer (some ⟨n,0,none⟩),.slice none 0 0,.int .i64 most,.slice none 0 0] 96)).cell? ⟨px,0,none⟩=some (.pointer none):=m.cell 0 rfl 0;have z4:(i.alloc (.cells #[.pointer (some ⟨n,0,none⟩),.slice none 0 0,.int .i64 most,.slice none 0 0] 96)).frozen? ⟨px,0,none⟩=false:=m.frozen 0 rfl 0;have q:=m.set 0 (.pointer (some ⟨j,0,none⟩));have x:=(((q.pick 4 [2,1,0,3]).rowNil 71 4).rowNil 5 1);have V:Sp w0 (Rr n l 0::XpB j n (.slice none 0 0) most (.slice none 0 0)::Row 5 1 (.slice none 0 0) 0 []::Row 71 4 (.slice none 0 0) 0 []::Bk px 91 [.pointer (some ⟨j,0,none⟩)]::Bk pe 33 [.int .i64 0]::L) _:=x.pick 6 [2,3,0,1,4,5];have s:=hid V;clear H g d k m q x V;go_wp2_with fail
 generalize World.setCell _ _ _=w5 at s ⊢;go_loopw [] (fun wr=>∃(a f:Nat) (vo vb:Value) (out:List UInt8) (bl:List PI.Blk),a<=8 * l.length/\8 * l.length<a+f/\out.length<=most/\bl.length<=a/\PI.blocks (PBits.ofB l) most f a out bl=T/\Sp w0 (Rr n l a::XpB j n vo most vb::Row 5 1 vo out.length (cells8 out)::Row 71 4 vb bl.length (Zc bl)::Bk px 91 [.pointer (some ⟨j,0,none⟩)]::Bk pe 33 [.int .i64 0]::L) wr) (fun wr=>8 * l.length+1 - atOf n wr)
 case atStart=>exact⟨0,(PBits.ofB l).length+1,_,_,[],[],Nat.zero_le _,by rw [PBits.ofB_length]; omega,Nat.zero_le _,Nat.zero_le _,u.out,s.out⟩
 case round =>
  obtain⟨a,f,vo,vb,out,bl,N,hf,y,a1,t,g⟩:=hrel;clear s u;obtain⟨f,rfl⟩:∃f',f=f'+1:=⟨f - 1,by omega⟩;rw [PI.blocks_step] at t;have p:=hid t;have HA:Hid (atOf n wr=a):=hid (Ym g);have W:=Wm j n l out bl most a vo vb TL TA cl ca g N J.out y HM.out (by have:=J.out; omega) (fun w0 w h=>K.out w0 w (h.pick 2 []));have O:=hid W;have c1:wr.cell? ⟨px,0,none⟩=some (.pointer (some ⟨j,0,none⟩)):=g.cell 4 rfl 0;clear t W;go_wp2_with fail
  refine O.out.mono ?_;intro e9 i z;unfold XPost at z;cases hr:PI.block (PBits.ofB l) most a out with
  | error c =>
   rw [hr] at z;obtain⟨rfl,d⟩:=z;have F:T=.error c:=by rw [<- p.out,hr]; rfl
   have X:i.cell? ⟨px,0,none⟩=some (.pointer (some ⟨j,0,none⟩)):=d.cell 0 rfl 0;have Y:i.frozen? ⟨px,0,none⟩=false:=d.frozen 0 rfl 0;have k:=(d.set 0 (.pointer none)).swap;have Z:(i.setCell ⟨px,0,none⟩ (.pointer none)).cell? ⟨pe,0,none⟩=some (.int .i64 0):=k.cell 0 rfl 0;have z2:(i.setCell ⟨px,0,none⟩ (.pointer none)).frozen? ⟨pe,0,none⟩=false:=k.frozen 0 rfl 0;have m:=k.set 0 (.int .i64 c);clear hr O p;go_wp2_with fail
   refine leaves_cons (f:=60) (args:=#[.pointer (some ⟨px,0,none⟩),.pointer (some ⟨pe,0,none⟩)]) (by simp) (by simp [go_sem]) ?_;refine(XS px pe c _ _ _ X Y Z z2).mono ?_;rintro e u' P ⟨rfl,rfl,rfl⟩;have A:=m.cell 0 rfl 0;have B:=m.cell 1 rfl 0;generalize World.setCell _ _ _=w9 at m A B ⊢;simp [Leaves,settle,results,Tryd.results36,go_sem,A,B];exact XEnd.no F m.tail2
  | ok r =>
   obtain⟨G,C,I,b⟩:=r;rw [hr] at z;obtain⟨rfl,D,E,d⟩:=z;obtain⟨q1,Q,q3,q4⟩:=PI.block_ok y hr;rw [PBits.ofB_length] at Q;have F:Hid ((if G=true then .ok (I,b,bl++[⟨C,G,out.length,b.length⟩]) else PI.blocks (PBits.ofB l) most f I b (bl++[⟨C,G,out.length,b.length⟩]))=T):=by rw [<- p.out,hr]; exact hid rfl
   simp only at d q1 Q q3 q4;clear hr O p g c1;cases G with
   | false =>
    go_wp2_with fail
    go_roundw
    case rel =>
     refine⟨I,f,D,E,b,bl++[⟨C,false,out.length,b.length⟩],Q,by omega,q3,by rw [List.length_append,List.length_singleton]; omega,by have h:=F.out; rw [if_neg (by decide)] at h; exact h,?_⟩;rw [List.length_append,List.length_singleton];exact d
    case measure =>
     have:=Ym d;rw [this,HA.out];omega
   | true =>
    have R:T=.ok (I,b,bl++[⟨C,true,out.length,b.length⟩]):=by have h:=F.out; rw [if_pos rfl] at h; exact h.symm
    have X:i.cell? ⟨px,0,none⟩=some (.pointer (some ⟨j,0,none⟩)):=d.cell 4 rfl 0;have Y:i.frozen? ⟨px,0,none⟩=false:=d.frozen 4 rfl 0;have k:=((d.pick 6 [4,5,0,1,2,3]).set 0 (.pointer (some ⟨j,0,none⟩))).swap;have Z:(i.setCell ⟨px,0,none⟩ (.pointer (some ⟨j,0,none⟩))).cell? ⟨pe,0,none⟩=some (.int .i64 0):=k.cell 0 rfl 0;have z2:(i.setCell ⟨px,0,none⟩ (.pointer (some ⟨j,0,none⟩))).frozen? ⟨pe,0,none⟩=false:=k.frozen 0 rfl 0;have m:=k.set 0 (.int .i64 0);have S:=hid m;clear d k m;go_wp2_with fail
    refine leaves_cons (f:=60) (args:=#[.pointer (some ⟨px,0,none⟩),.pointer (some ⟨pe,0,none⟩)]) (by simp) (by simp [go_sem]) ?_;refine(Xe px pe _).mono ?_;rintro e u' P ⟨rfl,rfl,rfl⟩;have q:=S.out;have A:=q.cell 0 rfl 0;have B:=q.cell 1 rfl 0;generalize World.setCell _ _ _=w9 at q A B ⊢;simp [Leaves,settle,results,Tryd.results36,go_sem,A,B];have x:=q.pick 6 [2,3,4,5];refine XEnd.yes R ?_;have e:(bl++[⟨C,true,out.length,b.length⟩]:List PI.Blk).length=bl.length+1:=by rw [List.length_append]; rfl
    rw [<- e] at x;exact Sp.ex n (Sp.ex D (Sp.ex E (((x.pick 4 [2,3,0,1]).star.pick 3 [2,0,1]).star.swap.star)))
theorem Wn {gx:Nat} {l:List UInt8} {most:Nat} {r:Nat × List UInt8 × List PI.Blk} (H:Sp w0 (Xd gx l most r::L) w) :
  ∃gr vo vb,Sp w0 (Rr gr l r.1::XpB gx gr vo most vb::Row 5 1 vo r.2.1.length (cells8 r.2.1)::Row 71 4 vb r.2.2.length (Zc r.2.2)::L) w:=by
 obtain⟨gr,H⟩:=H.unex;obtain⟨vo,H⟩:=H.unex;obtain⟨vb,H⟩:=H.unex;exact⟨gr,vo,vb,((H.unstar.swap.unstar.pick 3 [1,0,2]).unstar.pick 4 [3,2,0,1])⟩
end Go.Proofs.YteajimobgkempaaDoor

