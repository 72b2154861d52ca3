/- A pack of texts: InfL InfM InfN InfTells InfEnd DefTells LawEnd DefBk DeflateBackProof. -/
import Derived.Below
import Derived.ChangeOld
import Derived.Defers
import Derived.LaidMore
import Derived.OpenShut
import Derived.OwnWalk
import Derived.ProofKit
import Derived.Recover
import Derived.SevenTiedAt
import Derived.ShutString
import Derived.Stop.Joined
import Derived.Test.YtloijdbkikccgaaDoorCards
import Derived.Test.YtloijdbkikccgaaDoorRows
import Derived.Test.YtloijdbkikccgaaDoorTie
import Derived.WalkKit
import Derived.Test.YtloijdbkikccgaaDoorPk01
import Derived.Test.YtloijdbkikccgaaDoorPk03
import Derived.Test.YtloijdbkikccgaaDoorPk21
import Derived.Test.YtloijdbkikccgaaDoorPk28
import Derived.Test.YtloijdbkikccgaaDoorPk35
import Derived.Test.YtloijdbkikccgaaDoorPk36
import Derived.Test.YtloijdbkikccgaaDoorPk40
import Derived.Test.YtloijdbkikccgaaDoorPk42
namespace Go.Proofs.YtloijdbkikccgaaDoor
set_option linter.unusedVariables false
set_option linter.unusedSimpArgs false
open Go.RowKit
set_option maxRecDepth 100000 in
set_option maxHeartbeats 4000000 in
theorem assert_err (v:Value) (W:World):(Instr.typeAssert (.iface 33 v) 20 33 true).run Tryd.prog W=.ok (.tuple #[v,.bool true]) W:=by kernel_rfl
set_option maxRecDepth 100000 in
set_option maxHeartbeats 4000000 in
theorem xcatch_pan (px pe c:Nat) (v0 e0:Value) (w:World) (hx:w.cell? ⟨px,0,none⟩=some v0) (zx:w.frozen? ⟨px,0,none⟩=false) (he:(w.setCell ⟨px,0,none⟩ (.pointer none)).cell? ⟨pe,0,none⟩=some e0) (ze:(w.setCell ⟨px,0,none⟩ (.pointer none)).frozen? ⟨pe,0,none⟩=false) :
  CallsD Tryd.prog 60 #[.pointer (some ⟨px,0,none⟩),.pointer (some ⟨pe,0,none⟩)] (.panicking (pan c)) w fun e u' w' =>
   e=.returned (.tuple #[])∧u'=.panicking [{ v:=.iface 33 (.int .i64 (c:Int)),recovered:=true }]∧w'=(w.setCell ⟨px,0,none⟩ (.pointer none)).setCell ⟨pe,0,none⟩ (.int .i64 (c:Int)):=by
 refine callsD_of_wpS Tryd.func60 rfl fun c₀ cs hu=>?_
 unfold pan at hu
 have hta:=assert_err (.int .i64 (c:Int))
 apply wpS_seq
 apply wpS_region
 simp [wpOpsS,go_sem,recoverD,hu,Tryd.ntmps60,Exit.thenS]
 refine wpS_of_wp ?_
 go_wp2
 simp [bodyPostS,results,Tryd.results60]
set_option maxHeartbeats 4000000 in
theorem xcatch_idle (px pe:Nat) (w:World) :
  CallsD Tryd.prog 60 #[.pointer (some ⟨px,0,none⟩),.pointer (some ⟨pe,0,none⟩)] .returning w fun e u' w'=>e=.returned (.tuple #[])∧u'=.returning∧w'=w:=by
 refine callsD_of_wpS Tryd.func60 rfl fun c₀ cs hu=>?_
 apply wpS_seq
 apply wpS_region
 simp [wpOpsS,go_sem,recoverD,hu,Tryd.ntmps60,Exit.thenS]
 refine wpS_of_wp ?_
 go_wp2
 cases c₀
 simp_all [bodyPostS,results,Tryd.results60]
set_option linter.unusedVariables false
set_option linter.unusedSimpArgs false
open Go.RowKit
namespace PI
theorem blocks_step {B:List Bool} {most f a:Nat} {out:List UInt8} {bl:List Blk} : blocks B most (f+1) a out bl=(block B most a out).bind fun r =>
  if r.1 then .ok (r.2.2.1,r.2.2.2,bl++[⟨r.2.1,r.1,out.length,r.2.2.2.length⟩]) else blocks B most f r.2.2.1 r.2.2.2 (bl++[⟨r.2.1,r.1,out.length,r.2.2.2.length⟩]):=rfl
end PI
def Xd (gx:Nat) (l:List UInt8) (most:Nat) (r:Nat × List UInt8 × List PI.Blk):Pr:=Ex fun gr:Nat=>Ex fun vo:Value=>Ex fun vb:Value=>Star (Rr gr l r.1) (Star (XpB gx gr vo most vb) (Star (Row 5 1 vo r.2.1.length (cells8 r.2.1)) (Row 76 4 vb r.2.2.length (cellsB r.2.2))))
def XEnd (w0:World) (L:List Pr) (l:List UInt8) (most:Nat) (T:Except Nat (Nat × List UInt8 × List PI.Blk)) (e:Ending) (w' : World):Prop :=
 match T with
 | .error c=>e=.returned (.tuple #[.pointer none,.int .i64 (c:Int)])∧Sp w0 L w'
 | .ok r=>∃ gx,e=.returned (.tuple #[.pointer (some ⟨gx,0,none⟩),.int .i64 0])∧Sp w0 (Xd gx l most r::L) w'
theorem XEnd.no {w0:World} {L:List Pr} {l:List UInt8} {most:Nat} {T:Except Nat (Nat × List UInt8 × List PI.Blk)} {w' : World} {c:Nat} (h:T=.error c) (H:Sp w0 L w'):XEnd w0 L l most T (.returned (.tuple #[.pointer none,.int .i64 (c:Int)])) w':=by
 subst h; exact ⟨rfl,H⟩
theorem XEnd.yes {w0:World} {L:List Pr} {l:List UInt8} {most:Nat} {T:Except Nat (Nat × List UInt8 × List PI.Blk)} {w' : World} {r:Nat × List UInt8 × List PI.Blk} {gx:Nat} (h:T=.ok r) (H:Sp w0 (Xd gx l most r::L) w'):XEnd w0 L l most T (.returned (.tuple #[.pointer (some ⟨gx,0,none⟩),.int .i64 0])) w':=by
 subst h; exact ⟨gx,rfl,H⟩
set_option maxRecDepth 100000 in
set_option maxHeartbeats 8000000 in
theorem xexpand_ok (v:Value) (l:List UInt8) (most:Nat) (TL TA:Option Addr) (cl ca:Nat) {w0 w:World} {L:List Pr} (H:Sp w0 L w) (hb:Ent L fun w=>Byt w v l) (hl:l.length≤100000000) (hm:most≤1000000000) (hT:Ent L (Tabs TL TA cl ca)) :
  Calls Tryd.prog 34 #[v,.int .i64 (most:Int)] w (XEnd w0 L l most (PI.all (PBits.ofB l) most)):=by
 obtain ⟨T,hTT⟩:∃ T,PI.all (PBits.ofB l) most=T:=⟨_,rfl⟩
 rw [hTT]
 unfold PI.all at hTT
 have HT0:=Lib.hid hTT
 have HL:=Lib.hid hl
 have HTB:=Lib.hid hT
 have HM:=Lib.hid hm
 have hmf:∀ (fn:Fn) (first cap:Array Value) (w:World),(Instr.makeFunc fn first cap).run Tryd.prog w=.ok (.func fn first cap) w:=fun _ _ _ _=>rfl
 have k0:¬ (most:Int)<0:=by omega
 have es:(w.alloc (.cells #[.pointer none] 90)).heap.size=w.heap.size+1:=Array.size_push _
 have H1:=(H.newBk [.pointer none] 90).newBk [.int .i64 0] 33
 rw [es] at H1
 clear es
 have HB:=Lib.hid hb
 clear hTT hT hb hm hl
 go_enter_defers Tryd.func34,Tryd.ntmps34
 go_wp2_with fail
 generalize w.heap.size+1=pe at H1 ⊢
 generalize w.heap.size=px at H1 ⊢
 generalize (w.alloc _).alloc _=w1 at H1 ⊢
 refine (newReader_ok (l:=l) H1 (HB.out _ _ (H1.pick 2 [])) (by have:=HL.out; omega)).mono ?_
 rintro _ w2 ⟨_,rfl,gr,rfl,H2⟩
 obtain ⟨gx,hgx⟩:∃ gx,w2.heap.size=gx:=⟨_,rfl⟩
 have H3:=H2.newBk [.pointer (some ⟨gr,0,none⟩),.slice none 0 0,.int .i64 (most:Int),.slice none 0 0] 95
 rw [hgx] at H3
 have H4:=(H3.pick 4 [3,0,1,2])
 have c4:(w2.alloc (.cells #[.pointer (some ⟨gr,0,none⟩),.slice none 0 0,.int .i64 (most:Int),.slice none 0 0] 95)).cell? ⟨px,0,none⟩=some (.pointer none):=H4.cell 0 rfl 0
 have z4:(w2.alloc (.cells #[.pointer (some ⟨gr,0,none⟩),.slice none 0 0,.int .i64 (most:Int),.slice none 0 0] 95)).frozen? ⟨px,0,none⟩=false:=H4.frozen 0 rfl 0
 have H5:=H4.set 0 (.pointer (some ⟨gx,0,none⟩))
 have H6:=(((H5.pick 4 [2,1,0,3]).rowNil 76 4).rowNil 5 1)
 have H7:Sp w0 (Rr gr l 0::XpB gx gr (.slice none 0 0) most (.slice none 0 0)::Row 5 1 (.slice none 0 0) 0 []::Row 76 4 (.slice none 0 0) 0 []::Bk px 90 [.pointer (some ⟨gx,0,none⟩)]::Bk pe 33 [.int .i64 0]::L) _:=H6.pick 6 [2,3,0,1,4,5]
 have HH7:=Lib.hid H7
 clear H H1 H2 H3 H4 H5 H6 H7
 go_wp2_with fail
 generalize World.setCell _ _ _=w5 at HH7 ⊢
 go_loopw [] (fun wr=>∃ (a f:Nat) (vo vb:Value) (out:List UInt8) (bl:List PI.Blk),a≤8 * l.length∧8 * l.length<a+f∧out.length≤most∧bl.length≤a∧PI.blocks (PBits.ofB l) most f a out bl=T∧Sp w0 (Rr gr l a::XpB gx gr vo most vb::Row 5 1 vo out.length (cells8 out)::Row 76 4 vb bl.length (cellsB bl)::Bk px 90 [.pointer (some ⟨gx,0,none⟩)]::Bk pe 33 [.int .i64 0]::L) wr) (fun wr=>8 * l.length+1 - atOf gr wr)
 case atStart=>exact ⟨0,(PBits.ofB l).length+1,_,_,[],[],Nat.zero_le _,by rw [PBits.ofB_length]; omega,Nat.zero_le _,Nat.zero_le _,HT0.out,HH7.out⟩
 case round =>
  obtain ⟨a,f,vo,vb,out,bl,haa,hf,hol,hbl,hst,H1⟩:=hrel
  clear HH7 HT0
  obtain ⟨f,rfl⟩:∃ f',f=f'+1:=⟨f - 1,by omega⟩
  rw [PI.blocks_step] at hst
  have HST:=Lib.hid hst
  have HA:Hid (atOf gr wr=a):=Lib.hid (atOf_rr H1)
  have hq:=xblock_ok gx gr l out bl most a vo vb TL TA cl ca H1 haa HL.out hol HM.out (by have:=HL.out; omega) (fun w0 w h=>HTB.out w0 w (h.pick 2 []))
  have HQ:=Lib.hid hq
  have c1:wr.cell? ⟨px,0,none⟩=some (.pointer (some ⟨gx,0,none⟩)):=H1.cell 4 rfl 0
  clear hst hq
  go_wp2_with fail
  refine HQ.out.mono ?_
  intro e9 w2 h9
  unfold XPost at h9
  cases hr:PI.block (PBits.ofB l) most a out with
  | error c =>
   rw [hr] at h9
   obtain ⟨rfl,H2⟩:=h9
   have HE:T=.error c:=by rw [← HST.out,hr]; rfl
   have d1:w2.cell? ⟨px,0,none⟩=some (.pointer (some ⟨gx,0,none⟩)):=H2.cell 0 rfl 0
   have z1:w2.frozen? ⟨px,0,none⟩=false:=H2.frozen 0 rfl 0
   have H3:=(H2.set 0 (.pointer none)).swap
   have d2:(w2.setCell ⟨px,0,none⟩ (.pointer none)).cell? ⟨pe,0,none⟩=some (.int .i64 0):=H3.cell 0 rfl 0
   have z2:(w2.setCell ⟨px,0,none⟩ (.pointer none)).frozen? ⟨pe,0,none⟩=false:=H3.frozen 0 rfl 0
   have H4:=H3.set 0 (.int .i64 (c:Int))
   clear hr HQ HST
   go_wp2_with fail
   refine leaves_cons (f:=60) (args:=#[.pointer (some ⟨px,0,none⟩),.pointer (some ⟨pe,0,none⟩)]) (by simp) (by simp [go_sem]) ?_
   refine (xcatch_pan px pe c _ _ _ d1 z1 d2 z2).mono ?_
   rintro e u' w'' ⟨rfl,rfl,rfl⟩
   have r1:=H4.cell 0 rfl 0
   have r2:=H4.cell 1 rfl 0
   generalize World.setCell _ _ _=w9 at H4 r1 r2 ⊢
   simp [Leaves,settle,results,Tryd.results34,go_sem,r1,r2]
   exact XEnd.no HE H4.tail2
  | ok r =>
   obtain ⟨lb,kd,a2,out2⟩:=r
   rw [hr] at h9
   obtain ⟨rfl,vo2,vb2,H2⟩:=h9
   obtain ⟨q1,q2,q3,q4⟩:=PI.block_ok hol hr
   rw [PBits.ofB_length] at q2
   have HE:Hid ((if lb=true then .ok (a2,out2,bl++[⟨kd,lb,out.length,out2.length⟩]) else PI.blocks (PBits.ofB l) most f a2 out2 (bl++[⟨kd,lb,out.length,out2.length⟩]))=T):=by rw [← HST.out,hr]; exact Lib.hid rfl
   simp only at H2 q1 q2 q3 q4
   clear hr HQ HST H1 c1
   cases lb with
   | false =>
    go_wp2_with fail
    go_roundw
    case rel =>
     refine ⟨a2,f,vo2,vb2,out2,bl++[⟨kd,false,out.length,out2.length⟩],q2,by omega,q3,by rw [List.length_append,List.length_singleton]; omega,by have h:=HE.out; rw [if_neg (by decide)] at h; exact h,?_⟩
     rw [List.length_append,List.length_singleton]
     exact H2
    case measure =>
     have:=atOf_rr H2
     rw [this,HA.out]
     omega
   | true =>
    have HE2:T=.ok (a2,out2,bl++[⟨kd,true,out.length,out2.length⟩]):=by have h:=HE.out; rw [if_pos rfl] at h; exact h.symm
    have d1:w2.cell? ⟨px,0,none⟩=some (.pointer (some ⟨gx,0,none⟩)):=H2.cell 4 rfl 0
    have z1:w2.frozen? ⟨px,0,none⟩=false:=H2.frozen 4 rfl 0
    have H3:=((H2.pick 6 [4,5,0,1,2,3]).set 0 (.pointer (some ⟨gx,0,none⟩))).swap
    have d2:(w2.setCell ⟨px,0,none⟩ (.pointer (some ⟨gx,0,none⟩))).cell? ⟨pe,0,none⟩=some (.int .i64 0):=H3.cell 0 rfl 0
    have z2:(w2.setCell ⟨px,0,none⟩ (.pointer (some ⟨gx,0,none⟩))).frozen? ⟨pe,0,none⟩=false:=H3.frozen 0 rfl 0
    have H4:=H3.set 0 (.int .i64 0)
    have HH4:=Lib.hid H4
    clear H2 H3 H4
    go_wp2_with fail
    refine leaves_cons (f:=60) (args:=#[.pointer (some ⟨px,0,none⟩),.pointer (some ⟨pe,0,none⟩)]) (by simp) (by simp [go_sem]) ?_
    refine (xcatch_idle px pe _).mono ?_
    rintro e u' w'' ⟨rfl,rfl,rfl⟩
    have H5:=HH4.out
    have r1:=H5.cell 0 rfl 0
    have r2:=H5.cell 1 rfl 0
    generalize World.setCell _ _ _=w9 at H5 r1 r2 ⊢
    simp [Leaves,settle,results,Tryd.results34,go_sem,r1,r2]
    have H6:=H5.pick 6 [2,3,4,5]
    refine XEnd.yes HE2 ?_
    have e:(bl++[⟨kd,true,out.length,out2.length⟩]:List PI.Blk).length=bl.length+1:=by rw [List.length_append]; rfl
    rw [← e] at H6
    exact Sp.ex gr (Sp.ex vo2 (Sp.ex vb2 (((H6.pick 4 [2,3,0,1]).star.pick 3 [2,0,1]).star.swap.star)))
theorem xd_open {gx:Nat} {l:List UInt8} {most:Nat} {r:Nat × List UInt8 × List PI.Blk} {w0 w:World} {L:List Pr} (H:Sp w0 (Xd gx l most r::L) w) :
  ∃ gr vo vb,Sp w0 (Rr gr l r.1::XpB gx gr vo most vb::Row 5 1 vo r.2.1.length (cells8 r.2.1)::Row 76 4 vb r.2.2.length (cellsB r.2.2)::L) w:=by
 obtain ⟨gr,H⟩:=H.unex
 obtain ⟨vo,H⟩:=H.unex
 obtain ⟨vb,H⟩:=H.unex
 exact ⟨gr,vo,vb,((H.unstar.swap.unstar.pick 3 [1,0,2]).unstar.pick 4 [3,2,0,1])⟩
set_option linter.unusedVariables false
set_option linter.unusedSimpArgs false
open Go.RowKit
def AEnd (w0:World) (L:List Pr) (T:Except Nat (Nat × List UInt8 × List PI.Blk)) (e:Ending) (w' : World):Prop :=
 match T with
 | .error c=>e=.returned (.tuple #[.slice none 0 0,.int .i64 0,.int .i64 (c:Int)])∧Sp w0 L w'
 | .ok r=>∃ vo,e=.returned (.tuple #[vo,.int .i64 (((r.1+7) / 8:Nat):Int),.int .i64 0])∧Sp w0 (Row 5 1 vo r.2.1.length (cells8 r.2.1)::L) w'
def BEnd (w0:World) (L:List Pr) (T:Except Nat (Nat × List UInt8 × List PI.Blk)) (e:Ending) (w' : World):Prop :=
 match T with
 | .error c=>e=.returned (.tuple #[.slice none 0 0,.int .i64 (c:Int)])∧Sp w0 L w'
 | .ok r=>∃ vb,e=.returned (.tuple #[vb,.int .i64 0])∧Sp w0 (Row 76 4 vb r.2.2.length (cellsB r.2.2)::L) w'
theorem AEnd.no {w0:World} {L:List Pr} {T:Except Nat (Nat × List UInt8 × List PI.Blk)} {w' : World} {c:Nat} (h:T=.error c) (H:Sp w0 L w'):AEnd w0 L T (.returned (.tuple #[.slice none 0 0,.int .i64 0,.int .i64 (c:Int)])) w':=by
 subst h; exact ⟨rfl,H⟩
theorem AEnd.yes {w0:World} {L:List Pr} {T:Except Nat (Nat × List UInt8 × List PI.Blk)} {w' : World} {r:Nat × List UInt8 × List PI.Blk} {vo:Value} {n:Int} (h:T=.ok r) (hn:n=(((r.1+7) / 8:Nat):Int)) (H:Sp w0 (Row 5 1 vo r.2.1.length (cells8 r.2.1)::L) w'):AEnd w0 L T (.returned (.tuple #[vo,.int .i64 n,.int .i64 0])) w':=by
 subst h hn; exact ⟨vo,rfl,H⟩
theorem BEnd.no {w0:World} {L:List Pr} {T:Except Nat (Nat × List UInt8 × List PI.Blk)} {w' : World} {c:Nat} (h:T=.error c) (H:Sp w0 L w'):BEnd w0 L T (.returned (.tuple #[.slice none 0 0,.int .i64 (c:Int)])) w':=by
 subst h; exact ⟨rfl,H⟩
theorem BEnd.yes {w0:World} {L:List Pr} {T:Except Nat (Nat × List UInt8 × List PI.Blk)} {w' : World} {r:Nat × List UInt8 × List PI.Blk} {vb:Value} (h:T=.ok r) (H:Sp w0 (Row 76 4 vb r.2.2.length (cellsB r.2.2)::L) w'):BEnd w0 L T (.returned (.tuple #[vb,.int .i64 0])) w':=by
 subst h; exact ⟨vb,rfl,H⟩
set_option maxRecDepth 100000 in
set_option maxHeartbeats 4000000 in
theorem xall_ok (v:Value) (l:List UInt8) (most:Nat) (TL TA:Option Addr) (cl ca:Nat) {w0 w:World} {L:List Pr} (H:Sp w0 L w) (hb:Ent L fun w=>Byt w v l) (hl:l.length≤100000000) (hm:most≤1000000000) (hT:Ent L (Tabs TL TA cl ca)) :
  Calls Tryd.prog 17 #[v,.int .i64 (most:Int)] w (AEnd w0 L (PI.all (PBits.ofB l) most)):=by
 have HX:=Lib.hid (xexpand_ok v l most TL TA cl ca H hb hl hm hT)
 clear hT hb
 go_enter Tryd.func17,Tryd.ntmps17
 go_wp2_with fail
 refine HX.out.mono ?_
 intro e9 w1 h9
 unfold XEnd at h9
 cases hr:PI.all (PBits.ofB l) most with
 | error c =>
  rw [hr] at h9
  obtain ⟨rfl,H1⟩:=h9
  have hc:=PI.all_err hr
  have k1:((c:Int) != 0)=true:=by simp; omega
  have k1' : ¬ (c:Int)=0:=by omega
  have HE:=Lib.hid hr
  clear hr HX hc
  go_wp2_with fail
  go_ret3
  exact AEnd.no HE.out H1
 | ok r =>
  rw [hr] at h9
  obtain ⟨gx,rfl,H1⟩:=h9
  obtain ⟨gr,vo,vb,H2⟩:=xd_open H1
  obtain ⟨at_,out,bl⟩:=r
  simp only at H2
  obtain ⟨VO,vc,rfl,hvn,hvm⟩:=Row.form H2 2 rfl
  have hat:=(PI.all_pos hr).1
  rw [PBits.ofB_length] at hat
  simp only at hat
  obtain ⟨A3,e3,H3,hb3,r0,r1,r2⟩:=rr_open H2
  have d0:w1.cell? ⟨gx,0,none⟩=some (.pointer (some ⟨gr,0,none⟩)):=H2.cell 1 rfl 0
  have d1:w1.cell? ⟨gx,1,none⟩=some (.slice VO out.length vc):=H2.cell 1 rfl 1
  have HE:=Lib.hid hr
  obtain ⟨n8,hn8⟩:∃ n8,(at_+7) / 8=n8:=⟨_,rfl⟩
  obtain ⟨n7,hn7⟩:∃ n7,at_+7=n7:=⟨_,rfl⟩
  have y0:(at_:Int)+7=(n7:Int):=by omega
  have y1:(n7:Int) / 8=(n8:Int):=by omega
  have HN8:=Lib.hid hn8
  have Q:Hid (∀ m:Nat,Calls Tryd.prog 35 #[.pointer (some ⟨gr,0,none⟩)] (w1.drewN m) fun e w'=>e=.returned (.int .i64 (at_:Int))∧w'=w1.drewN m):=Lib.hid fun m=>(at_ok gr at_ (w:=w1.drewN m) r1 r2).mono fun _ _ h=>⟨h.1,h.2.symm⟩
  clear hr HX H1 H3 hb3 r0 hn8 hn7
  go_wp2_with fail
  go_quiet ((go_at_call 35; exact Calls.quiet_of_same (Q.out _)))
  have H4:=H2.drewN nq
  generalize w1.drewN nq=w7 at H4 ⊢
  go_wp2
  go_ret3
  refine AEnd.yes HE.out (by rw [← HN8.out]) ?_
  exact H4.pick 4 [2]
set_option linter.unusedVariables false
set_option linter.unusedSimpArgs false
open Go.RowKit
namespace PI
set_option maxRecDepth 100000 in
theorem row_a:(all (PBits.ofB [3,0]) 0).toOption.map (fun r=>((r.1+7) / 8,r.2.1))=some (2,[]):=by decide +kernel
end PI
theorem AEnd.row {w0:World} {L:List Pr} {T:Except Nat (Nat × List UInt8 × List PI.Blk)} {n:Nat} {o:List UInt8} (h:T.toOption.map (fun r=>((r.1+7) / 8,r.2.1))=some (n,o)) {e:Ending} {w' : World} (k:AEnd w0 L T e w') :
  ∃ A c,e=.returned (.tuple #[.slice A o.length c,.int .i64 (n:Int),.int .i64 0])∧Sp w0 (Row 5 1 (.slice A o.length c) o.length (cells8 o)::L) w':=by
 cases T with
 | error c=>cases h
 | ok r =>
  have h2:((r.1+7) / 8,r.2.1)=(n,o):=Option.some.inj h
  injection h2 with h3 h4
  obtain ⟨vo,rfl,H⟩:=k
  rw [h4] at H
  obtain ⟨A,c,rfl,_,_⟩:=Row.form H 0 rfl
  exact ⟨A,c,by rw [h3],H⟩
set_option linter.unusedVariables false
set_option linter.unusedSimpArgs false
open Go.RowKit
theorem AEnd.got {w0:World} {L:List Pr} {T:Except Nat (Nat × List UInt8 × List PI.Blk)} {r:Nat × List UInt8 × List PI.Blk} (h:T=.ok r) {e:Ending} {w' : World} (k:AEnd w0 L T e w') :
  ∃ A c,e=.returned (.tuple #[.slice A r.2.1.length c,.int .i64 (((r.1+7) / 8:Nat):Int),.int .i64 0])∧Sp w0 (Row 5 1 (.slice A r.2.1.length c) r.2.1.length (cells8 r.2.1)::L) w':=by
 subst h
 obtain ⟨vo,rfl,H⟩:=k
 obtain ⟨A,c,rfl,_,_⟩:=Row.form H 0 rfl
 exact ⟨A,c,rfl,H⟩
theorem AEnd.bad {w0:World} {L:List Pr} {T:Except Nat (Nat × List UInt8 × List PI.Blk)} {c:Nat} (h:T=.error c) {e:Ending} {w' : World} (k:AEnd w0 L T e w') :
  e=.returned (.tuple #[.slice none 0 0,.int .i64 0,.int .i64 (c:Int)])∧Sp w0 L w':=by
 subst h; exact k
theorem BEnd.got {w0:World} {L:List Pr} {T:Except Nat (Nat × List UInt8 × List PI.Blk)} {r:Nat × List UInt8 × List PI.Blk} (h:T=.ok r) {e:Ending} {w' : World} (k:BEnd w0 L T e w') :
  ∃ A c,e=.returned (.tuple #[.slice A r.2.2.length c,.int .i64 0])∧Sp w0 (Row 76 4 (.slice A r.2.2.length c) r.2.2.length (cellsB r.2.2)::L) w':=by
 subst h
 obtain ⟨vo,rfl,H⟩:=k
 obtain ⟨A,c,rfl,_,_⟩:=Row.form H 0 rfl
 exact ⟨A,c,rfl,H⟩
theorem byt_row {w0 w:World} {M:List Pr} {A:Option Addr} {n c:Nat} {e:TypeId} {l:List UInt8} (H:Sp w0 M w) (k:Nat) (hk:M[k]?=some (Row e 1 (.slice A n c) n (cells8 l))) (hn:n=l.length):Byt w (.slice A n c) l:=by
 subst hn
 exact H.row_byt k hk
theorem tabs_same {W:World} {TL TA:Option Addr} {cl ca:Nat} (h:Tabs TL TA cl ca W):Ent [Same W] (Tabs TL TA cl ca):=Ent.of_same 0 rfl fun _ hs=>h.heap hs
set_option linter.unusedVariables false
set_option linter.unusedSimpArgs false
open Go.RowKit
set_option maxRecDepth 100000 in
set_option maxHeartbeats 4000000 in
theorem dtells_ok (TL TF:Option Addr) (cl cf:Nat) {w0 w:World} {L:List Pr} (H:Sp w0 L w) (hT:Ent L (DTabs TL TF cl cf)) :
  Calls Tryd.prog 14 #[] w fun e w'=>e=.returned (.bool true)∧Sp w0 L w':=by
 have hA:=dall_ok none 0 0 [] H hT rfl (by decide) (Nat.le_refl _) (by decide) (fun _ w _=>Byt.nil w)
 have e1:PD.defl []=[3,0]:=PD.row_nil
 have e2:PD.defl [97]=[75,4,0]:=PD.row_a
 have e3:PD.longI 258=(285,0,0):=by decide +kernel
 rw [e1] at hA
 have HA:=Lib.hid hA
 have HT:=Lib.hid hT
 have E2:=Lib.hid e2
 have E3:=Lib.hid e3
 clear hA hT e1 e2 e3 H
 go_enter Tryd.func14,Tryd.ntmps14
 go_wp2_with fail
 refine HA.out.mono ?_
 rintro _ w1 ⟨v1,rfl,H1⟩
 obtain ⟨V1,c1,rfl,_,_⟩:=Row.form H1 0 rfl
 obtain ⟨u2,hc2,G2⟩:=lit_ok H1 [97]
 have hv2:Sem.run Tryd.prog (convert 25 25 (.slice (some ⟨w1.heap.size,0,none⟩) 1 1)) (w1.alloc (.cells #[.int .u8 97] 5))=.ok (.slice (some ⟨w1.heap.size,0,none⟩) 1 1) u2:=hc2 1 rfl
 clear hc2 HA H1
 go_wp2_with fail
 clear hv2
 generalize w1.heap.size=g1 at G2 ⊢
 have hB:=dall_ok (some ⟨g1,0,none⟩) 1 1 [97] G2 (fun w0 w h=>HT.out w0 w (h.pick 2 [])) rfl (by decide) (Nat.le_refl _) (by decide) (fun _ _ H=>H.lit 0 rfl (by decide))
 rw [E2.out] at hB
 refine hB.mono ?_
 rintro _ w2 ⟨v2,rfl,H2⟩
 obtain ⟨V2,c2,rfl,_,_⟩:=Row.form H2 0 rfl
 clear hB G2 E2
 have hL:=dlong_ok 258 H2 (fun w0 w h=>HT.out w0 w (h.pick 3 []))
 rw [E3.out] at hL
 have HL:=Lib.hid hL
 clear hL H2
 go_wp2_with fail
 refine HL.out.mono ?_
 rintro _ w3 ⟨rfl,H3⟩
 clear HL
 have H4:=H3.newBk (cells8 [3,0]) 5
 have HE:=Lib.hid (equal_ok (l:=[3,0]) (m:=[3,0]) (byt_row H4 3 rfl rfl) (Byt.of_blk [3,0] (H4.blk 0 rfl) (by decide)))
 rw [show (([3,0]:List UInt8) == [3,0])=true by decide] at HE
 clear H3
 go_wp2_with fail
 refine HE.out.mono ?_
 rintro _ _ ⟨rfl,rfl⟩
 clear HE
 generalize w3.alloc _=w4 at H4 ⊢
 have H5:=H4.newBk (cells8 [75,4,0]) 5
 have HE:=Lib.hid (equal_ok (l:=[75,4,0]) (m:=[75,4,0]) (byt_row H5 2 rfl rfl) (Byt.of_blk [75,4,0] (H5.blk 0 rfl) (by decide)))
 rw [show (([75,4,0]:List UInt8) == [75,4,0])=true by decide] at HE
 have H6:=Lib.hid (H5.pick 5 [])
 clear H4 H5
 go_wp2_with fail
 refine HE.out.mono ?_
 rintro _ _ ⟨rfl,rfl⟩
 clear HE
 go_wp2_with fail
 go_ret
 exact ⟨rfl,H6.out⟩
open Go.RowKit
theorem law_end {P:Program} {f:FuncId} {args:Array Value} {w:World} (h:Calls P f args w fun e w'=>e=.returned (.bool true)∧Sp w [Same w] w') :
  Calls P f args w fun e w'=>e=.returned (.bool true)∧Below w.heap.size w w':=h.mono fun _ _ k=>⟨k.1,k.2.below 0 rfl⟩
set_option linter.unusedVariables false
set_option linter.unusedSimpArgs false
open Go.RowKit
theorem take_ent {L:List Pr} {A:Option Addr} {n c:Nat} {b:List UInt8} (h:Ent L fun w=>Byt w (.slice A n c) b) (hn:n=b.length) (m:Nat) (hm:m≤n):Ent L fun w=>Byt w (.slice A m c) (b.take m) :=
 h.mono fun w h=>h.take m (by omega)
set_option maxRecDepth 100000 in
set_option maxHeartbeats 16000000 in
theorem dback_go (A B:Option Addr) (n c bn bc:Nat) (n0 bn0:Nat) (b bh:List UInt8) (TL TA DL DF:Option Addr) (cl ca dl df:Nat) {w0 w:World} {L:List Pr} (H:Sp w0 L w) (hT:Ent L (Tabs TL TA cl ca)) (hD:Ent L (DTabs DL DF dl df))
  (hn:n=b.length) (hn4:n≤4000) (y1:min (n0:Int) 4000=(n:Int)) (hc:n≤c) (hcm:c≤maxLen) (hb:Ent L fun w=>Byt w (.slice A n c) b) (hbn:bn=bh.length) (hb20:bn≤20) (y3:min (bn0:Int) 20=(bn:Int)) (hbc:bn≤bc) (hbm:bc≤maxLen) (hbh:Ent L fun w=>Byt w (.slice B bn bc) bh) :
  Calls Tryd.prog 6 #[.slice A n0 c,.slice B bn0 bc] w fun e w'=>e=.returned (.bool true)∧Sp w0 L w':=by
 obtain ⟨i8,hj,hj0,hj1,hj2⟩:=info_parts info8
 have HT:=Lib.hid hT
 have HD:=Lib.hid hD
 have HN:=Lib.hid hn
 have HB:=Lib.hid hb
 have HBN:=Lib.hid hbn
 have HBH:=Lib.hid hbh
 have hcm2:c≤9223372036854775807:=hcm
 have hbm2:bc≤9223372036854775807:=hbm
 have y2:(n:Int)≤(c:Int):=by omega
 have y4:(bn:Int)≤(bc:Int):=by omega
 obtain ⟨D,hDD⟩:∃ D,PD.defl b=D:=⟨_,rfl⟩
 have hDl:D.length≤1000000:=by rw [← hDD]; exact PD.defl_le b (by omega)
 have hq1:PI.all (PBits.ofB (D++bh)) n=.ok (PD.deflN b,b,PD.blksD (PM.Cut b 64) b):=by rw [← hDD]; exact PD.defl_behind b bh n (by omega)
 have hq2:∀ m,m<n→PI.all (PBits.ofB D) m=.error 22:=fun m hm=>by rw [← hDD]; exact PD.defl_cap b m (by omega)
 have hu:(PD.deflN b+7) / 8=D.length:=by rw [← hDD,PD.defl_len]
 obtain ⟨k,hk⟩:∃ k,D.length=k:=⟨_,rfl⟩
 rw [hk] at hDl hu
 have HDD:=Lib.hid hDD
 have HQ1:=Lib.hid hq1
 have HQ2:=Lib.hid hq2
 have HU:=Lib.hid hu
 have HK:=Lib.hid hk
 clear hT hD hn hb hbn hbh hbm hDD hq1 hq2 hu hk
 go_enter Tryd.func6,Tryd.ntmps6
 go_wp2_with fail
 go_quiet (fail)
 have H1:=H.drewN nq
 generalize w.drewN nq=wq at H1 ⊢
 clear H
 have HA:=Lib.hid (dall_ok A n c b H1 HD.out HN.out (by omega) hc hcm HB.out)
 rw [HDD.out,HK.out] at HA
 clear H1
 go_wp2_with fail
 refine HA.out.mono ?_
 rintro _ w1 ⟨v1,rfl,H1⟩
 obtain ⟨V,vc,rfl,hv1,hv2⟩:=Row.form H1 0 rfl
 have HC:=Lib.hid (clone_ok H1 (byt_row H1 0 rfl HK.out.symm) (by rw [HK.out]; omega))
 rw [HK.out] at HC
 clear HA H1
 go_wp2_with fail
 refine HC.out.mono ?_
 rintro _ w2 ⟨v2,rfl,H2⟩
 obtain ⟨VC,cc,rfl,_,_⟩:=Row.form H2 0 rfl
 have hrb:Rd w2 B (cells8 bh):=by
  obtain ⟨B2,c2,e2,r2,_⟩:=HBH.out _ _ (H2.pick 2 [])
  injection e2 with e2 en ec
  clear en ec
  subst e2
  exact r2
 have hl9:(cells8 bh).length=bn:=by unfold cells8; rw [List.length_map,HBN.out]
 have HL9:=Lib.hid hl9
 have HRB:=Lib.hid hrb
 have HX2:=Lib.hid H2
 clear HC H2 hrb hl9
 go_wp2_with (at_builtin; refine wpList_append_sp rfl _ _ 25 rfl 5 i8 (.int .u8 0) 1 1 Tryd.underlying25 hj hj0 hj1 hj2 rfl (by decide) _ _ _ rfl HX2.out B bn bc (cells8 bh) rfl (by rw [HL9.out,Nat.mul_one]) HRB.out (cells8_one _) (by unfold maxLen; omega) (by omega) ?_)
 intro v4 w4 H4 _
 have H5:Sp w0 (Row 5 1 v4 (D++bh).length (cells8 (D++bh))::Row 5 1 (.slice V k vc) k (cells8 D)::L) w4:=by
  have e4:cells8 (D++bh)=cells8 D++cells8 bh:=by simp [cells8]
  rw [e4,List.length_append,HK.out,← HBN.out]; exact H4
 obtain ⟨t4,ht4⟩:∃ t4,(D++bh).length=t4:=⟨_,rfl⟩
 rw [ht4] at H5
 have ht4l:t4≤1000020:=by rw [← ht4,List.length_append,HK.out,← HBN.out]; omega
 have HT4:=Lib.hid ht4
 clear ht4 HRB HX2 H4
 obtain ⟨V4,v4c,rfl,_,_⟩:=Row.form H5 0 rfl
 have HA1:=Lib.hid (xall_ok (.slice V4 t4 v4c) (D++bh) n TL TA cl ca H5 (fun w0 w h=>byt_row h 0 rfl HT4.out.symm) (by rw [HT4.out]; omega) (by omega) (fun w0 w h=>HT.out w0 w (h.pick 2 [])))
 clear H5
 go_wp2_with fail
 refine HA1.out.mono ?_
 intro e9 w5 k9
 obtain ⟨A6,c6,he6,H6⟩:=AEnd.got HQ1.out k9
 simp only [HU.out,← HN.out] at he6 H6
 subst he6
 clear k9 HA1 HQ1
 have HE:=Lib.hid (equal_ok (HB.out _ _ (H6.pick 3 [])) (byt_row H6 0 rfl HN.out))
 rw [show (b == b)=true by simp] at HE
 go_wp2_with fail
 refine HE.out.mono ?_
 rintro _ _ ⟨rfl,rfl⟩
 clear HE
 have H7:=H6.pick 3 [2]
 clear H6
 by_cases h0:0<n
 ·have k1:(n:Int) > 0:=by omega
  obtain ⟨n1,hn1⟩:∃ q,n - 1=q:=⟨_,rfl⟩
  have y5:(n:Int) - 1=(n1:Int):=by omega
  have HA2:=Lib.hid (xall_ok (.slice V k vc) D n1 TL TA cl ca H7 (fun w0 w h=>byt_row h 0 rfl HK.out.symm) (by rw [HK.out]; omega) (by omega) (fun w0 w h=>HT.out w0 w (h.pick 1 [])))
  have HQ3:=Lib.hid (HQ2.out n1 (by omega))
  clear hn1 HQ2 H7
  go_wp2_with fail
  refine HA2.out.mono ?_
  intro e9 w6 k9
  obtain ⟨rfl,H8⟩:=AEnd.bad HQ3.out k9
  have HTE:=Lib.hid (dtells_ok DL DF dl df H8.tail HD.out)
  clear k9 HA2 HQ3 H8
  go_wp2_with fail
  refine HTE.out.mono ?_
  rintro _ w9 ⟨rfl,H10⟩
  go_wp2_with fail
  go_ret
  exact ⟨rfl,H10⟩
 ·have k1:¬ (n:Int) > 0:=by omega
  have HTE:=Lib.hid (dtells_ok DL DF dl df H7.tail HD.out)
  clear H7
  go_wp2_with fail
  refine HTE.out.mono ?_
  rintro _ w9 ⟨rfl,H10⟩
  go_wp2_with fail
  go_ret
  exact ⟨rfl,H10⟩
theorem dtabs_same {W:World} {DL DF:Option Addr} {dl df:Nat} (h:DTabs DL DF dl df W):Ent [Same W] (DTabs DL DF dl df):=Ent.of_same 0 rfl fun _ hs=>h.heap hs
theorem dback_law (A B:Option Addr) (c bc:Nat) (b bh:List UInt8) {W:World} (hT:∃ TL TA cl ca,Tabs TL TA cl ca W) (hD:∃ DL DF dl df,DTabs DL DF dl df W) (hb:Byt W (.slice A b.length c) b) (hbh:Byt W (.slice B bh.length bc) bh) :
  Calls Tryd.prog 6 #[.slice A b.length c,.slice B bh.length bc] W fun e w'=>e=.returned (.bool true)∧Sp W [Same W] w':=by
 obtain ⟨TL,TA,cl,ca,hT⟩:=hT
 obtain ⟨DL,DF,dl,df,hD⟩:=hD
 obtain ⟨_,_,e,_,h1,h2⟩:=id hb
 injection e with _ _ e
 subst e
 obtain ⟨_,_,e,_,h3,h4⟩:=id hbh
 injection e with _ _ e
 subst e
 refine dback_go A B (min b.length 4000) _ (min bh.length 20) _ b.length bh.length (b.take (min b.length 4000)) (bh.take (min bh.length 20)) TL TA DL DF cl ca dl df (Sp.start W) (tabs_same hT) (dtabs_same hD) ?_ (by omega) (by omega) (by omega) h2 (take_ent (Ent.byt 0 rfl hb) rfl _ (by omega)) ?_ (by omega) (by omega) (by omega) h4 (take_ent (Ent.byt 0 rfl hbh) rfl _ (by omega))
 ·rw [List.length_take]; omega
 ·rw [List.length_take]; omega
end Go.Proofs.YtloijdbkikccgaaDoor

namespace Go.Proofs.YtloijdbkikccgaaDoor.deflateBack
open Go.ChangeShapes Go.WideShapes Go.ChangeAt Go.RowKit Go.WideMaps Go.WideElems
open Go.ChangeMaps (open_string shut_string)
set_option linter.unusedVariables false

theorem own:ownKnob Tryd.prog.godebug=none:=by kernel_rfl
theorem laidOut:laidOutB Tryd.prog=true:=by kernel_rfl
def laidL : List (String × DataW Unit) := [("portolan/deflate.order", Rows.laid_portolan_deflate_order), ("portolan/deflate.longs", Rows.laid_portolan_deflate_longs), ("portolan/deflate.fars", Rows.laid_portolan_deflate_fars), ("portolan/inflate.order", Rows.laid_portolan_inflate_order), ("portolan/inflate.lengths", Rows.laid_portolan_inflate_lengths), ("portolan/inflate.away", Rows.laid_portolan_inflate_away)]
theorem door_met (os:Os) (args:Array Value):laidMetH Tryd.prog laidL ((World.doorLaid Tryd.prog 4000 os).forCall (fun _ _=>0) ⟨#[],args,[]⟩).memory :=
 laidMetH_of_parts3 (fuel:=10) (laidMet_of_run' 10 (by kernel_rfl) (by kernel_rfl)) (by kernel_rfl) (by kernel_rfl)
set_option maxRecDepth 100000 in
set_option maxHeartbeats 1000000 in
theorem lifted (os:Os) (started:os.Started) (H:Type) (enc:TypeId × Value→H) :
  ReturnsInHanded {} Tryd.checked os 6 .any (fun w args=>(Rows.deflateBackSpec.pre enc Tryd.prog Tryd.f6 [] false w args∧laidMetH Tryd.prog laidL w)∧sizedMet enc Tryd.prog Tryd.f6 (OpenSpec.ofChange Rows.deflateBackSpec) false w args)
   (Rows.deflateBackSpec.post enc Tryd.prog Tryd.f6 false true false false):=by
 refine returnsInHanded_of_change_and (C:=Tryd.checked) (X:=fun w _=>laidMetH Tryd.prog laidL w) (fun _ _ _ hh h=>h.of_heap hh) own started (by kernel_rfl) Tryd.func6
  (ChangeSpec.witness_shaped (enc:=enc) (C:=Tryd.checked) (os:=os) (X:=fun w _=>laidMetH Tryd.prog laidL w) false (World.doorLaid Tryd.prog 4000 os) #[.slice none 0 0,.slice none 0 0] 8 rfl (World.shaped_of_RefB (by kernel_rfl) (by kernel_rfl)) (by kernel_rfl) (by kernel_rfl) (by kernel_rfl) (door_met os _)) ?_
 intro W base args ds gs before hval0 hW _ _ hL _
 have hval:∀ (j:Nat) t v,Tryd.f6.params[j]?=some t→args[j]?=some v→Value.okWide Tryd.prog W .any base t v:=hval0
 have hW':=hW
 obtain ⟨p,q,hA0,hV,rfl,hfz,hnd⟩:=hW
 have hA:DataW.TrodAll enc Tryd.prog W 0 (fun _=>true) true Tryd.f6.params.toList args.toList ds p:=hA0
 rw [Tryd.params6] at hA hval
 obtain ⟨v0,vs0,d0,ds0,p0,q0,hargs,rfl,rfl,h0,r0⟩:=trodAll_cons hA
 obtain ⟨v1,vs1,d1,ds1,p1,q1,rfl,rfl,rfl,h1,r1⟩:=trodAll_cons r0
 obtain ⟨rfl,rfl,rfl⟩:=trodAll_nil r1
 obtain rfl:args=#[v0,v1]:=by cases args; simp_all
 obtain ⟨rfl,rfl⟩:=trodVars_none hV
 obtain ⟨a0,len0,cap0,rfl⟩:=okWide_slice Tryd.underlying25 (hval 0 25 v0 rfl rfl)
 have k0:=h0
 have lt0:∀ x ∈ p0,x.block<W.heap.size:=by obtain ⟨m,hm⟩:=k0; exact DataW.trod_lt m _ _ _ hm
 obtain ⟨z0,w0⟩:∃ zs,IsRow .u8 W a0 len0 cap0 zs:=by
  obtain ⟨fuel,hf⟩:=h0
  rcases open_ints Tryd.underlying25 Tryd.underlying5 (by kernel_rfl) hf with ⟨hcs,_⟩ | ⟨x,l,c,zs,hcs,_,hl,hm,hz,_,hcell,hwz⟩
  ·simp [Value.cells] at hcs
   obtain ⟨rfl,rfl,rfl⟩:=hcs
   exact ⟨[],.inl ⟨rfl,rfl,rfl,rfl⟩⟩
  ·simp [Value.cells] at hcs
   obtain ⟨rfl,rfl,rfl⟩:=hcs
   exact ⟨zs,.inr ⟨_,rfl,hl,hm,by simpa using hz,hcell,hwz⟩⟩
 obtain ⟨l0,rfl,b0⟩:=w0.byt
 obtain ⟨a1,len1,cap1,rfl⟩:=okWide_slice Tryd.underlying25 (hval 1 25 v1 rfl rfl)
 have k1:=h1
 have lt1:∀ x ∈ p1,x.block<W.heap.size:=by obtain ⟨m,hm⟩:=k1; exact DataW.trod_lt m _ _ _ hm
 obtain ⟨z1,w1⟩:∃ zs,IsRow .u8 W a1 len1 cap1 zs:=by
  obtain ⟨fuel,hf⟩:=h1
  rcases open_ints Tryd.underlying25 Tryd.underlying5 (by kernel_rfl) hf with ⟨hcs,_⟩ | ⟨x,l,c,zs,hcs,_,hl,hm,hz,_,hcell,hwz⟩
  ·simp [Value.cells] at hcs
   obtain ⟨rfl,rfl,rfl⟩:=hcs
   exact ⟨[],.inl ⟨rfl,rfl,rfl,rfl⟩⟩
  ·simp [Value.cells] at hcs
   obtain ⟨rfl,rfl,rfl⟩:=hcs
   exact ⟨zs,.inr ⟨_,rfl,hl,hm,by simpa using hz,hcell,hwz⟩⟩
 obtain ⟨l1,rfl,b1⟩:=w1.byt
 clear hA0 hval0
 refine (law_end (dback_law a0 a1 cap0 cap1 l0 l1 (laid6 hL).1 (laid6 hL).2 b0 b1)).mono fun e W' ⟨he,bel⟩=>?_
 subst he
 exact ⟨_,rfl,_,_,_,[],_,[],hW',trodAll_mk1 (shut_bool Tryd.underlying4 _),(trodAll_cons_mk (Below.trod laidOut (by kernel_rfl) (of_decide_eq_true (by kernel_rfl)) k0 bel lt0) (trodAll_cons_mk (Below.trod laidOut (by kernel_rfl) (of_decide_eq_true (by kernel_rfl)) k1 bel lt1) trodAll_mk0)),rfl,bel.frame _,fun h=>by cases h⟩

theorem over:Rows.deflateBackRow.holds Tryd.pinned (OpenSpec.ofChange Rows.deflateBackSpec) :=
 OpenClaim.holds_of_wide 6 Tryd.f6 rfl rfl rfl rfl rfl rfl rfl ⟨rfl,rfl,rfl,rfl,rfl⟩ rfl rfl rfl rfl rfl (by kernel_rfl) Tryd.func6 (by kernel_rfl)
  (of_decide_eq_true (by kernel_rfl)) (by unfold Func.isWrapper; first | (rw [if_pos (by decide +kernel)]; kernel_rfl) | (rw [if_neg (by decide +kernel)]; exact ⟨rfl,rfl⟩))
  (fun os started H enc _=>lifted os started H enc)
theorem row_proved:Rows.DeflateBackSaid:=over
theorem proved:Rows.DeflateBackCardSaid :=
  Claim7.holds_tied_plain_at .later [] [.widerDeep, .widerDeep, .widerDeep, .widerDeep, .widerDeep, .widerDeep] true (true, "955181fd022f233822cdebfd449e0f4a7fccb7a58148b24261a915bcd7dd2d10") true
    row_proved (fun _ h=>by cases h) (by kernel_rfl) (fun _ h=>by cases h) deflateBack_row_tie rfl ⟨rfl,rfl⟩ (by kernel_rfl) rfl
    (fun f fn hf hfn=>by
      obtain rfl : f = 6 := Option.some.inj ((show Tryd.prog.funcNamed "portolan/portolanlaw07.DeflateBack" = some 6 by kernel_rfl).symm.trans hf) |>.symm
      obtain rfl:fn=Tryd.f6:=(Option.some.inj (Tryd.func6.symm.trans hfn)).symm
      exact ⟨by kernel_rfl,fun j t ht=>by
        rw [Tryd.params6] at ht
        have hm:t ∈ [25,25]:=by simpa using Array.mem_of_getElem? ht
        have hall:([25,25].all fun u=>!Tryd.prog.wantsStandIn u)=true:=by kernel_rfl
        exact (show Tryd.prog.wantsStandIn t=false by simpa using List.all_eq_true.1 hall t hm)⟩)
    (by kernel_rfl)
#print axioms proved
end Go.Proofs.YtloijdbkikccgaaDoor.deflateBack

