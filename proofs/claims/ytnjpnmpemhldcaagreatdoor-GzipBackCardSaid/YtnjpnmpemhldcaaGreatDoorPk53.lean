/- A pack. -/
import Derived.ShutString
import Derived.Test.YtnjpnmpemhldcaaGreatDoorCards
import Derived.Test.YtnjpnmpemhldcaaGreatDoorTie
import Derived.Test.YtnjpnmpemhldcaaGreatDoorPk52
set_option linter.all false
set_option maxRecDepth 100000
set_option maxHeartbeats 8000000
namespace Go.Proofs.YtnjpnmpemhldcaaGreatDoor
open Go.RowKit
theorem UU {W:World} (h:CrcTab W):Ent [Same W] CrcTab:=Ent.of_same 0 rfl fun w hs i hi=>by
 rw [<- h i hi]; exact World.cell?_of_block (hs _ (Zt (h i hi)))
theorem W7 {W:World} {DL DF:Option Addr} {dl df:Nat} (h:DTabs DL DF dl df W):Ent [Same W] (DTabs DL DF dl df):=Ent.of_same 0 rfl fun _ hs=>h.heap hs
theorem UV {W:World} {v:Value} {l:List UInt8} (h:Byt W v l):Ent [Same W] fun w=>Byt w v l:=Ent.of_same 0 rfl fun _ hs=>h.keep fun p _ hp=>World.cell?_of_block (hs p.block (Zt hp))
theorem Uh {W:World} {A:Option Addr} {X:List OneV} (h:Rd W A (X.flatMap OneV.cells)) (hok:∀x ∈ X,x.Ok W):Ent [Same W] fun w=>Rd w A (X.flatMap OneV.cells)/\∀x ∈ X,x.Ok w:=Ent.of_same 0 rfl fun _ hs=>⟨h.keep fun p _ _ hp=>World.cell?_of_block (hs p.block (Zt hp)),fun x hx=>(hok x hx).keep hs⟩
theorem UW (A:Option Addr) (n c:Nat) (X:List OneV) (BA:Option Addr) (bc:Nat) (bh:List UInt8) (cut:Nat) {W:World} (hT:CrcTab W/\(∃TL TA cl ca,Tabs TL TA cl ca W)/\∃DL DF dl df,DTabs DL DF dl df W) (hn:n=X.length) (hc:n<=c) (hcm:c<=maxLen) (hrd:Rd W A (X.flatMap OneV.cells)) (hok:∀x ∈ X,x.Ok W) (hb:Byt W (.slice BA bh.length bc) bh) (hcut:cut<65536) :
  Calls Tryz.prog 3 #[.slice A n c,.slice BA bh.length bc,.int .u16 cut] W fun e w'=>e=.returned (.bool true)/\Sp W [Same W] w':=by
 obtain⟨a,⟨TL,TA,cl,ca,hT⟩,DL,DF,dl,df,b⟩:=hT;obtain⟨_,_,e,_,d,f⟩:=id hb;injection e with _ _ e
 subst e;exact UT A n c X BA bh.length _ bh cut (Sp.start W) (UU a) (Ub hT) (W7 b) hn.symm hc hcm (Uh hrd hok) rfl d f (UV hb) hcut
open Go.ChangeShapes Go.WideShapes Go.ChangeAt Go.RowKit Go.Lib
theorem laid7 {W : World} (h : laidMetH Tryz.prog [("portolan/crc.table", Rows.laid_portolan_crc_table), ("portolan/deflate.order", Rows.laid_portolan_deflate_order), ("portolan/deflate.longs", Rows.laid_portolan_deflate_longs), ("portolan/deflate.fars", Rows.laid_portolan_deflate_fars), ("portolan/inflate.order", Rows.laid_portolan_inflate_order), ("portolan/inflate.lengths", Rows.laid_portolan_inflate_lengths), ("portolan/inflate.away", Rows.laid_portolan_inflate_away)] W) : CrcTab W /\ (∃ TL TA cl ca, Tabs TL TA cl ca W) /\ ∃ DL DF dl df, DTabs DL DF dl df W := by
 rw [MakeChecks.laidMetH_plain _ _ _ (by kernel_rfl)] at h;have hc:=W6 h;have h0 : VarReads Tryz.prog W "portolan/deflate.order" (Lib.tabData .i64 ordZ) := laidMet.reads h (by simp only [List.mem_cons]; exact .inr (.inl rfl))
 have h1 : VarReads Tryz.prog W "portolan/deflate.longs" (pairData PD.longT) := laidMet.reads h (by simp only [List.mem_cons]; exact .inr (.inr (.inl rfl)))
 have h2 : VarReads Tryz.prog W "portolan/deflate.fars" (pairData PI.awayT) := laidMet.reads h (by simp only [List.mem_cons]; exact .inr (.inr (.inr (.inl rfl))))
 have h3 : VarReads Tryz.prog W "portolan/inflate.order" (Lib.tabData .i64 ordZ) := laidMet.reads h (by simp only [List.mem_cons]; exact .inr (.inr (.inr (.inr (.inl rfl)))))
 have h4 : VarReads Tryz.prog W "portolan/inflate.lengths" (pairData PI.lengthsT) := laidMet.reads h (by simp only [List.mem_cons]; exact .inr (.inr (.inr (.inr (.inr (.inl rfl))))))
 have h5 : VarReads Tryz.prog W "portolan/inflate.away" (pairData PI.awayT) := laidMet.reads h (by simp only [List.mem_cons]; exact .inr (.inr (.inr (.inr (.inr (.inr (.inl rfl)))))))
 exact⟨hc,YV h3 h4 h5,YU h0 h1 h2⟩
end Go.Proofs.YtnjpnmpemhldcaaGreatDoor

namespace Go.Proofs.YtnjpnmpemhldcaaGreatDoor.gzipBack
open Go.ChangeShapes Go.WideShapes Go.ChangeAt Go.RowKit Go.WideMaps Go.WideElems
open Go.ChangeMaps (open_string shut_string)

theorem own:ownKnob Tryz.prog.godebug=none:=by kernel_rfl
theorem laidOut:laidOutB Tryz.prog=true:=by kernel_rfl
def laidL : List (String × DataW Unit) := [("portolan/crc.table", Rows.laid_portolan_crc_table), ("portolan/deflate.order", Rows.laid_portolan_deflate_order), ("portolan/deflate.longs", Rows.laid_portolan_deflate_longs), ("portolan/deflate.fars", Rows.laid_portolan_deflate_fars), ("portolan/inflate.order", Rows.laid_portolan_inflate_order), ("portolan/inflate.lengths", Rows.laid_portolan_inflate_lengths), ("portolan/inflate.away", Rows.laid_portolan_inflate_away)]
theorem door_met (os:Os) (args:Array Value):laidMetH Tryz.prog laidL ((World.doorLaid Tryz.prog 4000 os).forCall (fun _ _=>0) ⟨#[],args,[]⟩).memory :=
 laidMetH_of_parts3 (fuel:=10) (laidMet_of_run' 10 (by kernel_rfl) (by kernel_rfl)) (by kernel_rfl) (by kernel_rfl)
theorem lifted (os:Os) (started:os.Started) (H:Type) (enc:TypeId × Value->H) :
  ReturnsInHanded {} Tryz.checked os 3 .any (fun w args=>(Rows.gzipBackSpec.pre enc Tryz.prog Tryz.f3 [] false w args/\laidMetH Tryz.prog laidL w)/\sizedMet enc Tryz.prog Tryz.f3 (OpenSpec.ofChange Rows.gzipBackSpec) false w args)
   (Rows.gzipBackSpec.post enc Tryz.prog Tryz.f3 false true false false):=by
 refine returnsInHanded_of_change_and (C:=Tryz.checked) (X:=fun w _=>laidMetH Tryz.prog laidL w) (fun _ _ _ hh h=>h.of_heap hh) own started (by kernel_rfl) Tryz.func3
  (ChangeSpec.witness_shaped (enc:=enc) (C:=Tryz.checked) (os:=os) (X:=fun w _=>laidMetH Tryz.prog laidL w) false (World.doorLaid Tryz.prog 4000 os) #[.slice none 0 0,.slice none 0 0,.int .u16 0] 8 rfl (World.shaped_of_RefB (by kernel_rfl) (by kernel_rfl)) (by kernel_rfl) (by kernel_rfl) (by kernel_rfl) (door_met os _)) ?_
 intro W base args Q gs s b E _ _ R _;have a:∀(j:Nat) t v,Tryz.f3.params[j]?=some t->args[j]?=some v->Value.okWide Tryz.prog W .any base t v:=b;have u:=E;obtain⟨p,q,k,S,rfl,T,U⟩:=E;have F:DataW.TrodAll enc Tryz.prog W 0 (fun _=>true) true Tryz.f3.params.toList args.toList Q p:=k;rw [Tryz.params3] at F a;obtain⟨G,V,d0,Y,Z,q0,y,rfl,rfl,I,r0⟩:=trodAll_cons F;obtain⟨J,a2,d1,a3,p1,q1,rfl,rfl,rfl,K,r1⟩:=trodAll_cons r0;obtain⟨L,a4,d2,a5,p2,q2,rfl,rfl,rfl,h2,r2⟩:=trodAll_cons r1;obtain⟨rfl,rfl,rfl⟩:=trodAll_nil r2;obtain rfl:args=#[G,J,L]:=by cases args; simp_all
 obtain⟨rfl,rfl⟩:=trodVars_none S;obtain⟨M,d,f,rfl⟩:=okWide_slice Tryz.underlying22 (a 0 22 G rfl rfl);have N:=I;have z:∀x ∈ Z,x.block<W.heap.size:=by obtain⟨m,n⟩:=N; exact DataW.trod_lt m _ _ _ n
 obtain⟨A,w0,l0,c0,m0,g0⟩:∃ps:List OneV,Rd W M (ps.flatMap OneV.cells)/\d=ps.length/\d<=f/\f<=maxLen/\∀p ∈ ps,p.Ok W:=by
  obtain⟨o,B⟩:=I;exact Ua 8 (by decide) OneV.cells (fun _=>rfl) (fun p=>p.Ok W) Tryz.underlying22 (by kernel_rfl) (Sj Tryz.underlying30 rfl (by kernel_rfl) rfl (by kernel_rfl) Tryz.underlying28 (by kernel_rfl) Tryz.underlying5 Tryz.underlying5 Tryz.underlying5 Tryz.underlying26 Tryz.underlying23 Tryz.underlying5 (by kernel_rfl) Tryz.underlying9 Tryz.underlying9 Tryz.underlying23) B
 obtain⟨O,r,g,rfl⟩:=okWide_slice Tryz.underlying23 (a 1 23 J rfl rfl);have P:=K;have D:∀x ∈ p1,x.block<W.heap.size:=by obtain⟨m,n⟩:=P; exact DataW.trod_lt m _ _ _ n
 obtain⟨z1,w1⟩:∃zs,IsRow .u8 W O r g zs:=by
  obtain⟨o,B⟩:=K;rcases open_ints Tryz.underlying23 Tryz.underlying5 (by kernel_rfl) B with ⟨hcs,_⟩ | ⟨x,l,c,zs,hcs,_,hl,n,hz,_,hcell,hwz⟩
  ·simp [Value.cells] at hcs;obtain⟨rfl,rfl,rfl⟩:=hcs;exact⟨[],.inl ⟨rfl,rfl,rfl,rfl⟩⟩
  ·simp [Value.cells] at hcs;obtain⟨rfl,rfl,rfl⟩:=hcs;exact⟨zs,.inr ⟨_,rfl,hl,n,by simpa using hz,hcell,hwz⟩⟩
 obtain⟨l1,rfl,b1⟩:=w1.byt;obtain⟨x2,rfl,rfl,rfl,i⟩:=open_int Tryz.underlying24 (a 2 24 L rfl rfl) h2;obtain⟨n2,rfl⟩:=Int.eq_ofNat_of_zero_le (bounds_u16 i).1;have a6:=(bounds_u16 i).2;clear k b;refine(Td (UW M d f A O g l1 n2 (laid7 R) l0 c0 m0 w0 g0 b1 (by omega))).mono fun e W' ⟨he,bel⟩=>?_;subst he;exact⟨_,rfl,_,_,_,[],_,[],u,trodAll_mk1 (shut_bool Tryz.underlying4 _),(trodAll_cons_mk (Below.trod laidOut (by kernel_rfl) (of_decide_eq_true (by kernel_rfl)) N bel z) (trodAll_cons_mk (Below.trod laidOut (by kernel_rfl) (of_decide_eq_true (by kernel_rfl)) P bel D) (trodAll_cons_mk (shut_int Tryz.underlying24 i) trodAll_mk0))),rfl,bel.frame _,fun h=>by cases h⟩

theorem over:Rows.gzipBackRow.holds Tryz.pinned (OpenSpec.ofChange Rows.gzipBackSpec) :=
 OpenClaim.holds_of_wide 3 Tryz.f3 rfl rfl rfl rfl rfl rfl rfl ⟨rfl,rfl,rfl,rfl,rfl⟩ rfl rfl rfl rfl rfl (by kernel_rfl) Tryz.func3 (by kernel_rfl)
  (of_decide_eq_true (by kernel_rfl)) (by unfold Func.isWrapper; first | (rw [if_pos (by decide +kernel)]; kernel_rfl) | (rw [if_neg (by decide +kernel)]; exact⟨rfl,rfl⟩))
  (fun os started H enc _=>lifted os started H enc)
theorem row_proved:Rows.GzipBackSaid:=over
theorem proved:Rows.GzipBackCardSaid :=
  Claim7.holds_tied_plain_at .later [] [.data, .widerDeep, .widerDeep, .widerDeep, .widerDeep, .widerDeep, .widerDeep] true (true, "9ad7281e7110ef5d2c0524746f9211e8c6f525f031413f5546ca3d79be6bd6a8") true
    row_proved (fun _ h=>by cases h) (by kernel_rfl) (fun _ h=>by cases h) gzipBack_row_tie rfl ⟨rfl,rfl⟩ (by kernel_rfl) rfl
    (fun f fn hf hfn=>by
      obtain rfl : f = 3 := Option.some.inj ((show Tryz.prog.funcNamed "portolan/portolanlaw08.GzipBack" = some 3 by kernel_rfl).symm.trans hf) |>.symm
      obtain rfl:fn=Tryz.f3:=(Option.some.inj (Tryz.func3.symm.trans hfn)).symm
      exact⟨by kernel_rfl,fun j t ht=>by
        rw [Tryz.params3] at ht
        have hm:t ∈ [22,23,24]:=by simpa using Array.mem_of_getElem? ht
        have hall:([22,23,24].all fun u=>!Tryz.prog.wantsStandIn u)=true:=by kernel_rfl
        exact(show Tryz.prog.wantsStandIn t=false by simpa using List.all_eq_true.1 hall t hm)⟩)
    (by kernel_rfl)
#print axioms proved
end Go.Proofs.YtnjpnmpemhldcaaGreatDoor.gzipBack

