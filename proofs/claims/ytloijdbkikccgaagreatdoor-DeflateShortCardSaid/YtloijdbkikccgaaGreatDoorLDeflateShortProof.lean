/- DeflateShort: the law's statement, out of its walk. A stream is no longer than its bytes and five more for each part, and one block's is as long as the shortest of its three sizes says, and of that kind; for all steps; the six listed variables are tied to the program's text. -/
import Derived.Test.YtloijdbkikccgaaGreatDoorRows
import Derived.WalkKit
import Derived.ProofKit
import Derived.OpenShut
import Derived.ShutString
import Derived.ChangeOld
import Derived.Below
import Derived.Test.YtloijdbkikccgaaGreatDoorCards
import Derived.Test.YtloijdbkikccgaaGreatDoorTie
import Derived.LaidMore
import Derived.Stop.Joined
import Derived.SevenTiedAt
import Derived.Test.YtloijdbkikccgaaGreatDoorLDefSh
import Derived.Test.YtloijdbkikccgaaGreatDoorPk01
import Derived.Test.YtloijdbkikccgaaGreatDoorPk02
import Derived.Test.YtloijdbkikccgaaGreatDoorPk03
import Derived.Test.YtloijdbkikccgaaGreatDoorPk04
import Derived.Test.YtloijdbkikccgaaGreatDoorPk05
import Derived.Test.YtloijdbkikccgaaGreatDoorPk06
import Derived.Test.YtloijdbkikccgaaGreatDoorPk07
import Derived.Test.YtloijdbkikccgaaGreatDoorPk08
import Derived.Test.YtloijdbkikccgaaGreatDoorPk09
import Derived.Test.YtloijdbkikccgaaGreatDoorPk10
import Derived.Test.YtloijdbkikccgaaGreatDoorPk11
import Derived.Test.YtloijdbkikccgaaGreatDoorPk12
import Derived.Test.YtloijdbkikccgaaGreatDoorPk13
import Derived.Test.YtloijdbkikccgaaGreatDoorPk14
import Derived.Test.YtloijdbkikccgaaGreatDoorPk15
import Derived.Test.YtloijdbkikccgaaGreatDoorPk16
import Derived.Test.YtloijdbkikccgaaGreatDoorPk17
import Derived.Test.YtloijdbkikccgaaGreatDoorPk18
import Derived.Test.YtloijdbkikccgaaGreatDoorPk19
import Derived.Test.YtloijdbkikccgaaGreatDoorPk20
import Derived.Test.YtloijdbkikccgaaGreatDoorPk21
import Derived.Test.YtloijdbkikccgaaGreatDoorPk22
import Derived.Test.YtloijdbkikccgaaGreatDoorPk23
import Derived.Test.YtloijdbkikccgaaGreatDoorPk24
import Derived.Test.YtloijdbkikccgaaGreatDoorPk25
import Derived.Test.YtloijdbkikccgaaGreatDoorPk26
import Derived.Test.YtloijdbkikccgaaGreatDoorPk27
import Derived.Test.YtloijdbkikccgaaGreatDoorPk28
import Derived.Test.YtloijdbkikccgaaGreatDoorPk29
import Derived.Test.YtloijdbkikccgaaGreatDoorPk30
import Derived.Test.YtloijdbkikccgaaGreatDoorPk31
import Derived.Test.YtloijdbkikccgaaGreatDoorPk32
import Derived.Test.YtloijdbkikccgaaGreatDoorPk33
import Derived.Test.YtloijdbkikccgaaGreatDoorPkSL
import Derived.Test.YtloijdbkikccgaaGreatDoorPkSS
namespace Go.Proofs.YtloijdbkikccgaaGreatDoor.deflateShort
open Go.ChangeShapes Go.WideShapes Go.ChangeAt Go.RowKit Go.WideMaps Go.WideElems
open Go.ChangeMaps (open_string shut_string)
set_option linter.unusedVariables false

theorem own:ownKnob Tryz.prog.godebug=none:=by kernel_rfl
theorem laidOut:laidOutB Tryz.prog=true:=by kernel_rfl
def laidL : List (String × DataW Unit) := [("portolan/deflate.order", Rows.laid_portolan_deflate_order), ("portolan/deflate.longs", Rows.laid_portolan_deflate_longs), ("portolan/deflate.fars", Rows.laid_portolan_deflate_fars), ("portolan/inflate.order", Rows.laid_portolan_inflate_order), ("portolan/inflate.lengths", Rows.laid_portolan_inflate_lengths), ("portolan/inflate.away", Rows.laid_portolan_inflate_away)]
theorem door_met (os:Os) (args:Array Value):laidMetH Tryz.prog laidL ((World.doorLaid Tryz.prog 4000 os).forCall (fun _ _=>0) ⟨#[],args,[]⟩).memory :=
 laidMetH_of_parts3 (fuel:=10) (laidMet_of_run' 10 (by kernel_rfl) (by kernel_rfl)) (by kernel_rfl) (by kernel_rfl)
set_option maxRecDepth 100000 in
set_option maxHeartbeats 1000000 in
theorem lifted (os:Os) (started:os.Started) (H:Type) (enc:TypeId × Value->H) :
  ReturnsInHanded {} Tryz.checked os 6 .any (fun w args=>(Rows.deflateShortSpec.pre enc Tryz.prog Tryz.f6 [] false w args/\laidMetH Tryz.prog laidL w)/\sizedMet enc Tryz.prog Tryz.f6 (OpenSpec.ofChange Rows.deflateShortSpec) false w args)
   (Rows.deflateShortSpec.post enc Tryz.prog Tryz.f6 false true false false):=by
 refine returnsInHanded_of_change_and (C:=Tryz.checked) (X:=fun w _=>laidMetH Tryz.prog laidL w) (fun _ _ _ hh h=>h.of_heap hh) own started (by kernel_rfl) Tryz.func6
  (ChangeSpec.witness_shaped (enc:=enc) (C:=Tryz.checked) (os:=os) (X:=fun w _=>laidMetH Tryz.prog laidL w) false (World.doorLaid Tryz.prog 4000 os) #[.slice none 0 0] 8 rfl (World.shaped_of_RefB (by kernel_rfl) (by kernel_rfl)) (by kernel_rfl) (by kernel_rfl) (by kernel_rfl) (door_met os _)) ?_
 intro W base args ds gs before hval0 hW _ _ hL _
 have hval:∀(j:Nat) t v,Tryz.f6.params[j]?=some t->args[j]?=some v->Value.okWide Tryz.prog W .any base t v:=hval0
 have hW':=hW
 obtain⟨p,q,hA0,hV,rfl,hfz,hnd⟩:=hW
 have hA:DataW.TrodAll enc Tryz.prog W 0 (fun _=>true) true Tryz.f6.params.toList args.toList ds p:=hA0
 rw [Tryz.params6] at hA hval
 obtain⟨v0,vs0,d0,ds0,p0,q0,hargs,rfl,rfl,h0,r0⟩:=trodAll_cons hA
 obtain⟨rfl,rfl,rfl⟩:=trodAll_nil r0
 obtain rfl:args=#[v0]:=by cases args; simp_all
 obtain⟨rfl,rfl⟩:=trodVars_none hV
 obtain⟨a0,len0,cap0,rfl⟩:=okWide_slice Tryz.underlying50 (hval 0 50 v0 rfl rfl)
 have k0:=h0
 have lt0:∀x ∈ p0,x.block<W.heap.size:=by obtain⟨m,hm⟩:=k0; exact DataW.trod_lt m _ _ _ hm
 obtain⟨ps0,w0,l0,c0,m0,_⟩:∃ps:List StI,Rd W a0 (ps.flatMap stIC)/\len0=ps.length/\len0<=cap0/\cap0<=maxLen/\∀p ∈ ps,True:=by
  obtain⟨fuel,hf⟩:=h0
  exact open_rowN 3 (by decide) stIC (fun _=>rfl) (fun _=>True) Tryz.underlying50 (by kernel_rfl) (el_step Tryz.underlying75 (by kernel_rfl) Tryz.underlying3 Tryz.underlying3 Tryz.underlying5) hf
 clear hA0 hval0
 refine(law_end (dshort_law a0 len0 cap0 ps0 (laid6 hL) l0 c0 m0 w0)).mono fun e W' ⟨he,bel⟩=>?_
 subst he
 exact⟨_,rfl,_,_,_,[],_,[],hW',trodAll_mk1 (shut_bool Tryz.underlying4 _),(trodAll_cons_mk (Below.trod laidOut (by kernel_rfl) (of_decide_eq_true (by kernel_rfl)) k0 bel lt0) trodAll_mk0),rfl,bel.frame _,fun h=>by cases h⟩

theorem over:Rows.deflateShortRow.holds Tryz.pinned (OpenSpec.ofChange Rows.deflateShortSpec) :=
 OpenClaim.holds_of_wide 6 Tryz.f6 rfl rfl rfl rfl rfl rfl rfl ⟨rfl,rfl,rfl,rfl,rfl⟩ rfl rfl rfl rfl rfl (by kernel_rfl) Tryz.func6 (by kernel_rfl)
  (of_decide_eq_true (by kernel_rfl)) (by unfold Func.isWrapper; first | (rw [if_pos (by decide +kernel)]; kernel_rfl) | (rw [if_neg (by decide +kernel)]; exact⟨rfl,rfl⟩))
  (fun os started H enc _=>lifted os started H enc)
theorem row_proved:Rows.DeflateShortSaid:=over
theorem proved:Rows.DeflateShortCardSaid :=
  Claim7.holds_tied_plain_at .later [] [.widerDeep, .widerDeep, .widerDeep, .widerDeep, .widerDeep, .widerDeep] true (true, "667321f64d56a2fb27d81c2839315a5e257da6b620aee93502db901d91613938") true
    row_proved (fun _ h=>by cases h) (by kernel_rfl) (fun _ h=>by cases h) deflateShort_row_tie rfl ⟨rfl,rfl⟩ (by kernel_rfl) rfl
    (fun f fn hf hfn=>by
      obtain rfl : f = 6 := Option.some.inj ((show Tryz.prog.funcNamed "portolan/portolanlaw07.DeflateShort" = some 6 by kernel_rfl).symm.trans hf) |>.symm
      obtain rfl:fn=Tryz.f6:=(Option.some.inj (Tryz.func6.symm.trans hfn)).symm
      exact⟨by kernel_rfl,fun j t ht=>by
        rw [Tryz.params6] at ht
        have hm:t ∈ [50]:=by simpa using Array.mem_of_getElem? ht
        have hall:([50].all fun u=>!Tryz.prog.wantsStandIn u)=true:=by kernel_rfl
        exact(show Tryz.prog.wantsStandIn t=false by simpa using List.all_eq_true.1 hall t hm)⟩)
    (by kernel_rfl)
#print axioms proved
end Go.Proofs.YtloijdbkikccgaaGreatDoor.deflateShort
