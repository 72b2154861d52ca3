/- DefKnP: what the closed law of deflate says (plain). -/
import Derived.Test.YtloijdbkikccgaaGreatDoorPk01
import Derived.Test.YtloijdbkikccgaaGreatDoorPk02
import Derived.Test.YtloijdbkikccgaaGreatDoorPk03
import Derived.Test.YtloijdbkikccgaaGreatDoorPk04
import Derived.Test.YtloijdbkikccgaaGreatDoorPk05
import Derived.Test.YtloijdbkikccgaaGreatDoorPk06
import Derived.Test.YtloijdbkikccgaaGreatDoorPk07
import Derived.Test.YtloijdbkikccgaaGreatDoorPk08
import Derived.Test.YtloijdbkikccgaaGreatDoorPk09
import Derived.Test.YtloijdbkikccgaaGreatDoorPk10
import Derived.Test.YtloijdbkikccgaaGreatDoorPk11
import Derived.Test.YtloijdbkikccgaaGreatDoorPk12
import Derived.Test.YtloijdbkikccgaaGreatDoorPk13
import Derived.Test.YtloijdbkikccgaaGreatDoorPk14
import Derived.Test.YtloijdbkikccgaaGreatDoorPk15
import Derived.Test.YtloijdbkikccgaaGreatDoorPk16
import Derived.Test.YtloijdbkikccgaaGreatDoorPk17
import Derived.Test.YtloijdbkikccgaaGreatDoorPk18
import Derived.Test.YtloijdbkikccgaaGreatDoorPk19
import Derived.Test.YtloijdbkikccgaaGreatDoorPk20
import Derived.Test.YtloijdbkikccgaaGreatDoorPk21
import Derived.Test.YtloijdbkikccgaaGreatDoorPk22
import Derived.Test.YtloijdbkikccgaaGreatDoorPk23
import Derived.Test.YtloijdbkikccgaaGreatDoorPk24
import Derived.Test.YtloijdbkikccgaaGreatDoorPk25
import Derived.Test.YtloijdbkikccgaaGreatDoorPk26
import Derived.Test.YtloijdbkikccgaaGreatDoorPk27
import Derived.Test.YtloijdbkikccgaaGreatDoorPk28
import Derived.Test.YtloijdbkikccgaaGreatDoorPk29
import Derived.Test.YtloijdbkikccgaaGreatDoorPk30
import Derived.Test.YtloijdbkikccgaaGreatDoorPk31
import Derived.Test.YtloijdbkikccgaaGreatDoorPk32
import Derived.Test.YtloijdbkikccgaaGreatDoorPk33
import Derived.Test.YtloijdbkikccgaaGreatDoorPkSL
import Derived.Test.YtloijdbkikccgaaGreatDoorPkSK
namespace Go.Proofs.YtloijdbkikccgaaGreatDoor
set_option linter.unusedVariables false
set_option linter.unusedSimpArgs false
namespace PD
def lits (l:List UInt8):List PM.St:=l.map fun c=>(0,0,c)
theorem lits_len (l:List UInt8):(lits l).length=l.length:=List.length_map _
theorem lits_mays (l:List UInt8) (n:Nat):PM.mays (lits l) n:=by
 induction l generalizing n with
 | nil=>trivial
 | cons c l ih=>exact⟨.inl ⟨rfl,rfl⟩,ih _⟩
theorem lits_size (l:List UInt8):PM.size (lits l)=l.length:=by
 induction l with
 | nil=>rfl
 | cons c l ih =>
  show PM.made (0,0,c)+PM.size (lits l)=l.length+1
  rw [ih]
  have:PM.made (0,0,c)=1:=rfl
  omega
theorem lits_snoc (l:List UInt8) (c:UInt8):lits (l++[c])=lits l++[(0,0,c)]:=by unfold lits; rw [List.map_append]; rfl
def bsK (i:Nat):List UInt8:=(List.range i).map fun k=>UInt8.ofNat (7 * k)
theorem bsK_len (i:Nat):(bsK i).length=i:=by unfold bsK; rw [List.length_map,List.length_range]
theorem bsK_succ (i:Nat):bsK (i+1)=bsK i++[UInt8.ofNat (7 * i)]:=by unfold bsK; rw [List.range_succ,List.map_append]; rfl
theorem all_many:many (lits (bsK 1200))=3:=by unfold many; rw [lits_len,bsK_len]; decide
theorem all_at:atB (lits (bsK 1200)) 2=1024:=by
 unfold atB lits
 rw [<- List.map_take]
 have h:=lits_size ((bsK 1200).take (512 * 2))
 unfold lits at h
 rw [h,List.length_take,bsK_len]
 decide
def runY (k:Nat):List PM.St:=(0,0,122)::List.replicate k (258,1,0)
theorem runY_succ (k:Nat):runY (k+1)=runY k++[(258,1,0)]:=by
 unfold runY; rw [List.replicate_succ',List.cons_append]
theorem runY_len (k:Nat):(runY k).length=k+1:=by unfold runY; rw [List.length_cons,List.length_replicate]
theorem rep_mays (k n:Nat) (h:1<=n):PM.mays (List.replicate k (258,1,0)) n:=by
 induction k generalizing n with
 | zero=>trivial
 | succ k ih =>
  rw [List.replicate_succ]
  exact⟨.inr ⟨by decide,by decide,by decide,by decide,h,rfl⟩,ih _ (by omega)⟩
theorem rep_size (k:Nat):PM.size (List.replicate k (258,1,0))=258 * k:=by
 induction k with
 | zero=>rfl
 | succ k ih =>
  rw [List.replicate_succ]
  show PM.made (258,1,0)+PM.size (List.replicate k (258,1,0))=_
  rw [ih]
  have:PM.made (258,1,0)=258:=rfl
  omega
theorem runY_mays (k:Nat):PM.mays (runY k) 0:=⟨.inl ⟨rfl,rfl⟩,rep_mays k _ (by decide)⟩
theorem runY_size (k:Nat):PM.size (runY k)=1+258 * k:=by
 show PM.made (0,0,122)+PM.size (List.replicate k (258,1,0))=_
 rw [rep_size]
 have:PM.made (0,0,122)=1:=rfl
 omega
set_option maxRecDepth 1000000 in
theorem run_dyn:dynN (runY 300)<=2300:=by decide +kernel
theorem run_short (b:List UInt8):(stream (runY 300) b).length<300:=by
 have hm:many (runY 300)=1:=by unfold many; rw [runY_len]; decide
 have hp:partY (runY 300) 0=runY 300:=by unfold partY; rw [Nat.mul_zero,List.drop_zero,List.take_of_length_le (by rw [runY_len]; decide)]
 have h1:=(partD_le (partY (runY 300) 0) (partB (runY 300) b 0) (decide ((runY 300).length<=512 * (0+1))) (stD (runY 300) b 0).length).2.1
 have h2:=run_dyn
 rw [stream_len]
 have e:bitsD (runY 300) b=stD (runY 300) b 0++partD (partY (runY 300) 0) (partB (runY 300) b 0) (decide ((runY 300).length<=512 * (0+1))) (stD (runY 300) b 0).length:=by
  unfold bitsD; rw [hm]; rfl
 rw [e,List.length_append]
 rw [hp] at h1
 have h3:(stD (runY 300) b 0).length=0:=rfl
 rw [hp]
 omega
theorem fixN_pos (Y:List PM.St):0<fixN Y:=by unfold fixN; omega
theorem dynN_pos (Y:List PM.St):0<dynN Y:=by unfold dynN; omega
theorem kn_long:longI 227=(284,5,0):=by decide +kernel
theorem kn_far:farI 32768=(29,13,8191):=by decide +kernel
theorem kn_far5:farI 5=(4,1,0):=by decide +kernel
end PD
theorem kn_bad1:mayI [(3,1,0)] 0=false:=by decide +kernel
theorem kn_bad2:mayI [(1,0,0)] 0=false:=by decide +kernel
end Go.Proofs.YtloijdbkikccgaaGreatDoor
