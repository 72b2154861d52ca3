/- A pack. -/
import Derived.Test.YteajimobgkempaaGreatDoorPk21
set_option linter.all false
set_option maxRecDepth 100000
set_option maxHeartbeats 8000000
namespace Go.Proofs.YteajimobgkempaaGreatDoor
variable {w0 w:World} {L:List Pr}
open Go.RowKit
namespace PBits
theorem bitsOf_get (n k i:Nat) (h:i<k):(bitsOf n k)[i]?=some (n.testBit i):=by
 induction k generalizing n i with
 | zero=>omega
 | succ k ih =>
  cases i with
  | zero =>
   show some (n % 2 == 1)=_;rw [Nat.testBit_eq_decide_div_mod_eq,Nat.pow_zero,Nat.div_one];rfl
  | succ i =>
   show(bitsOf (n / 2) k)[i]?=_;rw [ih (n / 2) i (by omega),Nat.testBit_succ]
theorem bitsC_rev (n c:Nat):PH.bitsC n c=(bitsOf c n).reverse:=by
 apply List.ext_getElem?;intro i;by_cases h:i<n
 ·rw [List.getElem?_reverse (by rw [bitsOf_length]; exact h),bitsOf_length,bitsOf_get c n _ (by omega)];simp [PH.bitsC,h]
 ·rw [List.getElem?_eq_none (by rw [PH.bitsC_len]; omega),List.getElem?_eq_none (by rw [List.length_reverse,bitsOf_length]; omega)]
theorem num_bitsC (n c:Nat):num (PH.bitsC n c)=rev c n:=by rw [bitsC_rev,num_rev_bitsOf]
end PBits
def WB (g:Nat) (B:List Bool):Pr:=Wr g (PBits.num B) B.length
theorem TR (H:Sp w0 L w):Calls Tryz.prog 46 #[] w (Ret fun v w'=>∃g,v=.pointer (some ⟨g,0,none⟩)/\Sp w0 (WB g []::L) w'):=XI H
theorem Ym (g:Nat) (B:List Bool) (n k:Nat) (H:Sp w0 (WB g B::L) w) (hk:k<=57) (hn:n<2 ^ k) (hB:B.length<=1000000000) :
  Calls Tryz.prog 116 #[.pointer (some ⟨g,0,none⟩),.int .u64 n,.int .i64 k] w fun e w'=>e=.returned (.int .i64 0)/\Sp w0 (WB g (B++PBits.bitsOf n k)::L) w':=by
 refine(Vv g _ _ n k H (PBits.num_lt B) hk hn hB).mono ?_;rintro _ w' ⟨rfl,h⟩;refine⟨rfl,?_⟩;unfold WB;rw [PBits.num_append,PBits.num_bitsOf,Nat.mod_eq_of_lt hn,List.length_append,PBits.bitsOf_length,Nat.mul_comm];exact h
theorem Tm (g:Nat) (B:List Bool) (n k:Nat) (H:Sp w0 (WB g B::L) w) (hk:k<=57) (hn:n<2 ^ k) (hB:B.length<=1000000000) :
  Calls Tryz.prog 140 #[.pointer (some ⟨g,0,none⟩),.int .u64 n,.int .i64 k] w fun e w'=>e=.returned (.int .i64 0)/\Sp w0 (WB g (B++PH.bitsC k n)::L) w':=by
 refine(Tj g _ _ n k H (PBits.num_lt B) hk hn hB).mono ?_;rintro _ w' ⟨rfl,h⟩;refine⟨rfl,?_⟩;unfold WB;rw [PBits.num_append,PBits.num_bitsC,List.length_append,PH.bitsC_len,Nat.mul_comm];exact h
theorem Uu (g:Nat) (B:List Bool) (H:Sp w0 (WB g B::L) w) (hB:B.length<=1000000000) :
  Calls Tryz.prog 115 #[.pointer (some ⟨g,0,none⟩)] w fun e w'=>e=.returned (.int .i64 0)/\Sp w0 (WB g (B++List.replicate (PD.pad B.length) false)::L) w':=by
 refine(Up g _ _ H (PBits.num_lt B) hB).mono ?_;rintro _ w' ⟨rfl,h⟩;refine⟨rfl,?_⟩;unfold WB;rw [PBits.num_append,PBits.num_false,Nat.mul_zero,Nat.add_zero,List.length_append,List.length_replicate,show B.length+PD.pad B.length=(B.length+7) / 8 * 8 by unfold PD.pad; omega];exact h
theorem Uv (g:Nat) (B:List Bool) {v:Value} {l:List UInt8} (H:Sp w0 (WB g B::L) w) (hb:Byt w v l) (h8:B.length % 8=0) (hB:B.length<=1000000000) (hl:l.length<=1000000000) :
  Calls Tryz.prog 117 #[.pointer (some ⟨g,0,none⟩),v] w fun e w'=>e=.returned (.int .i64 0)/\Sp w0 (WB g (B++PBits.ofB l)::L) w':=by
 refine(Uq g _ _ H hb h8 (PBits.num_lt B) hB hl).mono ?_;rintro _ w' ⟨rfl,h⟩;refine⟨rfl,?_⟩;unfold WB;rw [PBits.num_append,PBits.num_ofB,List.length_append,PBits.ofB_length,Nat.mul_comm (2 ^ _)];exact h
theorem TS (g:Nat) (B:List Bool) (H:Sp w0 (WB g B::L) w) (hB:B.length<=1000000000) :
  Calls Tryz.prog 81 #[.pointer (some ⟨g,0,none⟩)] w fun e w'=>e=.returned (.int .i64 B.length)/\Sp w0 (WB g B::L) w':=by
 refine(TQ g _ _ H (by omega)).mono ?_;rintro _ w' ⟨rfl,h⟩;exact⟨rfl,h.sep H⟩
theorem Xp (g:Nat) (B:List Bool) (H:Sp w0 (WB g B::L) w) (hB:B.length<=1000000000) :
  Calls Tryz.prog 49 #[.pointer (some ⟨g,0,none⟩)] w (Ret fun v w'=>Sp w0 (Row 5 1 v (PI.packB B).length (cells8 (PI.packB B))::WB g B::L) w'):=by
 refine(Tk g _ _ H hB).mono ?_;rintro _ w' ⟨v,rfl,h⟩;refine⟨v,rfl,?_⟩;rw [PI.packB_len];exact h
end Go.Proofs.YteajimobgkempaaGreatDoor

