/- A pack of texts: ConcatI InfF RowKit OpenRows InfOpen. -/
import Derived.ChangeSame
import Derived.Deep.Fields
import Derived.Deep.Slices
import Derived.Laws.BitsAllLaws
import Derived.OpenShut
import Derived.ProofKit
import Derived.Test.YtloijdbkikccgaaDoorPk01
import Derived.Test.YtloijdbkikccgaaDoorPk10
import Derived.Test.YtloijdbkikccgaaDoorPk13
import Derived.Test.YtloijdbkikccgaaDoorPk14
import Derived.Test.YtloijdbkikccgaaDoorPk18
import Derived.Test.YtloijdbkikccgaaDoorPk21
import Derived.Test.YtloijdbkikccgaaDoorPk35
namespace Go.Proofs.YtloijdbkikccgaaDoor
open Go.RowKit
theorem infoI:(Tryd.prog.info? 3).map (fun i=>(i.zero,i.size,i.bytes))=some (some (.int .i64 0),1,8):=by kernel_rfl
set_option maxRecDepth 100000 in
set_option maxHeartbeats 2000000 in
theorem grow_okI (n:Nat) {w0 w:World} {L:List Pr} (H:Sp w0 L w) (hn:n≤1000000000) :
  Calls Tryd.prog 155 #[.slice none 0 0,.int .i64 (n:Int)] w fun e w'=>∃ v,e=.returned v∧Sp w0 (Row 3 1 v 0 []::L) w':=by
 obtain ⟨i0,hi,hz0,hz1,hz2⟩:=info_parts infoI
 by_cases h0:0<n
 ·have k1:(0:Int)<(n:Int):=by omega
  go_enter Tryd.func155,Tryd.ntmps155
  go_wp2_with (at_builtin; refine wpList_zeros_sp rfl _ _ 58 3 rfl 3 i0 (.int .i64 0) 1 8 Tryd.underlying58 Tryd.underlying3 hi hz0 hz1 hz2 rfl (by decide) n rfl rfl h0 hn (by decide) H ?_)
  intro g c w2 h1 h2 H2
  have H3:=H2.rowCut 0 (Nat.zero_le _)
  rw [Nat.zero_mul,List.take_zero] at H3
  have k2:(0:Int)≤(c:Int):=by omega
  go_wp2_with fail
  go_ret
  exact ⟨_,rfl,H3⟩
 ·have k1:¬ (0:Int)<(n:Int):=by omega
  obtain rfl:n=0:=by omega
  go_enter Tryd.func155,Tryd.ntmps155
  go_wp2_with fail
  go_ret
  exact ⟨_,rfl,H.rowNil _ _⟩
set_option maxRecDepth 100000 in
set_option maxHeartbeats 2000000 in
theorem concat_okI (ad:Addr) (k c:Nat) (qs:List Part) {w0 w:World} {L:List Pr} (H:Sp w0 L w) (hk:qs.length=k) (hb:Ent L (fun w=>Rd w (some ad) (qs.map Part.val))) (hq:∀ q ∈ qs,q.Ok L 1) (hs:Part.sum qs≤1000000) (hkm:k≤1000000) :
  Calls Tryd.prog 136 #[.slice (some ad) k c] w fun e w'=>∃ v,e=.returned v∧Sp w0 (Row 3 1 v (Part.sum qs) (Part.cat qs)::L) w':=by
 obtain ⟨i0,hi,hz0,hz1,hz2⟩:=info_parts infoI
 obtain ⟨N,hN⟩:∃ N,Part.sum qs=N:=⟨_,rfl⟩
 have hle:∀ i,Part.sum (qs.take i)≤N:=fun i=>by rw [← hN]; exact Part.sum_take qs i
 have HK:=Lib.hid hk
 have HB:=Lib.hid hb
 have HQ:=Lib.hid hq
 have HN:=Lib.hid hN
 have HLE:=Lib.hid hle
 have hNl:N≤1000000:=by omega
 rw [hN]
 have hget:∀ i,i<k→∃ q,qs[i]?=some q∧q.Ok L 1∧qs.take (i+1)=qs.take i++[q]∧∀ w',Sp w0 L w'→w'.cell? (ad.add i)=some (.slice q.A q.n q.c):=fun i hi=>by
  have hil:i<qs.length:=by rw [hk]; exact hi
  refine ⟨qs[i],List.getElem?_eq_getElem hil,hq _ (List.getElem_mem hil),List.take_succ_eq_append_getElem hil,fun w' H'=>?_⟩
  obtain ⟨ad',e,hc⟩:=hb _ _ H' (by intro h; have:=congrArg List.length h; simp at this; subst this; simp at hil)
  injection e with e
  subst e
  refine hc i _ ?_
  rw [List.getElem?_map,List.getElem?_eq_getElem hil]; rfl
 have HG:=Lib.hid hget
 clear hk hb hq hN hle hs hget
 go_enter Tryd.func136,Tryd.ntmps136
 go_wp2_with fail
 go_loopw [3,11] (fun sv iv wr=>∃ (i s:Nat),iv=.int .i64 (i:Int)∧sv=.int .i64 (s:Int)∧i≤k∧Hid (Part.sum (qs.take i)=s)∧Sp w0 L wr) (fun _ iv _=>k - (intOf iv).toNat)
 case atStart=>exact ⟨0,0,rfl,rfl,Nat.zero_le _,Lib.hid rfl,H⟩
 case round =>
  clear H
  obtain ⟨i,s,rfl,rfl,hik,HS,H⟩:=hrel
  have hsN:s≤N:=by rw [← HS.out]; exact HLE.out i
  by_cases hin:i<k
  ·have k1:(i:Int)<(k:Int):=by omega
   obtain ⟨q,h1,h2,h3,h4⟩:=HG.out i hin
   have hc:=h4 _ H
   have hs2:Part.sum (qs.take (i+1))=s+q.n:=by rw [h3,Part.sum_snoc,HS.out]
   have hs3:s+q.n≤N:=by rw [← hs2]; exact HLE.out _
   have HS2:=Lib.hid hs2
   obtain ⟨qA,qn,qc,qx⟩:=q
   simp only at hc HS2 hs3
   have k2:¬ (s:Int)+(qn:Int)<0:=by omega
   clear h1 h2 h3 h4 hs2
   go_wp2_with fail
   go_roundw
   case rel=>exact ⟨i+1,s+qn,by go_num,by go_num,by omega,HS2,H⟩
   case measure=>first | (simp [intOf]; omega) | simp [intOf]
  ·have k1:¬ (i:Int)<(k:Int):=by omega
   obtain rfl:i=k:=by omega
   have hsN2:s=N:=by rw [← HS.out,← HN.out,List.take_of_length_le (by rw [HK.out]; exact Nat.le_refl _)]
   subst hsN2
   have hg:=grow_okI s H (by omega)
   have HGR:=Lib.hid hg
   clear hg
   go_wp2_with fail
   refine HGR.out.mono ?_
   rintro _ w2 ⟨v,rfl,H2⟩
   clear HGR H
   go_wp2_with fail
   go_loopw [6,27] (fun vv jv wr=>∃ (j:Nat),jv=.int .i64 (j:Int)∧j≤i∧Sp w0 (Row 3 1 vv (Part.sum (qs.take j)) (Part.cat (qs.take j))::L) wr) (fun _ jv _=>i - (intOf jv).toNat)
   case atStart=>exact ⟨0,rfl,Nat.zero_le _,H2⟩
   case round =>
    rename_i v0 _
    clear H2
    rename_i u6 u27
    obtain ⟨j,rfl,hjk,H⟩:=hrel
    obtain ⟨r,hr⟩:∃ r,Part.sum (qs.take j)=r:=⟨_,rfl⟩
    obtain ⟨X,hX⟩:∃ X,Part.cat (qs.take j)=X:=⟨_,rfl⟩
    have hrN:r≤s:=by rw [← hr]; exact HLE.out j
    rw [hr,hX] at H
    obtain ⟨VA,Vc,hvf,_,_⟩:=Row.form H 0 rfl
    subst hvf
    by_cases hjn:j<i
    ·have k1:(j:Int)<(i:Int):=by omega
     obtain ⟨q,h1,h2,h3,h4⟩:=HG.out j hjn
     have hc:=h4 _ H.tail
     have hs2:Part.sum (qs.take (j+1))=r+q.n:=by rw [h3,Part.sum_snoc,hr]
     have hs3:r+q.n≤s:=by rw [← hs2]; exact HLE.out _
     have hx2:Part.cat (qs.take (j+1))=X++q.xs:=by rw [h3,Part.cat_snoc,hX]
     have HS2:=Lib.hid hs2
     have HX2:=Lib.hid hx2
     have HO:=Lib.hid h2
     obtain ⟨qA,qn,qc,qx⟩:=q
     simp only at hc HS2 HX2 hs3
     clear h1 h2 h3 h4 hs2 hx2 hr hX
     go_wp2_with (at_builtin; refine wpList_append_sp rfl _ _ 58 rfl 3 i0 (.int .i64 0) 1 8 Tryd.underlying58 hi hz0 hz1 hz2 rfl (by decide) _ r X rfl H qA qn qc qx rfl HO.out.1 (HO.out.2.1 _ _ H.tail) HO.out.2.2 (by unfold maxLen; omega) (by omega) ?_)
     intro v9 w9 H9 _
     go_wp2_with fail
     go_roundw
     case rel=>exact ⟨j+1,by go_num,by omega,by rw [HS2.out,HX2.out]; exact H9⟩
     case measure=>first | (simp [intOf]; omega) | simp [intOf]
    ·have k1:¬ (j:Int)<(i:Int):=by omega
     obtain rfl:j=i:=by omega
     have e1:qs.take j=qs:=List.take_of_length_le (by rw [HK.out]; exact Nat.le_refl _)
     rw [e1,HN.out] at hr
     rw [e1] at hX
     have HR:=Lib.hid hr
     have HX:=Lib.hid hX
     clear hr hX e1
     go_wp2_with fail
     go_ret
     exact ⟨_,rfl,by rw [HX.out,HR.out]; exact H⟩
set_option linter.unusedVariables false
set_option linter.unusedSimpArgs false
open Go.RowKit
theorem cellsN_cast (m:List Nat):cells64 (castI m)=cellsN m:=by
 unfold cells64 castI cellsN
 rw [List.map_map]; rfl
set_option maxRecDepth 100000 in
theorem xbook_yes (A:Option Addr) (n c:Nat) (m:List Nat) {w0 w:World} {L:List Pr} (H:Sp w0 L w) (hn:n=m.length) (hb:Ent L fun w=>Rd w A (cellsN m)) (hk:PI.book m=true) :
  Calls Tryd.prog 138 #[.slice A n c] w fun e w'=>∃ g,e=.returned (.pointer (some ⟨g,0,none⟩))∧Sp w0 (Bok g m::L) w':=by
 have hb' : Ent L fun w=>Rd w A (cells64 (castI m)):=by rw [cellsN_cast]; exact hb
 have hn' : n=(castI m).length:=by unfold castI; rw [List.length_map]; exact hn
 have h1:=new_any_yes A n c (castI m) H hn' hb' hk
 rw [PI.PH.nat_cast,PI.mostN_of] at h1
 have H1:=Lib.hid h1
 clear h1 hb hb' hn' hk hn
 go_enter Tryd.func138,Tryd.ntmps138
 go_wp2_with fail
 refine H1.out.mono ?_
 rintro _ w1 ⟨g,v,rfl,H2⟩
 go_wp2
 go_ret
 exact ⟨g,rfl,Sp.ex v H2.star⟩
set_option maxRecDepth 100000 in
theorem xbook_no (A:Option Addr) (n c:Nat) (m:List Nat) {w0 w:World} {L:List Pr} (H:Sp w0 L w) (hn:n=m.length) (hb:Ent L fun w=>Rd w A (cellsN m)) (hl:n≤1000) (hk:PI.book m=false) :
  Calls Tryd.prog 138 #[.slice A n c] w fun e w'=>e=.panicked (pan 20)∧Sp w0 L w':=by
 have hb' : Ent L fun w=>Rd w A (cells64 (castI m)):=by rw [cellsN_cast]; exact hb
 have hn' : n=(castI m).length:=by unfold castI; rw [List.length_map]; exact hn
 have h1:=new_any_no A n c (castI m) H hn' hb' (by omega) hk
 have he:PH.enI (castI m)=1∨PH.enI (castI m)=20:=by
  unfold PH.enI
  split
  ·exact .inr rfl
  ·exact .inl rfl
 obtain ⟨x,hx⟩:∃ x,PH.enI (castI m)=x:=⟨_,rfl⟩
 rw [hx] at h1 he
 have H1:=Lib.hid h1
 have n1:¬ x=0:=by omega
 have n2:(x != 0)=true:=by simpa using n1
 clear h1 hb hb' hn' hk he hx hn
 go_enter Tryd.func138,Tryd.ntmps138
 go_wp2_with fail
 refine H1.out.mono ?_
 rintro _ w1 ⟨rfl,H2⟩
 go_wp2
 exact ⟨rfl,rfl,H2⟩
theorem row_ent {e:TypeId} {V:Option Addr} {n kk:Nat} {xs:List Value} {M:List Pr} (j:Nat) (hj:M[j]?=some (Row e 1 (.slice V n kk) n xs)):Ent M fun w=>Rd w V xs:=fun _ _ H=>by
 obtain ⟨A9,c9,e9,hr9,_,_⟩:=H.row_rd j hj
 injection e9 with e9
 subst e9
 exact hr9
theorem fixed_book:PI.book PI.fixedL=true∧PI.book PI.fixedD=true:=by decide +kernel
theorem fixed_len:PI.fixedL.length=288∧PI.fixedD.length=32:=by decide +kernel
set_option maxRecDepth 100000 in
set_option maxHeartbeats 2000000 in
theorem xfixed_ok {w0 w:World} {L:List Pr} (H:Sp w0 L w) :
    Calls Tryd.prog 94 #[] w fun e w'=>∃ g1 g2,e=.returned (.tuple #[.pointer (some ⟨g1,0,none⟩),.pointer (some ⟨g2,0,none⟩)])∧Sp w0 (Bok g2 PI.fixedD::Bok g1 PI.fixedL::L) w':=by
  have H1:=H.newBk [.int .i64 8] 3
  go_enter Tryd.func94,Tryd.ntmps94
  go_wp2_with fail
  refine (repeatI_ok _ 1 (.int .i64 8) 144 H1 (fun _ _ H=>Rd.of_blk (H.blk 0 rfl)) rfl (by omega) (by omega)).mono ?_
  rintro _ w1 ⟨ga,rfl,H2⟩
  replace H2:=H2.pick 2 [0]
  clear H1
  have H3:=H2.newBk [.int .i64 9] 3
  go_wp2_with fail
  refine (repeatI_ok _ 1 (.int .i64 9) 112 H3 (fun _ _ H=>Rd.of_blk (H.blk 0 rfl)) rfl (by omega) (by omega)).mono ?_
  rintro _ w2 ⟨gb,rfl,H4⟩
  replace H4:=H4.pick 2 [0]
  clear H3 H2
  have H5:=H4.newBk [.int .i64 7] 3
  go_wp2_with fail
  refine (repeatI_ok _ 1 (.int .i64 7) 24 H5 (fun _ _ H=>Rd.of_blk (H.blk 0 rfl)) rfl (by omega) (by omega)).mono ?_
  rintro _ w3 ⟨gc,rfl,H6⟩
  replace H6:=H6.pick 2 [0]
  clear H5 H4
  have H7:=H6.newBk [.int .i64 8] 3
  go_wp2_with fail
  refine (repeatI_ok _ 1 (.int .i64 8) 8 H7 (fun _ _ H=>Rd.of_blk (H.blk 0 rfl)) rfl (by omega) (by omega)).mono ?_
  rintro _ w4 ⟨gd,rfl,H8⟩
  replace H8:=H8.pick 2 [0]
  clear H7 H6
  have H9:=H8.newBk [.slice (some ⟨ga,0,none⟩) 144 144,.slice (some ⟨gb,0,none⟩) 112 112,.slice (some ⟨gc,0,none⟩) 24 24,.slice (some ⟨gd,0,none⟩) 8 8] 58
  have hc:=concat_okI ⟨w4.heap.size,0,none⟩ 4 4 [⟨some ⟨ga,0,none⟩,144,144,List.replicate 144 (.int .i64 8)⟩,⟨some ⟨gb,0,none⟩,112,112,List.replicate 112 (.int .i64 9)⟩,⟨some ⟨gc,0,none⟩,24,24,List.replicate 24 (.int .i64 7)⟩,⟨some ⟨gd,0,none⟩,8,8,List.replicate 8 (.int .i64 8)⟩] H9 rfl (fun _ _ H=>Rd.of_blk (H.blk 0 rfl))
    (fun q hq=>by
      have one:∀ (n:Nat) (v:Int),∀ u ∈ List.replicate n (Value.int .i64 v),u.oneCell'=true:=fun n v u hu=>by rw [(List.mem_replicate.1 hu).2]; rfl
      rcases List.mem_cons.1 hq with rfl | hq
      · exact ⟨by simp only [List.length_replicate],row_ent 4 rfl,one _ _⟩
      rcases List.mem_cons.1 hq with rfl | hq
      · exact ⟨by simp only [List.length_replicate],row_ent 3 rfl,one _ _⟩
      rcases List.mem_cons.1 hq with rfl | hq
      · exact ⟨by simp only [List.length_replicate],row_ent 2 rfl,one _ _⟩
      · rw [List.mem_singleton.1 hq]
        exact ⟨by simp only [List.length_replicate],row_ent 1 rfl,one _ _⟩) (by simp [Part.sum]) (by omega)
  have hsum:Part.sum [⟨some ⟨ga,0,none⟩,144,144,List.replicate 144 (.int .i64 8)⟩,⟨some ⟨gb,0,none⟩,112,112,List.replicate 112 (.int .i64 9)⟩,⟨some ⟨gc,0,none⟩,24,24,List.replicate 24 (.int .i64 7)⟩,⟨some ⟨gd,0,none⟩,8,8,List.replicate 8 (.int .i64 8)⟩]=288:=rfl
  have hcat:Part.cat [⟨some ⟨ga,0,none⟩,144,144,List.replicate 144 (.int .i64 8)⟩,⟨some ⟨gb,0,none⟩,112,112,List.replicate 112 (.int .i64 9)⟩,⟨some ⟨gc,0,none⟩,24,24,List.replicate 24 (.int .i64 7)⟩,⟨some ⟨gd,0,none⟩,8,8,List.replicate 8 (.int .i64 8)⟩]=cellsN PI.fixedL:=by
    unfold Part.cat PI.fixedL cellsN
    simp only [List.flatMap_cons,List.flatMap_nil,List.map_append,List.map_replicate,List.append_nil,List.append_assoc]
    rfl
  rw [hsum,hcat] at hc
  have HC:=Lib.hid hc
  clear hc hsum hcat H8
  go_wp2_with fail
  refine HC.out.mono ?_
  rintro _ w5 ⟨vl,rfl,H10⟩
  obtain ⟨VA,vc,rfl,_,_⟩:=Row.form H10 0 rfl
  have hb:=xbook_yes VA 288 vc PI.fixedL H10 fixed_len.1.symm (row_ent 0 rfl) fixed_book.1
  have HB:=Lib.hid hb
  clear hb HC H9
  go_wp2_with fail
  refine HB.out.mono ?_
  rintro _ w6 ⟨g1,rfl,H11⟩
  have H12:=H11.newBk [.int .i64 5] 3
  clear HB H10
  go_wp2_with fail
  refine (repeatI_ok _ 1 (.int .i64 5) 32 H12 (fun _ _ H=>Rd.of_blk (H.blk 0 rfl)) rfl (by omega) (by omega)).mono ?_
  rintro _ w7 ⟨ge,rfl,H13⟩
  have hrep:List.replicate 32 (Value.int .i64 5)=cellsN PI.fixedD:=by unfold cellsN PI.fixedD; rw [List.map_replicate]; rfl
  rw [hrep] at H13
  have hb:=xbook_yes (some ⟨ge,0,none⟩) 32 32 PI.fixedD H13 fixed_len.2.symm (row_ent 0 rfl) fixed_book.2
  clear hrep
  have HB:=Lib.hid hb
  clear hb H11 H12
  go_wp2_with fail
  refine HB.out.mono ?_
  rintro _ w8 ⟨g2,rfl,H14⟩
  go_wp2_with fail
  go_ret2
  exact ⟨g1,g2,rfl,H14.pick 10 [0,3]⟩
open Go.ChangeShapes Go.WideShapes Go.ChangeAt Go.RowKit

def IsRow (k:IntKind) (w:World) (a:Option Addr) (len cap:Nat) (zs:List Int):Prop :=
 (a=none∧len=0∧cap=0∧zs=[]) ∨
 ∃ x,a=some x∧len≤cap∧cap≤maxLen∧zs.length=cap∧(∀ i,i<zs.length→w.cell? (x.add i)=some (.int k (zs.getD i 0)))∧∀ n ∈ zs,(Lit.int k n).wf=true
theorem wf_u8 {n:Int} (h:(Lit.int .u8 n).wf=true):0≤n∧n<256:=by
 have:=bounds_u8 h; omega
theorem IsRow.byt {w:World} {a:Option Addr} {len cap:Nat} {zs:List Int} (h:IsRow .u8 w a len cap zs):∃ l:List UInt8,len=l.length∧Byt w (.slice a len cap) l:=by
 rcases h with ⟨rfl,rfl,rfl,rfl⟩ | ⟨x,rfl,hl,hm,hz,hc,hw⟩
 ·exact ⟨[],rfl,Byt.nil w⟩
 ·refine ⟨(zs.take len).map fun n=>UInt8.ofNat n.toNat,by simp; omega,some x,cap,by simp; omega,fun _=>⟨x,rfl,fun j u hu=>?_⟩,by simp; omega,hm⟩
  unfold cells8 at hu
  rw [List.map_map,List.getElem?_map,List.getElem?_take] at hu
  split at hu
  ·rename_i hj
   have hjz:j<zs.length:=by omega
   rw [List.getElem?_eq_getElem hjz] at hu
   simp only [Option.map_some,Function.comp_apply,Option.some.injEq] at hu
   rw [hc j hjz,← hu,List.getD_eq_getElem?_getD,List.getElem?_eq_getElem hjz]
   have hb:=wf_u8 (hw _ (List.getElem_mem hjz))
   simp only [Option.getD_some]
   congr 2
   rw [UInt8.toNat_ofNat']
   omega
  ·simp at hu
set_option linter.unusedVariables false
open Go.ChangeShapes Go.WideShapes Go.ChangeAt Go.RowKit Go.Deep
section
variable {H:Type} {enc:TypeId × Value→H} {P:Program} {w:World} {base:Nat} {spare:Nat→Bool} {held:Bool}
end
theorem Rd.same {W:World} {A:Option Addr} {xs:List Value} (h:Rd W A xs) {L:List Pr} (k:Nat) (hk:L[k]?=some (Same W)):Ent L (fun w=>Rd w A xs) :=
 Ent.of_same k hk fun _ hs=>h.keep fun p _ _ hp=>World.cell?_of_block (hs p.block (cell_lt hp))
set_option linter.unusedVariables false
set_option linter.unusedSimpArgs false
open Go.ChangeShapes Go.WideShapes Go.ChangeAt Go.RowKit Go.Deep
structure PartV where
 p:PI.WPart
 bv:Value
 cv:Value
instance:Inhabited PartV:=⟨⟨⟨0,[],[]⟩,undef,undef⟩⟩
def cellsPr (l:List (Nat × Nat)):List Value:=l.flatMap fun c=>[.int .u16 (c.1:Int),.int .u16 (c.2:Int)]
def PartV.cells (x:PartV):List Value:=[.int .u8 (x.p.kind:Int),x.bv,x.cv]
def PartV.Ok (w:World) (x:PartV):Prop:=x.p.kind<256∧Byt w x.bv x.p.bytes∧(∃ A c,x.cv=.slice A x.p.copies.length c∧Rd w A (cellsPr x.p.copies)∧x.p.copies.length≤c∧c≤maxLen)∧∀ c ∈ x.p.copies,c.1<65536∧c.2<65536
section
variable {H:Type} {enc:TypeId × Value→H} {P:Program} {w:World} {base:Nat} {spare:Nat→Bool} {held:Bool}
end
theorem PartV.Ok.keep {w w' : World} {x:PartV} (h:x.Ok w) (hs:∀ b,b<w.heap.size→w'.heap[b]?=w.heap[b]?):x.Ok w':=by
 obtain ⟨h1,h2,⟨A,c,h3,h4,h5⟩,h6⟩:=h
 exact ⟨h1,h2.keep fun p _ hp=>World.cell?_of_block (hs p.block (cell_lt hp)),⟨A,c,h3,h4.keep fun p _ _ hp=>World.cell?_of_block (hs p.block (cell_lt hp)),h5⟩,h6⟩
end Go.Proofs.YtloijdbkikccgaaDoor

