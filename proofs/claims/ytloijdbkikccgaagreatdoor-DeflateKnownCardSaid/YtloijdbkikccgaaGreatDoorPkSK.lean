/- A pack of texts: the rest. -/
import Derived.Test.YtloijdbkikccgaaGreatDoorPk01
import Derived.Test.YtloijdbkikccgaaGreatDoorPk02
import Derived.Test.YtloijdbkikccgaaGreatDoorPk03
import Derived.Test.YtloijdbkikccgaaGreatDoorPk04
import Derived.Test.YtloijdbkikccgaaGreatDoorPk05
import Derived.Test.YtloijdbkikccgaaGreatDoorPk06
import Derived.Test.YtloijdbkikccgaaGreatDoorPk07
import Derived.Test.YtloijdbkikccgaaGreatDoorPk08
import Derived.Test.YtloijdbkikccgaaGreatDoorPk09
import Derived.Test.YtloijdbkikccgaaGreatDoorPk10
import Derived.Test.YtloijdbkikccgaaGreatDoorPk11
import Derived.Test.YtloijdbkikccgaaGreatDoorPk12
import Derived.Test.YtloijdbkikccgaaGreatDoorPk13
import Derived.Test.YtloijdbkikccgaaGreatDoorPk14
import Derived.Test.YtloijdbkikccgaaGreatDoorPk15
import Derived.Test.YtloijdbkikccgaaGreatDoorPk16
import Derived.Test.YtloijdbkikccgaaGreatDoorPk17
import Derived.Test.YtloijdbkikccgaaGreatDoorPk18
import Derived.Test.YtloijdbkikccgaaGreatDoorPk19
import Derived.Test.YtloijdbkikccgaaGreatDoorPk20
import Derived.Test.YtloijdbkikccgaaGreatDoorPk21
import Derived.Test.YtloijdbkikccgaaGreatDoorPk22
import Derived.Test.YtloijdbkikccgaaGreatDoorPk23
import Derived.Test.YtloijdbkikccgaaGreatDoorPk24
import Derived.Test.YtloijdbkikccgaaGreatDoorPk25
import Derived.Test.YtloijdbkikccgaaGreatDoorPk26
import Derived.Test.YtloijdbkikccgaaGreatDoorPk27
import Derived.Test.YtloijdbkikccgaaGreatDoorPk28
import Derived.Test.YtloijdbkikccgaaGreatDoorPk29
import Derived.Test.YtloijdbkikccgaaGreatDoorPk30
import Derived.Test.YtloijdbkikccgaaGreatDoorPk31
import Derived.Test.YtloijdbkikccgaaGreatDoorPk32
import Derived.Test.YtloijdbkikccgaaGreatDoorPk33
import Derived.Test.YtloijdbkikccgaaGreatDoorPkSL
namespace Go.Proofs.YtloijdbkikccgaaGreatDoor
set_option linter.unusedVariables false
set_option linter.unusedSimpArgs false
open Go.RowKit
namespace PD
end PD
set_option maxRecDepth 100000 in
set_option maxHeartbeats 1000000 in
theorem dall_long (BA:Option Addr) (n c:Nat) {w0 w:World} {L:List Pr} (H:Sp w0 L w) (hn:16777216<n) :
  Calls Tryz.prog 34 #[.slice BA n c] w fun e w'=>e=.returned (.tuple #[.slice none 0 0,.int .i64 3])/\Sp w0 L w':=by
 have k1:(n:Int) > 16777216:=by omega
 go_enter Tryz.func34,Tryz.ntmps34
 go_wp2
 go_ret2
 exact⟨rfl,H⟩
namespace PD
end PD
theorem bp_fixN (Y:List PM.St) (b:List UInt8) (last:Bool):(BP.of Y b last).fixN=PD.fixN Y:=by
 show 3+PD.costW PI.fixedL PI.fixedD (PD.words Y)=3+(PD.fixW Y).length
 rw [<- PD.layW_len,PD.lay_words]; rfl
theorem bp_dynN (Y:List PM.St) (b:List UInt8) (last:Bool):(BP.of Y b last).dynN=PD.dynN Y:=by
 have ht:=(PD.told_ok (PD.fst7 Y)).2
 unfold BP.dynN BP.of PD.dynN PD.dynW PI.headW
 simp only
 rw [<- PD.layW_len,<- PD.layW_len,PD.lay_words,PD.lay_row]
 have ho:PI.orderT.length=19:=rfl
 generalize PD.told (PD.fst7 Y)=m at ht ⊢
 generalize PD.fst7 Y=F
 generalize PD.rowY Y=R
 generalize PD.lenA Y=A
 generalize PD.lenB Y=D
 simp only [List.length_append,PBits.bitsOf_length,PD.firstsW_len,List.length_take,ho]
 omega
theorem Sp.dropL {w0 w:World} {L2 L:List Pr} (H:Sp w0 (L2++L) w):Sp w0 L w:=by
 have h:=H.pick L2.length [] ⟨by simp,by intro i hi; simp at hi⟩
 rw [List.drop_left] at h
 exact h
set_option maxRecDepth 100000 in
set_option maxHeartbeats 1000000 in
theorem dsizesS_bad (V:Option Addr) (n c:Nat) (X:List StI) {w0 w:World} {L:List Pr} (H:Sp w0 L w) (hn:n=X.length) (hnm:n<=1000000) (h:Ent L fun w=>StI_ w V X) (hbad:mayI X 0=false) :
  Calls Tryz.prog 24 #[.slice V n c] w fun e w'=>e=.returned (.tuple #[.int .i64 0,.int .i64 0,.int .i64 0,.int .i64 1])/\Sp w0 L w':=by
 have HE:=Lib.hid (dasks_bad V n c X H hn hnm h hbad)
 clear H hn h hbad
 go_enter Tryz.func24,Tryz.ntmps24
 go_wp2_with fail
 refine HE.out.mono ?_
 rintro _ w1 ⟨rfl,H1⟩
 clear HE
 go_wp2
 exact bodyPost_ret (v:=.tuple #[.int .i64 0,.int .i64 0,.int .i64 0,.int .i64 1]) (by simp [results,go_sem]) rfl ⟨rfl,H1⟩
set_option maxRecDepth 100000 in
set_option maxHeartbeats 2000000 in
theorem dsizesS_ok (V:Option Addr) (n c:Nat) (Y:List PM.St) {TL TF:Option Addr} {cl cf:Nat} {w0 w:World} {L:List Pr} (H:Sp w0 L w) (hT:Ent L (DTabs TL TF cl cf)) (hn:n=Y.length) (hnm:n<=3000) (h:Ent L fun w=>StAt w V Y) (hY:PM.mays Y 0) :
  Calls Tryz.prog 24 #[.slice V n c] w fun e w'=>e=.returned (.tuple #[.int .i64 (max (PD.sto (PM.size Y) 0) 0),.int .i64 (PD.fixN Y:Int),.int .i64 (PD.dynN Y:Int),.int .i64 0])/\Sp w0 L w':=by
 have hsz:=PD.size_258 Y (PD.mays_ok Y 0 hY)
 have hbl:(PM.expand Y []).length=PM.size Y:=by rw [PM.expand_length,List.length_nil,Nat.zero_add]
 have HE:=Lib.hid (dasks_ok V n c Y H hn hnm h hY)
 obtain⟨b,hb⟩:∃b,PM.expand Y []=b:=⟨_,rfl⟩
 rw [hb] at HE hbl
 obtain⟨k,hk⟩:∃k,b.length=k:=⟨_,rfl⟩
 rw [hk] at HE hbl
 have hk1:k<=1000000:=by omega
 rw [<- hbl]
 have HT:=Lib.hid hT
 have HN:=Lib.hid hn
 have HS:=Lib.hid h
 have HY:=Lib.hid hY
 have HK:=Lib.hid hk
 have hok:=bp_ok Y b true 0 hY (by omega) (by omega)
 have hf:=bp_fixN Y b true
 have hd:=bp_dynN Y b true
 have HOK:=Lib.hid hok
 have HF:=Lib.hid hf
 have HDN:=Lib.hid hd
 have HM:=Lib.hid (PD.mays_ok Y 0 hY)
 obtain⟨p,hp⟩:∃p,BP.of Y b true=p:=⟨_,rfl⟩
 have hpb:p.b=b:=by rw [<- hp]; rfl
 rw [hp] at HOK HF HDN
 have HPE:=Lib.hid hp
 have HPB:=Lib.hid hpb
 clear H hT hn h hY hsz hbl hb hk hok hf hd hp hpb
 obtain⟨s,hs⟩:∃s,PD.sto k 0=s:=⟨_,rfl⟩
 obtain⟨f,hf⟩:∃f,PD.fixN Y=f:=⟨_,rfl⟩
 obtain⟨d,hd⟩:∃d,PD.dynN Y=d:=⟨_,rfl⟩
 rw [hs,hf,hd]
 rw [hf] at HF
 rw [hd] at HDN
 have HSE:=Lib.hid hs
 clear hs hf hd
 go_enter Tryz.func24,Tryz.ntmps24
 go_wp2_with fail
 refine HE.out.mono ?_
 rintro _ w1 ⟨v1,rfl,H1⟩
 obtain⟨B,bc,rfl,hb1,hb2⟩:=Row.form H1 0 rfl
 have HMK:=Lib.hid (dmakes_ok V B n c k bc Y b true H1 (fun w0 w h=>HT.out w0 w h.tail) HN.out (by omega) (fun w0 w h=>HS.out w0 w h.tail) HM.out HK.out.symm)
 rw [HPE.out] at HMK
 clear HE H1
 go_wp2_with fail
 refine HMK.out.mono ?_
 rintro _ w2 ⟨g,rfl,H2⟩
 clear HMK
 obtain⟨dv,L2,H3,hb3,hL3⟩:=Blo.open H2 (fun w0 w h=>by rw [HPB.out,HK.out]; exact byt_row h 0 rfl HK.out.symm)
 have hsz:=dsizes_ok g 0 dv p H3 hb3 (hL3 _ fun w0 w h=>HT.out w0 w h.tail) HOK.out.hbl HOK.out.hA HOK.out.hD HOK.out.hF HOK.out.hF7 HOK.out.hokR HOK.out.hokW HOK.out.hokX HOK.out.hRl HOK.out.hWl (by omega)
 rw [HPB.out,HK.out,HSE.out,show(3+PD.costW PI.fixedL PI.fixedD p.W:Nat)=f from HF.out,show(17+3 * PD.told p.F+PD.costW p.F [] p.R+PD.costW p.A p.D p.W:Nat)=d from HDN.out] at hsz
 have HSZ:=Lib.hid hsz
 clear hsz hb3 hL3 H3 H2
 go_wp2_with fail
 refine HSZ.out.mono ?_
 rintro _ w3 ⟨rfl,H4⟩
 clear HSZ
 have H5:=(H4.dropL).tail
 have H6:=H5.newBk [.int .i64 s,.int .i64 (f:Int),.int .i64 (d:Int)] 59
 have t0:=H6.cell 0 rfl 0
 have t1:=H6.cell 0 rfl 1
 have t2:=H6.cell 0 rfl 2
 simp only [List.getElem?_cons_zero,List.getElem?_cons_succ] at t0 t1 t2
 have HX:=Lib.hid H6
 clear H4 H5 H6
 go_wp2_with fail
 go_quiet (fail)
 go_wp2
 exact bodyPost_ret (v:=.tuple #[.int .i64 (max s 0),.int .i64 (f:Int),.int .i64 (d:Int),.int .i64 0]) (by simp [results,go_sem]) rfl ⟨rfl,(HX.out.drewN _).tail⟩
end Go.Proofs.YtloijdbkikccgaaGreatDoor

