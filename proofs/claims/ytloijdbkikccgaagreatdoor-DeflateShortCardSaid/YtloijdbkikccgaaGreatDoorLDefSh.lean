/- DefSh: the walk of the law: the shortest way. -/
import Derived.Test.YtloijdbkikccgaaGreatDoorPk01
import Derived.Test.YtloijdbkikccgaaGreatDoorPk02
import Derived.Test.YtloijdbkikccgaaGreatDoorPk03
import Derived.Test.YtloijdbkikccgaaGreatDoorPk04
import Derived.Test.YtloijdbkikccgaaGreatDoorPk05
import Derived.Test.YtloijdbkikccgaaGreatDoorPk06
import Derived.Test.YtloijdbkikccgaaGreatDoorPk07
import Derived.Test.YtloijdbkikccgaaGreatDoorPk08
import Derived.Test.YtloijdbkikccgaaGreatDoorPk09
import Derived.Test.YtloijdbkikccgaaGreatDoorPk10
import Derived.Test.YtloijdbkikccgaaGreatDoorPk11
import Derived.Test.YtloijdbkikccgaaGreatDoorPk12
import Derived.Test.YtloijdbkikccgaaGreatDoorPk13
import Derived.Test.YtloijdbkikccgaaGreatDoorPk14
import Derived.Test.YtloijdbkikccgaaGreatDoorPk15
import Derived.Test.YtloijdbkikccgaaGreatDoorPk16
import Derived.Test.YtloijdbkikccgaaGreatDoorPk17
import Derived.Test.YtloijdbkikccgaaGreatDoorPk18
import Derived.Test.YtloijdbkikccgaaGreatDoorPk19
import Derived.Test.YtloijdbkikccgaaGreatDoorPk20
import Derived.Test.YtloijdbkikccgaaGreatDoorPk21
import Derived.Test.YtloijdbkikccgaaGreatDoorPk22
import Derived.Test.YtloijdbkikccgaaGreatDoorPk23
import Derived.Test.YtloijdbkikccgaaGreatDoorPk24
import Derived.Test.YtloijdbkikccgaaGreatDoorPk25
import Derived.Test.YtloijdbkikccgaaGreatDoorPk26
import Derived.Test.YtloijdbkikccgaaGreatDoorPk27
import Derived.Test.YtloijdbkikccgaaGreatDoorPk28
import Derived.Test.YtloijdbkikccgaaGreatDoorPk29
import Derived.Test.YtloijdbkikccgaaGreatDoorPk30
import Derived.Test.YtloijdbkikccgaaGreatDoorPk31
import Derived.Test.YtloijdbkikccgaaGreatDoorPk32
import Derived.Test.YtloijdbkikccgaaGreatDoorPk33
import Derived.Test.YtloijdbkikccgaaGreatDoorPkSL
import Derived.Test.YtloijdbkikccgaaGreatDoorPkSS
namespace Go.Proofs.YtloijdbkikccgaaGreatDoor
set_option linter.unusedVariables false
set_option linter.unusedSimpArgs false
open Go.RowKit
set_option maxRecDepth 100000 in
set_option maxHeartbeats 16000000 in
theorem dshort_any (V:Option Addr) (n c:Nat) (X:List StI) (TL TA DL DF:Option Addr) (cl ca dl df:Nat) {w0 w:World} {L:List Pr} (H:Sp w0 L w) (hT:Ent L (Tabs TL TA cl ca)) (hD:Ent L (DTabs DL DF dl df)) (hn:n=X.length) (hc:n<=c) (hcm:c<=maxLen) (h:Ent L fun w=>StI_ w V X) :
  Calls Tryz.prog 6 #[.slice V n c] w fun e w'=>e=.returned (.bool true)/\Sp w0 L w':=by
 have HT:=Lib.hid hT
 have HD:=Lib.hid hD
 have HF:=Lib.hid (few7_ok V n c X H hn hc hcm h)
 obtain⟨Z,hZ⟩:∃Z,fewL X=Z:=⟨_,rfl⟩
 have hZl:Z.length<=700:=by rw [<- hZ]; exact fewL_len X
 rw [hZ] at HF
 obtain⟨k,hk⟩:∃k,Z.length=k:=⟨_,rfl⟩
 rw [hk] at HF hZl
 have HK:=Lib.hid hk
 clear hT hD hn hc hcm h H hZ hk
 go_enter Tryz.func6,Tryz.ntmps6
 go_wp2_with fail
 refine HF.out.mono ?_
 rintro _ w1 ⟨v1,rfl,H1⟩
 obtain⟨V1,c1,rfl,hv1,hv2⟩:=Row.form H1 0 rfl
 clear HF
 cases hm:mayI Z 0 with
 | false =>
  have HMF:=Lib.hid hm
  have HS:=Lib.hid (dsizesS_bad V1 k c1 Z H1 HK.out.symm (by omega) (fun w0 w h=>h.stI 0 rfl) hm)
  clear H1 hm
  go_wp2_with fail
  refine HS.out.mono ?_
  rintro _ w2 ⟨rfl,H2⟩
  have HP:=Lib.hid (dsteps_bad V1 k c1 Z H2 HK.out.symm (by omega) (fun w0 w h=>h.stI 0 rfl) HMF.out)
  clear HS H2
  go_wp2_with fail
  refine HP.out.mono ?_
  rintro _ w3 ⟨rfl,H3⟩
  have HW:=Lib.hid (dtells_ok DL DF dl df H3.tail HD.out)
  clear HP H3
  go_wp2_with fail
  refine HW.out.mono ?_
  rintro _ w9 ⟨rfl,H9⟩
  go_wp2_with fail
  go_ret
  exact⟨rfl,H9⟩
 | true =>
  obtain⟨e1,e2⟩:=PD.toN_of Z 0 hm
  obtain⟨Y,hY⟩:∃Y,Z.map PD.toN=Y:=⟨_,rfl⟩
  rw [hY] at e1 e2
  have hYl:k=Y.length:=by rw [<- HK.out,e1,List.length_map]
  rw [e1,stsI_map] at H1
  have hbl:(PM.expand Y []).length=PM.size Y:=by rw [PM.expand_length,List.length_nil,Nat.zero_add]
  have hso:=PD.mays_ok Y 0 e2
  have hsz:=PD.size_258 Y hso
  have hSZ:=Lib.hid (dsizesS_ok V1 k c1 Y H1 (fun w0 w h=>HD.out w0 w h.tail) hYl (by omega) (fun w0 w h=>h.stAt 0 rfl) e2)
  have hq:=PD.stream_behind Y e2 [] (PM.size Y) (Nat.le_refl _)
  rw [List.append_nil] at hq
  have hlen:=PD.stream_len Y (PM.expand Y [])
  have hshort:=PD.stream_short Y (PM.expand Y []) hbl
  have hone:=PD.one_part Y (PM.expand Y []) hbl
  have hknd:=PD.one_kind Y (PM.expand Y [])
  have hbk:=PD.blksD_len Y (PM.expand Y [])
  have hsl9:=PD.stD_le Y (PM.expand Y []) e2 (PD.many Y)
  have hst0:=PD.sto_zero (PM.size Y)
  rw [hbl] at hshort hknd
  obtain⟨bl,hbl2⟩:∃q,PD.blksD Y (PM.expand Y [])=q:=⟨_,rfl⟩
  obtain⟨sl,hsl⟩:∃q,(PD.stream Y (PM.expand Y [])).length=q:=⟨_,rfl⟩
  obtain⟨pm,hpm⟩:∃q,PD.many Y=q:=⟨_,rfl⟩
  obtain⟨S,hS⟩:∃q,PM.size Y=q:=⟨_,rfl⟩
  obtain⟨x,hx⟩:∃q,max (PD.sto S 0) 0=q:=⟨_,rfl⟩
  obtain⟨y,hy⟩:∃q,PD.fixN Y=q:=⟨_,rfl⟩
  obtain⟨z,hz⟩:∃q,PD.dynN Y=q:=⟨_,rfl⟩
  have hsl1:sl<=100000:=by
   rw [<- hsl,hlen]; unfold PD.bitsD
   have:PD.many Y<=2:=by unfold PD.many; omega
   omega
  have hpmv:pm=max 1 ((k+511) / 512):=by rw [<- hpm,hYl]; rfl
  rw [hS,hx,hy,hz] at hSZ hknd
  rw [hS] at hsz hshort hone hq hst0
  rw [hx] at hst0
  rw [hsl] at hlen hshort
  rw [hpm] at hshort hone hbk
  rw [hbl2] at hone hbk hq
  have HSL:=Lib.hid hsl
  have HLEN:=Lib.hid hlen
  have HONE:=Lib.hid hone
  have HKND:=Lib.hid hknd
  have HBK:=Lib.hid hbk
  have HQ:=Lib.hid hq
  have HYL:=Lib.hid hYl
  have HE2:=Lib.hid e2
  have HSO:=Lib.hid (stI_size Y hso)
  have HSS:=Lib.hid hS
  have hx0:0<=x:=by omega
  have hS1:S<=200000:=by omega
  have HST0:=Lib.hid hst0
  have HSH:=Lib.hid hshort
  have HPMV:=Lib.hid hpmv
  clear hm hY hbl hso hsz hq hlen hshort hone hknd hbk hsl9 hst0 hbl2 hsl hpm hS hx hy hz hpmv H1 e1 e2 hYl
  go_wp2_with fail
  refine hSZ.out.mono ?_
  rintro _ w2 ⟨rfl,H2⟩
  have HP:=Lib.hid (dsteps_ok V1 k c1 Y H2 (fun w0 w h=>HD.out w0 w h.tail) HYL.out (by omega) hv1 hv2 (fun w0 w h=>h.stAt 0 rfl) HE2.out)
  rw [HSL.out] at HP
  clear hSZ H2
  go_wp2_with fail
  refine HP.out.mono ?_
  rintro _ w3 ⟨v3,rfl,H3⟩
  obtain⟨V3,c3,rfl,hv3,hv4⟩:=Row.form H3 0 rfl
  clear HP
  have HSIZE:Hid (∀w,Sp w0 (Row 5 1 (.slice V3 sl c3) sl (cells8 (PD.stream Y (PM.expand Y [])))::Row 75 3 (.slice V1 k c1) k (stsV Y)::L) w->Calls Tryz.prog 32 #[.slice V1 k c1] w fun e w'=>e=.returned (.int .i64 (S:Int))/\Sp w0 (Row 5 1 (.slice V3 sl c3) sl (cells8 (PD.stream Y (PM.expand Y [])))::Row 75 3 (.slice V1 k c1) k (stsV Y)::L) w'):=Lib.hid fun w H=>by
   have h:=size_ok V1 k c1 (Y.map toI) H (by rw [List.length_map]; exact HYL.out) (by omega) HSO.out (fun w0 w h=>(h.stAt 1 rfl).toI)
   rw [sizeI_map,HSS.out] at h
   exact h
  have HX3:=Lib.hid H3
  clear H3
  have y8:max (((k:Int)+512 - 1) / 512) 1=(pm:Int):=by have:=HPMV.out; omega
  have hpm1:1<=pm:=by have:=HPMV.out; omega
  have hpm2:pm<=2:=by have:=HPMV.out; omega
  go_wp2_with fail
  refine(HSIZE.out w3 HX3.out).mono ?_
  rintro _ w4 ⟨rfl,H4⟩
  clear y8 HX3 HPMV
  by_cases h6:S<=65535
  ·have k6:(S:Int)<=65535:=by omega
   have hx1:0<x:=by
    have h9:=HST0.out
    have h8:¬ x=0:=fun q=>by have:=h9.1 q; omega
    omega
   have k7:¬ (sl:Int) > (S:Int)+5 * (pm:Int):=by have:=HSH.out h6; omega
   have k8:(x == 0)=false:=by rw [beq_eq_false_iff_ne]; omega
   have k9:¬ (S:Int) > 65535:=by omega
   have HX4:=Lib.hid H4
   clear H4 HST0 HSH
   go_wp2_with fail
   refine(HSIZE.out w4 HX4.out).mono ?_
   rintro _ w5 ⟨rfl,H5⟩
   have HX5:=Lib.hid H5
   clear H5 HX4
   go_wp2_with fail
   refine(HSIZE.out w5 HX5.out).mono ?_
   rintro _ w6 ⟨rfl,H6⟩
   have HX6:=Lib.hid H6
   clear H6 HX5
   by_cases hp:1<pm
   ·have k10:(pm:Int) > 1:=by omega
    have HW:=Lib.hid (dtells_ok DL DF dl df HX6.out.tail.tail HD.out)
    clear HX6
    go_wp2_with fail
    refine HW.out.mono ?_
    rintro _ w9 ⟨rfl,H9⟩
    go_wp2_with fail
    go_ret
    exact⟨rfl,H9⟩
   ·obtain rfl:pm=1:=by omega
    clear k6 hp hpm1
    obtain⟨hb1,hb2⟩:=HONE.out rfl
    obtain⟨hk1,hk2⟩:=HKND.out
    have HB2:=Lib.hid hb2
    have hln:=HLEN.out
    rw [hb1,hk2] at hln
    clear HONE HKND hk2 hb1 hb2 HLEN
    by_cases hzy:z<y
    ·have kz:(z:Int)<(y:Int):=by omega
     by_cases hxl:x<=(z:Int)
     ·have hkd:PD.kind Y (PM.expand Y []) 0=0:=by rw [hk1]; unfold PD.bestK; rw [if_pos ⟨by omega,by rw [if_pos hzy]; omega⟩]
      have hsv:sl=(x.toNat+7) / 8:=by rw [hln,hkd]; rfl
      have HY9:Hid ((x+7) / 8=(sl:Int)):=Lib.hid (by omega)
      have hzb:x<=900000:=by omega
      have HB3:=HB2.out
      rw [hkd] at HB3
      have HB4:=Lib.hid HB3
      have k11:x > 0:=by omega
      have HL1:=Lib.hid hsl1
      have HS1:=Lib.hid hS1
      clear hkd hln hk1 HB2 HB3 hsv hsl1 hS1 hx0 hv1 hv2 hv3 hv4 hZl
      go_wp2_with fail
      refine(HSIZE.out w6 HX6.out).mono ?_
      rintro _ w7 ⟨rfl,H7⟩
      have HA3:=Lib.hid (xblocks_ok (.slice V3 sl c3) (PD.stream Y (PM.expand Y [])) S TL TA cl ca H7 (fun w0 w h=>byt_row h 0 rfl HSL.out.symm) (by have:=HL1.out; rw [HSL.out]; omega) (by have:=HS1.out; omega) (fun w0 w h=>HT.out w0 w (h.pick 2 [])))
      clear HX6 H7 HSIZE
      go_wp2_with fail
      refine HA3.out.mono ?_
      intro e9 w8 k9
      obtain⟨A8,c8,he8,H8⟩:=BEnd.got HQ.out k9
      simp only [HBK.out] at he8 H8
      subst he8
      clear k9 HA3 HQ
      have y9:=HY9.out
      obtain⟨ab,rfl,hrb⟩:=rdBlk (row3 H8 0 rfl) HB4.out
      have p0:w8.cell? ab=some (.int .i64 0):=by have:=hrb 0 _ rfl; rw [Nat.zero_mul,add0,add0] at this; exact this
      have HW:=Lib.hid (dtells_ok DL DF dl df (H8.pick 3 []) HD.out)
      clear hrb H8
      go_wp2_with fail
      refine HW.out.mono ?_
      rintro _ w9 ⟨rfl,H9⟩
      go_wp2_with fail
      go_ret
      exact⟨rfl,H9⟩
     ·have hkd:PD.kind Y (PM.expand Y []) 0=2:=by rw [hk1]; unfold PD.bestK; rw [if_neg (by rw [if_pos hzy]; omega),if_pos hzy]
      have hsv:sl=(z+7) / 8:=by rw [hln,hkd]; rfl
      have HY9:Hid (((z:Int)+7) / 8=(sl:Int)):=Lib.hid (by omega)
      have hzb:(z:Int)<=900000:=by omega
      have HB3:=HB2.out
      rw [hkd] at HB3
      have HB4:=Lib.hid HB3
      have k11:x > 0:=by omega
      have HL1:=Lib.hid hsl1
      have HS1:=Lib.hid hS1
      clear hkd hln hk1 HB2 HB3 hsv hsl1 hS1 hx0 hv1 hv2 hv3 hv4 hZl
      go_wp2_with fail
      refine(HSIZE.out w6 HX6.out).mono ?_
      rintro _ w7 ⟨rfl,H7⟩
      have HA3:=Lib.hid (xblocks_ok (.slice V3 sl c3) (PD.stream Y (PM.expand Y [])) S TL TA cl ca H7 (fun w0 w h=>byt_row h 0 rfl HSL.out.symm) (by have:=HL1.out; rw [HSL.out]; omega) (by have:=HS1.out; omega) (fun w0 w h=>HT.out w0 w (h.pick 2 [])))
      clear HX6 H7 HSIZE
      go_wp2_with fail
      refine HA3.out.mono ?_
      intro e9 w8 k9
      obtain⟨A8,c8,he8,H8⟩:=BEnd.got HQ.out k9
      simp only [HBK.out] at he8 H8
      subst he8
      clear k9 HA3 HQ
      have y9:=HY9.out
      obtain⟨ab,rfl,hrb⟩:=rdBlk (row3 H8 0 rfl) HB4.out
      have p0:w8.cell? ab=some (.int .i64 2):=by have:=hrb 0 _ rfl; rw [Nat.zero_mul,add0,add0] at this; exact this
      have HW:=Lib.hid (dtells_ok DL DF dl df (H8.pick 3 []) HD.out)
      clear hrb H8
      go_wp2_with fail
      refine HW.out.mono ?_
      rintro _ w9 ⟨rfl,H9⟩
      go_wp2_with fail
      go_ret
      exact⟨rfl,H9⟩
    ·have kz:¬ (z:Int)<(y:Int):=by omega
     by_cases hxl:x<=(y:Int)
     ·have hkd:PD.kind Y (PM.expand Y []) 0=0:=by rw [hk1]; unfold PD.bestK; rw [if_pos ⟨by omega,by rw [if_neg hzy]; omega⟩]
      have hsv:sl=(x.toNat+7) / 8:=by rw [hln,hkd]; rfl
      have HY9:Hid ((x+7) / 8=(sl:Int)):=Lib.hid (by omega)
      have hzb:x<=900000:=by omega
      have HB3:=HB2.out
      rw [hkd] at HB3
      have HB4:=Lib.hid HB3
      have k11:x > 0:=by omega
      have HL1:=Lib.hid hsl1
      have HS1:=Lib.hid hS1
      clear hkd hln hk1 HB2 HB3 hsv hsl1 hS1 hx0 hv1 hv2 hv3 hv4 hZl
      go_wp2_with fail
      refine(HSIZE.out w6 HX6.out).mono ?_
      rintro _ w7 ⟨rfl,H7⟩
      have HA3:=Lib.hid (xblocks_ok (.slice V3 sl c3) (PD.stream Y (PM.expand Y [])) S TL TA cl ca H7 (fun w0 w h=>byt_row h 0 rfl HSL.out.symm) (by have:=HL1.out; rw [HSL.out]; omega) (by have:=HS1.out; omega) (fun w0 w h=>HT.out w0 w (h.pick 2 [])))
      clear HX6 H7 HSIZE
      go_wp2_with fail
      refine HA3.out.mono ?_
      intro e9 w8 k9
      obtain⟨A8,c8,he8,H8⟩:=BEnd.got HQ.out k9
      simp only [HBK.out] at he8 H8
      subst he8
      clear k9 HA3 HQ
      have y9:=HY9.out
      obtain⟨ab,rfl,hrb⟩:=rdBlk (row3 H8 0 rfl) HB4.out
      have p0:w8.cell? ab=some (.int .i64 0):=by have:=hrb 0 _ rfl; rw [Nat.zero_mul,add0,add0] at this; exact this
      have HW:=Lib.hid (dtells_ok DL DF dl df (H8.pick 3 []) HD.out)
      clear hrb H8
      go_wp2_with fail
      refine HW.out.mono ?_
      rintro _ w9 ⟨rfl,H9⟩
      go_wp2_with fail
      go_ret
      exact⟨rfl,H9⟩
     ·have hkd:PD.kind Y (PM.expand Y []) 0=1:=by rw [hk1]; unfold PD.bestK; rw [if_neg (by rw [if_neg hzy]; omega),if_neg hzy]
      have hsv:sl=(y+7) / 8:=by rw [hln,hkd]; rfl
      have HY9:Hid (((y:Int)+7) / 8=(sl:Int)):=Lib.hid (by omega)
      have hzb:(y:Int)<=900000:=by omega
      have HB3:=HB2.out
      rw [hkd] at HB3
      have HB4:=Lib.hid HB3
      have k11:x > 0:=by omega
      have HL1:=Lib.hid hsl1
      have HS1:=Lib.hid hS1
      clear hkd hln hk1 HB2 HB3 hsv hsl1 hS1 hx0 hv1 hv2 hv3 hv4 hZl
      go_wp2_with fail
      refine(HSIZE.out w6 HX6.out).mono ?_
      rintro _ w7 ⟨rfl,H7⟩
      have HA3:=Lib.hid (xblocks_ok (.slice V3 sl c3) (PD.stream Y (PM.expand Y [])) S TL TA cl ca H7 (fun w0 w h=>byt_row h 0 rfl HSL.out.symm) (by have:=HL1.out; rw [HSL.out]; omega) (by have:=HS1.out; omega) (fun w0 w h=>HT.out w0 w (h.pick 2 [])))
      clear HX6 H7 HSIZE
      go_wp2_with fail
      refine HA3.out.mono ?_
      intro e9 w8 k9
      obtain⟨A8,c8,he8,H8⟩:=BEnd.got HQ.out k9
      simp only [HBK.out] at he8 H8
      subst he8
      clear k9 HA3 HQ
      have y9:=HY9.out
      obtain⟨ab,rfl,hrb⟩:=rdBlk (row3 H8 0 rfl) HB4.out
      have p0:w8.cell? ab=some (.int .i64 1):=by have:=hrb 0 _ rfl; rw [Nat.zero_mul,add0,add0] at this; exact this
      have HW:=Lib.hid (dtells_ok DL DF dl df (H8.pick 3 []) HD.out)
      clear hrb H8
      go_wp2_with fail
      refine HW.out.mono ?_
      rintro _ w9 ⟨rfl,H9⟩
      go_wp2_with fail
      go_ret
      exact⟨rfl,H9⟩
  ·have k6:¬ (S:Int)<=65535:=by omega
   obtain rfl:x=0:=HST0.out.2 (by omega)
   have k8:((0:Int) == 0)=true:=rfl
   have k9:(S:Int) > 65535:=by omega
   have HX4:=Lib.hid H4
   clear H4 HST0 HSH
   go_wp2_with fail
   refine(HSIZE.out w4 HX4.out).mono ?_
   rintro _ w6 ⟨rfl,H6⟩
   have HX6:=Lib.hid H6
   clear H6 HX4
   by_cases hp:1<pm
   ·have k10:(pm:Int) > 1:=by omega
    have HW:=Lib.hid (dtells_ok DL DF dl df HX6.out.tail.tail HD.out)
    clear HX6
    go_wp2_with fail
    refine HW.out.mono ?_
    rintro _ w9 ⟨rfl,H9⟩
    go_wp2_with fail
    go_ret
    exact⟨rfl,H9⟩
   ·obtain rfl:pm=1:=by omega
    clear k6 hp hpm1
    obtain⟨hb1,hb2⟩:=HONE.out rfl
    obtain⟨hk1,hk2⟩:=HKND.out
    have HB2:=Lib.hid hb2
    have hln:=HLEN.out
    rw [hb1,hk2] at hln
    clear HONE HKND hk2 hb1 hb2 HLEN
    by_cases hzy:z<y
    ·have kz:(z:Int)<(y:Int):=by omega
     have hkd:PD.kind Y (PM.expand Y []) 0=2:=by rw [hk1]; unfold PD.bestK; rw [if_neg (by rw [if_pos hzy]; omega),if_pos hzy]
     have hsv:sl=(z+7) / 8:=by rw [hln,hkd]; rfl
     have HY9:Hid (((z:Int)+7) / 8=(sl:Int)):=Lib.hid (by omega)
     have hzb:(z:Int)<=900000:=by omega
     have HB3:=HB2.out
     rw [hkd] at HB3
     have HB4:=Lib.hid HB3
     have HL1:=Lib.hid hsl1
     have HS1:=Lib.hid hS1
     clear hkd hln hk1 HB2 HB3 hsv hsl1 hS1 hx0 hv1 hv2 hv3 hv4 hZl
     go_wp2_with fail
     refine(HSIZE.out w6 HX6.out).mono ?_
     rintro _ w7 ⟨rfl,H7⟩
     have HA3:=Lib.hid (xblocks_ok (.slice V3 sl c3) (PD.stream Y (PM.expand Y [])) S TL TA cl ca H7 (fun w0 w h=>byt_row h 0 rfl HSL.out.symm) (by have:=HL1.out; rw [HSL.out]; omega) (by have:=HS1.out; omega) (fun w0 w h=>HT.out w0 w (h.pick 2 [])))
     clear HX6 H7 HSIZE
     go_wp2_with fail
     refine HA3.out.mono ?_
     intro e9 w8 k9
     obtain⟨A8,c8,he8,H8⟩:=BEnd.got HQ.out k9
     simp only [HBK.out] at he8 H8
     subst he8
     clear k9 HA3 HQ
     have y9:=HY9.out
     obtain⟨ab,rfl,hrb⟩:=rdBlk (row3 H8 0 rfl) HB4.out
     have p0:w8.cell? ab=some (.int .i64 2):=by have:=hrb 0 _ rfl; rw [Nat.zero_mul,add0,add0] at this; exact this
     have HW:=Lib.hid (dtells_ok DL DF dl df (H8.pick 3 []) HD.out)
     clear hrb H8
     go_wp2_with fail
     refine HW.out.mono ?_
     rintro _ w9 ⟨rfl,H9⟩
     go_wp2_with fail
     go_ret
     exact⟨rfl,H9⟩
    ·have kz:¬ (z:Int)<(y:Int):=by omega
     have hkd:PD.kind Y (PM.expand Y []) 0=1:=by rw [hk1]; unfold PD.bestK; rw [if_neg (by rw [if_neg hzy]; omega),if_neg hzy]
     have hsv:sl=(y+7) / 8:=by rw [hln,hkd]; rfl
     have HY9:Hid (((y:Int)+7) / 8=(sl:Int)):=Lib.hid (by omega)
     have hzb:(y:Int)<=900000:=by omega
     have HB3:=HB2.out
     rw [hkd] at HB3
     have HB4:=Lib.hid HB3
     have HL1:=Lib.hid hsl1
     have HS1:=Lib.hid hS1
     clear hkd hln hk1 HB2 HB3 hsv hsl1 hS1 hx0 hv1 hv2 hv3 hv4 hZl
     go_wp2_with fail
     refine(HSIZE.out w6 HX6.out).mono ?_
     rintro _ w7 ⟨rfl,H7⟩
     have HA3:=Lib.hid (xblocks_ok (.slice V3 sl c3) (PD.stream Y (PM.expand Y [])) S TL TA cl ca H7 (fun w0 w h=>byt_row h 0 rfl HSL.out.symm) (by have:=HL1.out; rw [HSL.out]; omega) (by have:=HS1.out; omega) (fun w0 w h=>HT.out w0 w (h.pick 2 [])))
     clear HX6 H7 HSIZE
     go_wp2_with fail
     refine HA3.out.mono ?_
     intro e9 w8 k9
     obtain⟨A8,c8,he8,H8⟩:=BEnd.got HQ.out k9
     simp only [HBK.out] at he8 H8
     subst he8
     clear k9 HA3 HQ
     have y9:=HY9.out
     obtain⟨ab,rfl,hrb⟩:=rdBlk (row3 H8 0 rfl) HB4.out
     have p0:w8.cell? ab=some (.int .i64 1):=by have:=hrb 0 _ rfl; rw [Nat.zero_mul,add0,add0] at this; exact this
     have HW:=Lib.hid (dtells_ok DL DF dl df (H8.pick 3 []) HD.out)
     clear hrb H8
     go_wp2_with fail
     refine HW.out.mono ?_
     rintro _ w9 ⟨rfl,H9⟩
     go_wp2_with fail
     go_ret
     exact⟨rfl,H9⟩
theorem dshort_law (V:Option Addr) (n c:Nat) (X:List StI) {W:World} (hT:(∃TL TA cl ca,Tabs TL TA cl ca W)/\∃DL DF dl df,DTabs DL DF dl df W) (hn:n=X.length) (hc:n<=c) (hcm:c<=maxLen) (h:Rd W V (stsI X)) :
  Calls Tryz.prog 6 #[.slice V n c] W fun e w'=>e=.returned (.bool true)/\Sp W [Same W] w':=by
 obtain⟨⟨TL,TA,cl,ca,hT⟩,DL,DF,dl,df,hD⟩:=hT
 exact dshort_any V n c X TL TA DL DF cl ca dl df (Sp.start W) (tabs_same hT) (Ent.of_same 0 rfl fun _ hs=>hD.heap hs) hn hc hcm fun w0 w h2=>.of_rd ((h.same 0 rfl) w0 w h2)
end Go.Proofs.YtloijdbkikccgaaGreatDoor
