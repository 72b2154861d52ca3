/- A pack of texts: DefMn LawEnd InfLaid DefLaid. -/
import Derived.LaidMore
import Derived.Lib.LaidTab
import Derived.Lib.LaidU8
import Derived.ProofKit
import Derived.Stop.Joined
import Derived.Stop.LaidErr
import Derived.Test.YtloijdbkikccgaaGreatDoorRows
import Derived.Test.YtloijdbkikccgaaGreatDoorPk01
import Derived.Test.YtloijdbkikccgaaGreatDoorPk15
import Derived.Test.YtloijdbkikccgaaGreatDoorPk16
import Derived.Test.YtloijdbkikccgaaGreatDoorPk28
import Derived.Test.YtloijdbkikccgaaGreatDoorPk33
namespace Go.Proofs.YtloijdbkikccgaaGreatDoor
set_option linter.unusedVariables false
set_option linter.unusedSimpArgs false
open Go.RowKit
set_option maxRecDepth 100000 in
set_option maxHeartbeats 16000000 in
theorem dmeans_any (V:Option Addr) (n c:Nat) (X:List StI) (TL TA DL DF:Option Addr) (cl ca dl df:Nat) {w0 w:World} {L:List Pr} (H:Sp w0 L w) (hT:Ent L (Tabs TL TA cl ca)) (hD:Ent L (DTabs DL DF dl df)) (hn:n=X.length) (hc:n<=c) (hcm:c<=maxLen) (h:Ent L fun w=>StI_ w V X) :
  Calls Tryz.prog 8 #[.slice V n c] w fun e w'=>e=.returned (.bool true)/\Sp w0 L w':=by
 have HT:=Lib.hid hT
 have HD:=Lib.hid hD
 have HF:=Lib.hid (few7_ok V n c X H hn hc hcm h)
 obtain⟨Z,hZ⟩:∃Z,fewL X=Z:=⟨_,rfl⟩
 have hZl:Z.length<=700:=by rw [<- hZ]; exact fewL_len X
 rw [hZ] at HF
 obtain⟨k,hk⟩:∃k,Z.length=k:=⟨_,rfl⟩
 rw [hk] at HF hZl
 have HK:=Lib.hid hk
 clear hT hD hn hc hcm h H hZ hk
 go_enter Tryz.func8,Tryz.ntmps8
 go_wp2_with fail
 refine HF.out.mono ?_
 rintro _ w1 ⟨v1,rfl,H1⟩
 obtain⟨V1,c1,rfl,hv1,hv2⟩:=Row.form H1 0 rfl
 clear HF
 cases hm:mayI Z 0 with
 | false =>
  have HMF:=Lib.hid hm
  have HP:=Lib.hid (dsteps_bad V1 k c1 Z H1 HK.out.symm (by omega) (fun w0 w h=>h.stI 0 rfl) hm)
  clear H1 hm
  go_wp2_with fail
  refine HP.out.mono ?_
  rintro _ w2 ⟨rfl,H2⟩
  have HMY:=Lib.hid (may_ok V1 k c1 Z H2 HK.out.symm (by omega) (fun w0 w h=>h.stI 0 rfl))
  rw [HMF.out] at HMY
  clear HP H2
  go_wp2_with fail
  refine HMY.out.mono ?_
  rintro _ w3 ⟨rfl,H3⟩
  have HW:=Lib.hid (dtells_ok DL DF dl df H3.tail HD.out)
  clear HMY H3
  go_wp2_with fail
  refine HW.out.mono ?_
  rintro _ w9 ⟨rfl,H9⟩
  go_wp2_with fail
  go_ret
  exact⟨rfl,H9⟩
 | true =>
  obtain⟨e1,e2⟩:=PD.toN_of Z 0 hm
  obtain⟨Y,hY⟩:∃Y,Z.map PD.toN=Y:=⟨_,rfl⟩
  rw [hY] at e1 e2
  have hYl:k=Y.length:=by rw [<- HK.out,e1,List.length_map]
  rw [e1,stsI_map] at H1
  have hbl:(PM.expand Y []).length=PM.size Y:=by rw [PM.expand_length,List.length_nil,Nat.zero_add]
  have hso:=PD.mays_ok Y 0 e2
  have hsz:=PD.size_258 Y hso
  have hq:=PD.stream_behind Y e2 [] (PM.size Y) (Nat.le_refl _)
  rw [List.append_nil] at hq
  have hlen:=PD.stream_len Y (PM.expand Y [])
  have hbk:=PD.blksD_len Y (PM.expand Y [])
  have hbg:=PD.blksD_get Y (PM.expand Y [])
  have hsl9:=PD.stD_le Y (PM.expand Y []) e2 (PD.many Y)
  have hat:=fun j=>PD.atB_succ Y j
  have hend:=PD.atB_end Y (PD.many Y) (by unfold PD.many; omega)
  obtain⟨b,hb⟩:∃q,PM.expand Y []=q:=⟨_,rfl⟩
  rw [hb] at hq hlen hbk hbg hbl hsl9
  obtain⟨bl,hbl2⟩:∃q,PD.blksD Y b=q:=⟨_,rfl⟩
  obtain⟨st,hst⟩:∃q,PD.stream Y b=q:=⟨_,rfl⟩
  obtain⟨sl,hsl⟩:∃q,st.length=q:=⟨_,rfl⟩
  obtain⟨pm,hpm⟩:∃q,PD.many Y=q:=⟨_,rfl⟩
  obtain⟨S,hS⟩:∃q,PM.size Y=q:=⟨_,rfl⟩
  rw [hst,hsl] at hlen
  have hsl1:sl<=100000:=by
   rw [hlen]; unfold PD.bitsD
   have:PD.many Y<=2:=by unfold PD.many; omega
   omega
  have hpmv:pm=max 1 ((k+511) / 512):=by rw [<- hpm,hYl]; rfl
  rw [hS] at hsz hq hbl
  rw [hpm] at hbk hbg
  rw [hbl2] at hbk hq hbg
  rw [hst] at hq
  have hu:((PD.bitsD Y b).length+7) / 8=sl:=hlen.symm
  have HSL:=Lib.hid hsl
  have HU:=Lib.hid hu
  have HBK:=Lib.hid hbk
  have HBG:=Lib.hid hbg
  have HQ:=Lib.hid hq
  have HYL:=Lib.hid hYl
  have HE2:=Lib.hid e2
  have HSO:=Lib.hid hso
  have HSS:=Lib.hid hS
  have HB:=Lib.hid hb
  have HBL:=Lib.hid hbl
  have HST:=Lib.hid hst
  have HPMV:=Lib.hid hpmv
  have HAT:=Lib.hid hat
  have HPM:=Lib.hid hpm
  have hS1:S<=200000:=by omega
  have hv3:c1<=9223372036854775807:=hv2
  have HP:=Lib.hid (dsteps_ok V1 k c1 Y H1 (fun w0 w h=>HD.out w0 w h.tail) hYl (by omega) hv1 hv2 (fun w0 w h=>h.stAt 0 rfl) e2)
  rw [hb,hst,hsl] at HP
  clear hm hY hbl hso hsz hq hlen hbk hbg hsl9 hat hend hbl2 hst hsl hpm hS hb hpmv H1 e1 e2 hYl hu
  go_wp2_with fail
  refine HP.out.mono ?_
  rintro _ w2 ⟨v3,rfl,H2⟩
  obtain⟨V3,c3,rfl,hw3,hw4⟩:=Row.form H2 0 rfl
  have HMY:=Lib.hid (may_ok V1 k c1 (Y.map toI) H2 (by rw [List.length_map]; exact HYL.out) (by omega) (fun w0 w h=>(h.stAt 1 rfl).toI))
  rw [show mayI (Y.map toI) 0=true from mayI_map Y 0 HE2.out] at HMY
  clear HP H2
  go_wp2_with fail
  refine HMY.out.mono ?_
  rintro _ w3 ⟨rfl,H3⟩
  have HEX:=Lib.hid (expand_ok V1 k c1 Y 16777216 H3 HYL.out (by omega) (fun w0 w h=>h.stAt 1 rfl) HE2.out (by rw [HSS.out]; omega) (by rw [HSS.out]; omega))
  rw [HB.out,HBL.out] at HEX
  clear HMY H3
  go_wp2_with fail
  refine HEX.out.mono ?_
  rintro _ w4 ⟨v5,rfl,H4⟩
  obtain⟨V5,c5,rfl,hw5,hw6⟩:=Row.form H4 0 rfl
  have HA1:=Lib.hid (xall_ok (.slice V3 sl c3) st S TL TA cl ca H4 (fun w0 w h=>byt_row h 1 rfl HSL.out.symm) (by rw [HSL.out]; omega) (by omega) (fun w0 w h=>HT.out w0 w (h.pick 3 [])))
  clear HEX H4
  go_wp2_with fail
  refine HA1.out.mono ?_
  intro e9 w5 k9
  obtain⟨A6,c6,he6,H5⟩:=AEnd.got HQ.out k9
  simp only [HU.out,HBL.out] at he6 H5
  subst he6
  clear k9 HA1
  have HA3:=Lib.hid (xblocks_ok (.slice V3 sl c3) st S TL TA cl ca H5 (fun w0 w h=>byt_row h 2 rfl HSL.out.symm) (by rw [HSL.out]; omega) (by omega) (fun w0 w h=>HT.out w0 w (h.pick 4 [])))
  clear H5
  go_wp2_with fail
  refine HA3.out.mono ?_
  intro e9 w6 k9
  obtain⟨A8,c8,he8,H6⟩:=BEnd.got HQ.out k9
  simp only [HBK.out] at he8 H6
  subst he8
  clear k9 HA3 HQ
  have HE:=Lib.hid (equal_ok (byt_row H6 1 rfl HBL.out.symm) (byt_row H6 2 rfl HBL.out.symm))
  rw [show(b == b)=true by simp] at HE
  have f8:max (((k:Int)+512 - 1) / 512) 1=(pm:Int):=by have:=HPMV.out; omega
  have hpm1:1<=pm/\pm<=2:=by have:=HPMV.out; omega
  go_wp2_with fail
  refine HE.out.mono ?_
  rintro _ _ ⟨rfl,rfl⟩
  clear HE
  have HX6:=Lib.hid (H6.pick 5 [0,4])
  clear H6
  have f9:=f8
  go_wp2_with fail
  go_loopw [12,95] (fun av iv wr=>∃j:Nat,iv=.int .i64 (j:Int)/\av=.int .i64 (PD.atB Y j:Int)/\j<=pm/\Sp w0 (Row 72 4 (.slice A8 pm c8) pm (cellsB bl)::Row 75 3 (.slice V1 k c1) k (stsV Y)::L) wr) (fun _ iv _=>pm - (intOf iv).toNat)
  case atStart=>exact⟨0,rfl,rfl,Nat.zero_le _,HX6.out⟩
  case round =>
   obtain⟨j,rfl,rfl,hjp,H9⟩:=hrel
   clear HX6
   by_cases hlt:j<pm
   ·have k1:(j:Int)<(pm:Int):=by omega
    have hbg:=HBG.out j hlt
    obtain⟨ab,rfl,hrb⟩:=rdBlk (row3 H9 0 rfl) hbg
    have hat:=HAT.out j
    obtain⟨lo,hlo⟩:∃q,512 * j=q:=⟨_,rfl⟩
    obtain⟨m2,hm2⟩:∃q,min (512 * (j+1)) k=q:=⟨_,rfl⟩
    have hlok:lo<=k:=by have:=HPMV.out; omega
    have hloc:lo<=c1:=by omega
    have hm2c:m2<=c1:=by omega
    have hlom:lo<=m2:=by omega
    have f0:(j:Int) * 512=(lo:Int):=by omega
    have f1:min (((j:Int)+1) * 512) (k:Int)=(m2:Int):=by omega
    have f2:(m2:Int)<=(c1:Int):=by omega
    have f3:(lo:Int)<=(m2:Int):=by omega
    have hst:Ent (Row 72 4 (.slice (some ab) pm c8) pm (cellsB bl)::Row 75 3 (.slice V1 k c1) k (stsV Y)::L) fun w=>StAt w (subZ V1 c1 lo 3) (PD.partY Y j):=fun w0 w h=>by
     have h5:=((h.stAt 1 rfl).drop c1 (512 * j) (by rw [<- HYL.out]; exact hv1)).take 512
     rw [hlo] at h5
     unfold PD.partY
     rw [hlo]
     exact h5
    have hpl:m2 - lo=(PD.partY Y j).length:=by
     unfold PD.partY
     rw [List.length_take,List.length_drop,<- HYL.out]
     omega
    have hpy:∀s ∈ (PD.partY Y j).map toI,s.1<=1000000:=stI_size _ fun s hs=>HSO.out s (List.mem_of_mem_drop (List.mem_of_mem_take hs))
    obtain⟨fm,hfm⟩:∃q,PD.atB Y j=q:=⟨_,rfl⟩
    obtain⟨tz,htz⟩:∃q,PD.atB Y (j+1)=q:=⟨_,rfl⟩
    obtain⟨PY,hPY⟩:∃q,PD.partY Y j=q:=⟨_,rfl⟩
    obtain⟨z,hz⟩:∃q,PM.size PY=q:=⟨_,rfl⟩
    obtain⟨lb,hlb⟩:∃q,decide (j+1=pm)=q:=⟨_,rfl⟩
    obtain⟨kk,hkk⟩:∃q,PD.kind (PD.partY Y j) (PD.partB Y b j) (PD.stD Y b j).length=q:=⟨_,rfl⟩
    rw [hkk,hlb,hfm,htz] at hrb
    rw [hfm,htz,hPY,hz] at hat
    rw [hPY] at hst hpl hpy
    rw [hfm]
    obtain⟨pn,hpn⟩:∃q,m2 - lo=q:=⟨_,rfl⟩
    rw [hpn] at hpl
    obtain⟨pm1,hpm2⟩:∃q,pm - 1=q:=⟨_,rfl⟩
    have f6:(pm:Int) - 1=(pm1:Int):=by omega
    have kl:((j:Int) == (pm1:Int))=lb:=by
     rw [<- hlb]
     by_cases e:j+1=pm
     ·have:j=pm1:=by omega
      rw [this]; simp; omega
     ·rw [beq_eq_false_iff_ne.2 (by omega)]; simp [e]
    have f7:(fm:Int)+(z:Int)=(tz:Int):=by omega
    have HRB:=Lib.hid hrb
    have HTZ:=Lib.hid htz
    have HS2:=Lib.hid hst
    have HPL:=Lib.hid hpl
    have HPY:=Lib.hid hpy
    have HZ:=Lib.hid hz
    have hpnm:pn<=512:=by omega
    have hz1:z<=200000:=by
     have h1:=PD.atB_le Y (j+1)
     rw [htz,HSS.out] at h1
     omega
    have hfm1:fm<=200000:=by
     have h1:=PD.atB_le Y j
     rw [hfm,HSS.out] at h1
     omega
    have hnb:=H9.newBk [.int .i64 0,.bool false,.int .i64 0,.int .i64 0] 72
    have HNB:=Lib.hid hnb
    clear hrb hbg hkk hlb hfm htz hnb H9 hat hst hpl hpy hz hpm2 hPY
    go_wp2_with (first | (refine wpList_load_agg rfl 72 _ rfl (ab.add (j * 4)) (blC ⟨kk,lb,fm,tz⟩) rfl HRB.out Tryz.isAgg72 Tryz.sizeOf72 ?_) | (refine wpList_store_whole rfl 72 _ _ rfl wr.heap.size 72 [.int .i64 0,.bool false,.int .i64 0,.int .i64 0] (blC ⟨kk,lb,fm,tz⟩) rfl rfl HNB.out rfl Tryz.sizeOf72 (by intro u hu; simp only [blC,List.mem_cons,List.mem_nil_iff,or_false] at hu; rcases hu with rfl | rfl | rfl | rfl <;> rfl) ?_))
    intro w8 H10
    generalize wr.heap.size=g14 at H10 ⊢
    have HXA:=Lib.hid H10
    have d1:((fm:Int) != (fm:Int))=false:=by simp
    have d2:((tz:Int) != (tz:Int))=false:=by simp
    have d3:(lb != lb)=false:=by simp
    clear HNB HRB H10
    by_cases hcz:lo=c1
    ·subst hcz
     unfold subZ at HS2
     rw [if_pos rfl] at HS2
     go_wp2_with fail
     have HBX:Hid (Ent (Bk g14 72 (blC ⟨kk,lb,fm,tz⟩)::Row 72 4 (.slice (some ab) pm c8) pm (cellsB bl)::Row 75 3 (.slice V1 k lo) k (stsV Y)::L) fun w=>w.cell? ⟨g14,1,none⟩=some (.bool lb)/\w.cell? ⟨g14,2,none⟩=some (.int .i64 (fm:Int))/\w.cell? ⟨g14,3,none⟩=some (.int .i64 (tz:Int))):=Lib.hid fun w0 w h=>⟨h.cell 0 rfl 1,h.cell 0 rfl 2,h.cell 0 rfl 3⟩
     have HSX:Hid (Ent (Bk g14 72 (blC ⟨kk,lb,fm,tz⟩)::Row 72 4 (.slice (some ab) pm c8) pm (cellsB bl)::Row 75 3 (.slice V1 k lo) k (stsV Y)::L) fun w=>StAt w (V1) PY):=Lib.hid fun w0 w h=>HS2.out w0 w h.tail
     refine wp_region_sc (L:=Bk g14 72 (blC ⟨kk,lb,fm,tz⟩)::Row 72 4 (.slice (some ab) pm c8) pm (cellsB bl)::Row 75 3 (.slice V1 k lo) k (stsV Y)::L) [some (.pointer (some ⟨g14,2,none⟩)),some (.int .i64 (fm:Int)),some (.int .i64 (fm:Int)),some (.bool false),some (.bool false),some (.pointer (some ⟨g14,3,none⟩)),some (.int .i64 (tz:Int)),some (.int .i64 (fm:Int)),some (.slice V1 pn 0),some (.int .i64 (z:Int)),some (.int .i64 (tz:Int)),some (.bool false),some (.bool false),some (.bool false),some (.pointer (some ⟨g14,1,none⟩)),some (.bool lb),some (.int .i64 (j:Int)),some (.slice (some ab) pm c8),some (.int .i64 (pm:Int)),some (.int .i64 (pm1:Int)),some (.bool lb),some (.bool false),some (.bool false)] (fun _ _=>True) (fun _ _=>[]) (fun _=>[]) 23 137
      [some 110,some 111,some 112,some 113,some 114,some 115,some 116,some 117,some 118,some 119,some 120,some 121,some 122,some 123,some 124,some 125,some 126,some 127,some 128,some 129,some 130,some 131,some 132]
      [[],[0],[],[1,2],[3],[4],[5,4],[4],[4],[8,4,4],[7,9,4],[6,10,4],[4,11],[12,9],[13],[14,13],[13],[13],[17,13],[18,13],[16,19,13],[15,20,13],[13,21]]
      [[],[0],[],[0,1,2],[0,1,2,3],[0,1,2,3,4],[0,1,2,3,4,5],[0,1,2,3,4],[0,1,2,3,4],[0,1,2,3,4,8],[0,1,2,3,4,7,8,9],[0,1,2,3,4,5,6,7,8,9,10],[0,1,2,3,4,5,6,7,8,9,10,11],[0,1,2,3,4,5,6,7,8,9,10,11,12],[0,1,2,3,4,5,6,7,8,9,10,11,12,13],[0,1,2,3,4,5,6,7,8,9,10,11,12,13,14],[0,1,2,3,4,5,6,7,8,9,10,11,12,13],[0,1,2,3,4,5,6,7,8,9,10,11,12,13],[0,1,2,3,4,5,6,7,8,9,10,11,12,13,17],[0,1,2,3,4,5,6,7,8,9,10,11,12,13,17,18],[0,1,2,3,4,5,6,7,8,9,10,11,12,13,16,17,18,19],[0,1,2,3,4,5,6,7,8,9,10,11,12,13,14,15,16,17,18,19,20],[0,1,2,3,4,5,6,7,8,9,10,11,12,13,14,15,16,17,18,19,20,21]]
      [[],[],[],[],[],[],[],[],[],[],[],[],[],[],[],[],[],[],[],[],[],[],[]] [[],[],[],[],[],[],[],[],[],[],[],[],[],[],[],[],[],[],[],[],[],[],[]] [(10,.slice (some ab) pm c8),(12,.int .i64 (fm:Int)),(13,.int .i64 (j:Int)),(14,.pointer (some ⟨g14,0,none⟩)),(15,.slice V1 pn 0)]
      (by kernel_rfl) rfl (by decide) (by rfl) (by decide +kernel) rfl rfl (by simp) (HXA.out) ?hstep ?hend
     case hstep =>
      refine⟨?p0,⟨?p1,⟨?p2,⟨?p3,⟨?p4,⟨?p5,⟨?p6,⟨?p7,⟨?p8,⟨?p9,⟨?p10,⟨?p11,⟨?p12,⟨?p13,⟨?p14,⟨?p15,⟨?p16,⟨?p17,⟨?p18,⟨?p19,⟨?p20,⟨?p21,⟨?p22,trivial⟩⟩⟩⟩⟩⟩⟩⟩⟩⟩⟩⟩⟩⟩⟩⟩⟩⟩⟩⟩⟩⟩⟩
      case p0 | p2 | p3 | p4 | p12 | p13 | p22 =>
       intro x wx A rest hDf hF hS hE H K hK
       replace hK:=Lib.hid hK
       clear hS hE hDf
       repeat (obtain⟨_,hF⟩:=hF)
       change Oper.wp _ _ A wx K _
       go_step
       exact hK.out _ _ rfl H
      case p1 =>
       intro x wx A rest hDf hF hS hE H K hK0
       replace hDf:=Lib.hid hDf
       have e110:A.tmps[110]?.getD undef=.pointer (some ⟨g14,2,none⟩):=((hS 0 (by decide)).2 110 rfl).trans (hS 0 (by decide)).1
       replace H:Sp w0 (rest) wx:=H
       have hK:Hid (∀(v:Value) (w' : World),v=.int .i64 (fm:Int)->Sp w0 (rest) w'->K (A.put (some 111) v) w'):=Lib.hid hK0
       clear hK0 hF hS
       have cq:=(hE _ HBX.out _ _ H).2.1
       clear hE
       change Oper.wp _ _ A wx K _
       go_step
       exact hK.out _ _ rfl (H)
      case p5 =>
       intro x wx A rest hDf hF hS hE H K hK0
       replace hDf:=Lib.hid hDf
       have e14:A.tmps[14]?.getD undef=.pointer (some ⟨g14,0,none⟩):=factsE_get hF (14,.pointer (some ⟨g14,0,none⟩)) (by simp) (by rfl)
       have pg:=(hS 4 (by decide)).1
       replace H:Sp w0 (rest) wx:=H
       have hK:Hid (∀(v:Value) (w' : World),v=.pointer (some ⟨g14,3,none⟩)->Sp w0 (rest) w'->K (A.put (some 115) v) w'):=Lib.hid hK0
       clear hK0 hF hS hE
       refine⟨some false,by rw [pg]; rfl,?_⟩
       rw [if_pos rfl]
       change Oper.wp _ _ A wx K _
       go_step
       exact hK.out _ _ rfl (H)
      case p6 =>
       intro x wx A rest hDf hF hS hE H K hK0
       replace hDf:=Lib.hid hDf
       have e115:A.tmps[115]?.getD undef=.pointer (some ⟨g14,3,none⟩):=((hS 5 (by decide)).2 115 rfl).trans (hS 5 (by decide)).1
       have pg:=(hS 4 (by decide)).1
       replace H:Sp w0 (rest) wx:=H
       have hK:Hid (∀(v:Value) (w' : World),v=.int .i64 (tz:Int)->Sp w0 (rest) w'->K (A.put (some 116) v) w'):=Lib.hid hK0
       clear hK0 hF hS
       have cq:=(hE _ HBX.out _ _ H).2.2
       clear hE
       refine⟨some false,by rw [pg]; rfl,?_⟩
       rw [if_pos rfl]
       change Oper.wp _ _ A wx K _
       go_step
       exact hK.out _ _ rfl (H)
      case p7 =>
       intro x wx A rest hDf hF hS hE H K hK0
       replace hDf:=Lib.hid hDf
       have e12:A.tmps[12]?.getD undef=.int .i64 (fm:Int):=factsE_get hF (12,.int .i64 (fm:Int)) (by simp) (by rfl)
       have pg:=(hS 4 (by decide)).1
       replace H:Sp w0 (rest) wx:=H
       have hK:Hid (∀(v:Value) (w' : World),v=.int .i64 (fm:Int)->Sp w0 (rest) w'->K (A.put (some 117) v) w'):=Lib.hid hK0
       clear hK0 hF hS hE
       refine⟨some false,by rw [pg]; rfl,?_⟩
       rw [if_pos rfl]
       change Oper.wp _ _ A wx K _
       go_step
       exact hK.out _ _ rfl (H)
      case p8 =>
       intro x wx A rest hDf hF hS hE H K hK0
       replace hDf:=Lib.hid hDf
       have e15:A.tmps[15]?.getD undef=.slice V1 pn 0:=factsE_get hF (15,.slice V1 pn 0) (by simp) (by rfl)
       have pg:=(hS 4 (by decide)).1
       replace H:Sp w0 (rest) wx:=H
       have hK:Hid (∀(v:Value) (w' : World),v=.slice V1 pn 0->Sp w0 (rest) w'->K (A.put (some 118) v) w'):=Lib.hid hK0
       clear hK0 hF hS hE
       refine⟨some false,by rw [pg]; rfl,?_⟩
       rw [if_pos rfl]
       change Oper.wp _ _ A wx K _
       go_step
       exact hK.out _ _ rfl (H)
      case p9 =>
       intro x wx A rest hDf hF hS hE H K hK0
       replace hDf:=Lib.hid hDf
       have e118:A.tmps[118]?.getD undef=.slice V1 pn 0:=((hS 8 (by decide)).2 118 rfl).trans (hS 8 (by decide)).1
       have pg:=(hS 4 (by decide)).1
       replace H:Sp w0 (rest) wx:=H
       have hK:Hid (∀(v:Value) (w' : World),v=.int .i64 (z:Int)->Sp w0 (rest) w'->K (A.put (some 119) v) w'):=Lib.hid hK0
       clear hK0 hF hS
       have hst:=Lib.hid (hE _ HSX.out)
       have HZ9:=Lib.hid H
       clear hE H
       refine⟨some false,by rw [pg]; rfl,?_⟩
       rw [if_pos rfl]
       change Oper.wp _ _ A wx K _
       go_wp2_with fail
       refine(size_ok (V1) pn (0) (PY.map toI) HZ9.out (by rw [List.length_map]; exact HPL.out) (by omega) HPY.out (fun w0 w h=>(hst.out w0 w h).toI)).mono ?_
       rw [sizeI_map,HZ.out]
       rintro _ w9 ⟨rfl,H9⟩
       exact hK.out _ _ rfl H9
      case p10 =>
       intro x wx A rest hDf hF hS hE H K hK0
       replace hDf:=Lib.hid hDf
       have e117:A.tmps[117]?.getD undef=.int .i64 (fm:Int):=((hS 7 (by decide)).2 117 rfl).trans (hS 7 (by decide)).1
       have e119:A.tmps[119]?.getD undef=.int .i64 (z:Int):=((hS 9 (by decide)).2 119 rfl).trans (hS 9 (by decide)).1
       have pg:=(hS 4 (by decide)).1
       replace H:Sp w0 (rest) wx:=H
       have hK:Hid (∀(v:Value) (w' : World),v=.int .i64 (tz:Int)->Sp w0 (rest) w'->K (A.put (some 120) v) w'):=Lib.hid hK0
       clear hK0 hF hS hE
       refine⟨some false,by rw [pg]; rfl,?_⟩
       rw [if_pos rfl]
       change Oper.wp _ _ A wx K _
       go_step
       exact hK.out _ _ rfl (H)
      case p11 =>
       intro x wx A rest hDf hF hS hE H K hK0
       replace hDf:=Lib.hid hDf
       have e116:A.tmps[116]?.getD undef=.int .i64 (tz:Int):=((hS 6 (by decide)).2 116 rfl).trans (hS 6 (by decide)).1
       have e120:A.tmps[120]?.getD undef=.int .i64 (tz:Int):=((hS 10 (by decide)).2 120 rfl).trans (hS 10 (by decide)).1
       have pg:=(hS 4 (by decide)).1
       replace H:Sp w0 (rest) wx:=H
       have hK:Hid (∀(v:Value) (w' : World),v=.bool false->Sp w0 (rest) w'->K (A.put (some 121) v) w'):=Lib.hid hK0
       clear hK0 hF hS hE
       refine⟨some false,by rw [pg]; rfl,?_⟩
       rw [if_pos rfl]
       change Oper.wp _ _ A wx K _
       go_step
       exact hK.out _ _ rfl (H)
      case p14 =>
       intro x wx A rest hDf hF hS hE H K hK0
       replace hDf:=Lib.hid hDf
       have e14:A.tmps[14]?.getD undef=.pointer (some ⟨g14,0,none⟩):=factsE_get hF (14,.pointer (some ⟨g14,0,none⟩)) (by simp) (by rfl)
       have pg:=(hS 13 (by decide)).1
       replace H:Sp w0 (rest) wx:=H
       have hK:Hid (∀(v:Value) (w' : World),v=.pointer (some ⟨g14,1,none⟩)->Sp w0 (rest) w'->K (A.put (some 124) v) w'):=Lib.hid hK0
       clear hK0 hF hS hE
       refine⟨some false,by rw [pg]; rfl,?_⟩
       rw [if_pos rfl]
       change Oper.wp _ _ A wx K _
       go_step
       exact hK.out _ _ rfl (H)
      case p15 =>
       intro x wx A rest hDf hF hS hE H K hK0
       replace hDf:=Lib.hid hDf
       have e124:A.tmps[124]?.getD undef=.pointer (some ⟨g14,1,none⟩):=((hS 14 (by decide)).2 124 rfl).trans (hS 14 (by decide)).1
       have pg:=(hS 13 (by decide)).1
       replace H:Sp w0 (rest) wx:=H
       have hK:Hid (∀(v:Value) (w' : World),v=.bool lb->Sp w0 (rest) w'->K (A.put (some 125) v) w'):=Lib.hid hK0
       clear hK0 hF hS
       have cq:=(hE _ HBX.out _ _ H).1
       clear hE
       refine⟨some false,by rw [pg]; rfl,?_⟩
       rw [if_pos rfl]
       change Oper.wp _ _ A wx K _
       go_step
       exact hK.out _ _ rfl (H)
      case p16 =>
       intro x wx A rest hDf hF hS hE H K hK0
       replace hDf:=Lib.hid hDf
       have e13:A.tmps[13]?.getD undef=.int .i64 (j:Int):=factsE_get hF (13,.int .i64 (j:Int)) (by simp) (by rfl)
       have pg:=(hS 13 (by decide)).1
       replace H:Sp w0 (rest) wx:=H
       have hK:Hid (∀(v:Value) (w' : World),v=.int .i64 (j:Int)->Sp w0 (rest) w'->K (A.put (some 126) v) w'):=Lib.hid hK0
       clear hK0 hF hS hE
       refine⟨some false,by rw [pg]; rfl,?_⟩
       rw [if_pos rfl]
       change Oper.wp _ _ A wx K _
       go_step
       exact hK.out _ _ rfl (H)
      case p17 =>
       intro x wx A rest hDf hF hS hE H K hK0
       replace hDf:=Lib.hid hDf
       have e10:A.tmps[10]?.getD undef=.slice (some ab) pm c8:=factsE_get hF (10,.slice (some ab) pm c8) (by simp) (by rfl)
       have pg:=(hS 13 (by decide)).1
       replace H:Sp w0 (rest) wx:=H
       have hK:Hid (∀(v:Value) (w' : World),v=.slice (some ab) pm c8->Sp w0 (rest) w'->K (A.put (some 127) v) w'):=Lib.hid hK0
       clear hK0 hF hS hE
       refine⟨some false,by rw [pg]; rfl,?_⟩
       rw [if_pos rfl]
       change Oper.wp _ _ A wx K _
       go_step
       exact hK.out _ _ rfl (H)
      case p18 =>
       intro x wx A rest hDf hF hS hE H K hK0
       replace hDf:=Lib.hid hDf
       have e127:A.tmps[127]?.getD undef=.slice (some ab) pm c8:=((hS 17 (by decide)).2 127 rfl).trans (hS 17 (by decide)).1
       have pg:=(hS 13 (by decide)).1
       replace H:Sp w0 (rest) wx:=H
       have hK:Hid (∀(v:Value) (w' : World),v=.int .i64 (pm:Int)->Sp w0 (rest) w'->K (A.put (some 128) v) w'):=Lib.hid hK0
       clear hK0 hF hS hE
       refine⟨some false,by rw [pg]; rfl,?_⟩
       rw [if_pos rfl]
       change Oper.wp _ _ A wx K _
       go_step
       exact hK.out _ _ rfl (H)
      case p19 =>
       intro x wx A rest hDf hF hS hE H K hK0
       replace hDf:=Lib.hid hDf
       have e128:A.tmps[128]?.getD undef=.int .i64 (pm:Int):=((hS 18 (by decide)).2 128 rfl).trans (hS 18 (by decide)).1
       have pg:=(hS 13 (by decide)).1
       replace H:Sp w0 (rest) wx:=H
       have hK:Hid (∀(v:Value) (w' : World),v=.int .i64 (pm1:Int)->Sp w0 (rest) w'->K (A.put (some 129) v) w'):=Lib.hid hK0
       clear hK0 hF hS hE
       refine⟨some false,by rw [pg]; rfl,?_⟩
       rw [if_pos rfl]
       change Oper.wp _ _ A wx K _
       go_step
       exact hK.out _ _ rfl (H)
      case p20 =>
       intro x wx A rest hDf hF hS hE H K hK0
       replace hDf:=Lib.hid hDf
       have e126:A.tmps[126]?.getD undef=.int .i64 (j:Int):=((hS 16 (by decide)).2 126 rfl).trans (hS 16 (by decide)).1
       have e129:A.tmps[129]?.getD undef=.int .i64 (pm1:Int):=((hS 19 (by decide)).2 129 rfl).trans (hS 19 (by decide)).1
       have pg:=(hS 13 (by decide)).1
       replace H:Sp w0 (rest) wx:=H
       have hK:Hid (∀(v:Value) (w' : World),v=.bool lb->Sp w0 (rest) w'->K (A.put (some 130) v) w'):=Lib.hid hK0
       clear hK0 hF hS hE
       refine⟨some false,by rw [pg]; rfl,?_⟩
       rw [if_pos rfl]
       change Oper.wp _ _ A wx K _
       go_step
       exact hK.out _ _ rfl (H)
      case p21 =>
       intro x wx A rest hDf hF hS hE H K hK0
       replace hDf:=Lib.hid hDf
       have e125:A.tmps[125]?.getD undef=.bool lb:=((hS 15 (by decide)).2 125 rfl).trans (hS 15 (by decide)).1
       have e130:A.tmps[130]?.getD undef=.bool lb:=((hS 20 (by decide)).2 130 rfl).trans (hS 20 (by decide)).1
       have pg:=(hS 13 (by decide)).1
       replace H:Sp w0 (rest) wx:=H
       have hK:Hid (∀(v:Value) (w' : World),v=.bool false->Sp w0 (rest) w'->K (A.put (some 131) v) w'):=Lib.hid hK0
       clear hK0 hF hS hE
       refine⟨some false,by rw [pg]; rfl,?_⟩
       rw [if_pos rfl]
       change Oper.wp _ _ A wx K _
       go_step
       exact hK.out _ _ rfl (H)
     case hend =>
      intro x wx A hA hS H
      replace H:Sp w0 (Bk g14 72 (blC ⟨kk,lb,fm,tz⟩)::Row 72 4 (.slice (some ab) pm c8) pm (cellsB bl)::Row 75 3 (.slice V1 k lo) k (stsV Y)::L) wx:=H
      have y22:x 22=.bool false:=hS 22 (by decide)
      clear hS
      simp only [putAll,Act.put,List.setIfInBounds_toArray,List.set_cons_succ,List.set_cons_zero,Nat.reduceAdd] at hA
      subst hA
      rw [y22]
      have HQ:=Lib.hid H
      clear H HXA
      have t3:=HQ.out.cell 0 rfl 3
      replace t3:wx.cell? ⟨g14,3,none⟩=some (.int .i64 (tz:Int)):=t3
      go_wp2_with fail
      go_roundw
      case rel=>exact⟨j+1,by go_num,by rw [HTZ.out],by omega,HQ.out.tail⟩
      case measure=>first | (simp [intOf]; omega) | simp [intOf]
    ·have hcz2:¬ (c1:Int)=(lo:Int):=by omega
     unfold subZ at HS2
     rw [if_neg (fun q=>hcz q.symm)] at HS2
     go_wp2_with fail
     have HBX:Hid (Ent (Bk g14 72 (blC ⟨kk,lb,fm,tz⟩)::Row 72 4 (.slice (some ab) pm c8) pm (cellsB bl)::Row 75 3 (.slice V1 k c1) k (stsV Y)::L) fun w=>w.cell? ⟨g14,1,none⟩=some (.bool lb)/\w.cell? ⟨g14,2,none⟩=some (.int .i64 (fm:Int))/\w.cell? ⟨g14,3,none⟩=some (.int .i64 (tz:Int))):=Lib.hid fun w0 w h=>⟨h.cell 0 rfl 1,h.cell 0 rfl 2,h.cell 0 rfl 3⟩
     have HSX:Hid (Ent (Bk g14 72 (blC ⟨kk,lb,fm,tz⟩)::Row 72 4 (.slice (some ab) pm c8) pm (cellsB bl)::Row 75 3 (.slice V1 k c1) k (stsV Y)::L) fun w=>StAt w ((Option.map (fun x=>x.add (lo * 3)) V1)) PY):=Lib.hid fun w0 w h=>HS2.out w0 w h.tail
     refine wp_region_sc (L:=Bk g14 72 (blC ⟨kk,lb,fm,tz⟩)::Row 72 4 (.slice (some ab) pm c8) pm (cellsB bl)::Row 75 3 (.slice V1 k c1) k (stsV Y)::L) [some (.pointer (some ⟨g14,2,none⟩)),some (.int .i64 (fm:Int)),some (.int .i64 (fm:Int)),some (.bool false),some (.bool false),some (.pointer (some ⟨g14,3,none⟩)),some (.int .i64 (tz:Int)),some (.int .i64 (fm:Int)),some (.slice (Option.map (fun x=>x.add (lo * 3)) V1) pn (c1 - lo)),some (.int .i64 (z:Int)),some (.int .i64 (tz:Int)),some (.bool false),some (.bool false),some (.bool false),some (.pointer (some ⟨g14,1,none⟩)),some (.bool lb),some (.int .i64 (j:Int)),some (.slice (some ab) pm c8),some (.int .i64 (pm:Int)),some (.int .i64 (pm1:Int)),some (.bool lb),some (.bool false),some (.bool false)] (fun _ _=>True) (fun _ _=>[]) (fun _=>[]) 23 137
      [some 110,some 111,some 112,some 113,some 114,some 115,some 116,some 117,some 118,some 119,some 120,some 121,some 122,some 123,some 124,some 125,some 126,some 127,some 128,some 129,some 130,some 131,some 132]
      [[],[0],[],[1,2],[3],[4],[5,4],[4],[4],[8,4,4],[7,9,4],[6,10,4],[4,11],[12,9],[13],[14,13],[13],[13],[17,13],[18,13],[16,19,13],[15,20,13],[13,21]]
      [[],[0],[],[0,1,2],[0,1,2,3],[0,1,2,3,4],[0,1,2,3,4,5],[0,1,2,3,4],[0,1,2,3,4],[0,1,2,3,4,8],[0,1,2,3,4,7,8,9],[0,1,2,3,4,5,6,7,8,9,10],[0,1,2,3,4,5,6,7,8,9,10,11],[0,1,2,3,4,5,6,7,8,9,10,11,12],[0,1,2,3,4,5,6,7,8,9,10,11,12,13],[0,1,2,3,4,5,6,7,8,9,10,11,12,13,14],[0,1,2,3,4,5,6,7,8,9,10,11,12,13],[0,1,2,3,4,5,6,7,8,9,10,11,12,13],[0,1,2,3,4,5,6,7,8,9,10,11,12,13,17],[0,1,2,3,4,5,6,7,8,9,10,11,12,13,17,18],[0,1,2,3,4,5,6,7,8,9,10,11,12,13,16,17,18,19],[0,1,2,3,4,5,6,7,8,9,10,11,12,13,14,15,16,17,18,19,20],[0,1,2,3,4,5,6,7,8,9,10,11,12,13,14,15,16,17,18,19,20,21]]
      [[],[],[],[],[],[],[],[],[],[],[],[],[],[],[],[],[],[],[],[],[],[],[]] [[],[],[],[],[],[],[],[],[],[],[],[],[],[],[],[],[],[],[],[],[],[],[]] [(10,.slice (some ab) pm c8),(12,.int .i64 (fm:Int)),(13,.int .i64 (j:Int)),(14,.pointer (some ⟨g14,0,none⟩)),(15,.slice (Option.map (fun x=>x.add (lo * 3)) V1) pn (c1 - lo))]
      (by kernel_rfl) rfl (by decide) (by rfl) (by decide +kernel) rfl rfl (by simp) (HXA.out) ?hstep ?hend
     case hstep =>
      refine⟨?p0,⟨?p1,⟨?p2,⟨?p3,⟨?p4,⟨?p5,⟨?p6,⟨?p7,⟨?p8,⟨?p9,⟨?p10,⟨?p11,⟨?p12,⟨?p13,⟨?p14,⟨?p15,⟨?p16,⟨?p17,⟨?p18,⟨?p19,⟨?p20,⟨?p21,⟨?p22,trivial⟩⟩⟩⟩⟩⟩⟩⟩⟩⟩⟩⟩⟩⟩⟩⟩⟩⟩⟩⟩⟩⟩⟩
      case p0 | p2 | p3 | p4 | p12 | p13 | p22 =>
       intro x wx A rest hDf hF hS hE H K hK
       replace hK:=Lib.hid hK
       clear hS hE hDf
       repeat (obtain⟨_,hF⟩:=hF)
       change Oper.wp _ _ A wx K _
       go_step
       exact hK.out _ _ rfl H
      case p1 =>
       intro x wx A rest hDf hF hS hE H K hK0
       replace hDf:=Lib.hid hDf
       have e110:A.tmps[110]?.getD undef=.pointer (some ⟨g14,2,none⟩):=((hS 0 (by decide)).2 110 rfl).trans (hS 0 (by decide)).1
       replace H:Sp w0 (rest) wx:=H
       have hK:Hid (∀(v:Value) (w' : World),v=.int .i64 (fm:Int)->Sp w0 (rest) w'->K (A.put (some 111) v) w'):=Lib.hid hK0
       clear hK0 hF hS
       have cq:=(hE _ HBX.out _ _ H).2.1
       clear hE
       change Oper.wp _ _ A wx K _
       go_step
       exact hK.out _ _ rfl (H)
      case p5 =>
       intro x wx A rest hDf hF hS hE H K hK0
       replace hDf:=Lib.hid hDf
       have e14:A.tmps[14]?.getD undef=.pointer (some ⟨g14,0,none⟩):=factsE_get hF (14,.pointer (some ⟨g14,0,none⟩)) (by simp) (by rfl)
       have pg:=(hS 4 (by decide)).1
       replace H:Sp w0 (rest) wx:=H
       have hK:Hid (∀(v:Value) (w' : World),v=.pointer (some ⟨g14,3,none⟩)->Sp w0 (rest) w'->K (A.put (some 115) v) w'):=Lib.hid hK0
       clear hK0 hF hS hE
       refine⟨some false,by rw [pg]; rfl,?_⟩
       rw [if_pos rfl]
       change Oper.wp _ _ A wx K _
       go_step
       exact hK.out _ _ rfl (H)
      case p6 =>
       intro x wx A rest hDf hF hS hE H K hK0
       replace hDf:=Lib.hid hDf
       have e115:A.tmps[115]?.getD undef=.pointer (some ⟨g14,3,none⟩):=((hS 5 (by decide)).2 115 rfl).trans (hS 5 (by decide)).1
       have pg:=(hS 4 (by decide)).1
       replace H:Sp w0 (rest) wx:=H
       have hK:Hid (∀(v:Value) (w' : World),v=.int .i64 (tz:Int)->Sp w0 (rest) w'->K (A.put (some 116) v) w'):=Lib.hid hK0
       clear hK0 hF hS
       have cq:=(hE _ HBX.out _ _ H).2.2
       clear hE
       refine⟨some false,by rw [pg]; rfl,?_⟩
       rw [if_pos rfl]
       change Oper.wp _ _ A wx K _
       go_step
       exact hK.out _ _ rfl (H)
      case p7 =>
       intro x wx A rest hDf hF hS hE H K hK0
       replace hDf:=Lib.hid hDf
       have e12:A.tmps[12]?.getD undef=.int .i64 (fm:Int):=factsE_get hF (12,.int .i64 (fm:Int)) (by simp) (by rfl)
       have pg:=(hS 4 (by decide)).1
       replace H:Sp w0 (rest) wx:=H
       have hK:Hid (∀(v:Value) (w' : World),v=.int .i64 (fm:Int)->Sp w0 (rest) w'->K (A.put (some 117) v) w'):=Lib.hid hK0
       clear hK0 hF hS hE
       refine⟨some false,by rw [pg]; rfl,?_⟩
       rw [if_pos rfl]
       change Oper.wp _ _ A wx K _
       go_step
       exact hK.out _ _ rfl (H)
      case p8 =>
       intro x wx A rest hDf hF hS hE H K hK0
       replace hDf:=Lib.hid hDf
       have e15:A.tmps[15]?.getD undef=.slice (Option.map (fun x=>x.add (lo * 3)) V1) pn (c1 - lo):=factsE_get hF (15,.slice (Option.map (fun x=>x.add (lo * 3)) V1) pn (c1 - lo)) (by simp) (by rfl)
       have pg:=(hS 4 (by decide)).1
       replace H:Sp w0 (rest) wx:=H
       have hK:Hid (∀(v:Value) (w' : World),v=.slice (Option.map (fun x=>x.add (lo * 3)) V1) pn (c1 - lo)->Sp w0 (rest) w'->K (A.put (some 118) v) w'):=Lib.hid hK0
       clear hK0 hF hS hE
       refine⟨some false,by rw [pg]; rfl,?_⟩
       rw [if_pos rfl]
       change Oper.wp _ _ A wx K _
       go_step
       exact hK.out _ _ rfl (H)
      case p9 =>
       intro x wx A rest hDf hF hS hE H K hK0
       replace hDf:=Lib.hid hDf
       have e118:A.tmps[118]?.getD undef=.slice (Option.map (fun x=>x.add (lo * 3)) V1) pn (c1 - lo):=((hS 8 (by decide)).2 118 rfl).trans (hS 8 (by decide)).1
       have pg:=(hS 4 (by decide)).1
       replace H:Sp w0 (rest) wx:=H
       have hK:Hid (∀(v:Value) (w' : World),v=.int .i64 (z:Int)->Sp w0 (rest) w'->K (A.put (some 119) v) w'):=Lib.hid hK0
       clear hK0 hF hS
       have hst:=Lib.hid (hE _ HSX.out)
       have HZ9:=Lib.hid H
       clear hE H
       refine⟨some false,by rw [pg]; rfl,?_⟩
       rw [if_pos rfl]
       change Oper.wp _ _ A wx K _
       go_wp2_with fail
       refine(size_ok ((Option.map (fun x=>x.add (lo * 3)) V1)) pn ((c1 - lo)) (PY.map toI) HZ9.out (by rw [List.length_map]; exact HPL.out) (by omega) HPY.out (fun w0 w h=>(hst.out w0 w h).toI)).mono ?_
       rw [sizeI_map,HZ.out]
       rintro _ w9 ⟨rfl,H9⟩
       exact hK.out _ _ rfl H9
      case p10 =>
       intro x wx A rest hDf hF hS hE H K hK0
       replace hDf:=Lib.hid hDf
       have e117:A.tmps[117]?.getD undef=.int .i64 (fm:Int):=((hS 7 (by decide)).2 117 rfl).trans (hS 7 (by decide)).1
       have e119:A.tmps[119]?.getD undef=.int .i64 (z:Int):=((hS 9 (by decide)).2 119 rfl).trans (hS 9 (by decide)).1
       have pg:=(hS 4 (by decide)).1
       replace H:Sp w0 (rest) wx:=H
       have hK:Hid (∀(v:Value) (w' : World),v=.int .i64 (tz:Int)->Sp w0 (rest) w'->K (A.put (some 120) v) w'):=Lib.hid hK0
       clear hK0 hF hS hE
       refine⟨some false,by rw [pg]; rfl,?_⟩
       rw [if_pos rfl]
       change Oper.wp _ _ A wx K _
       go_step
       exact hK.out _ _ rfl (H)
      case p11 =>
       intro x wx A rest hDf hF hS hE H K hK0
       replace hDf:=Lib.hid hDf
       have e116:A.tmps[116]?.getD undef=.int .i64 (tz:Int):=((hS 6 (by decide)).2 116 rfl).trans (hS 6 (by decide)).1
       have e120:A.tmps[120]?.getD undef=.int .i64 (tz:Int):=((hS 10 (by decide)).2 120 rfl).trans (hS 10 (by decide)).1
       have pg:=(hS 4 (by decide)).1
       replace H:Sp w0 (rest) wx:=H
       have hK:Hid (∀(v:Value) (w' : World),v=.bool false->Sp w0 (rest) w'->K (A.put (some 121) v) w'):=Lib.hid hK0
       clear hK0 hF hS hE
       refine⟨some false,by rw [pg]; rfl,?_⟩
       rw [if_pos rfl]
       change Oper.wp _ _ A wx K _
       go_step
       exact hK.out _ _ rfl (H)
      case p14 =>
       intro x wx A rest hDf hF hS hE H K hK0
       replace hDf:=Lib.hid hDf
       have e14:A.tmps[14]?.getD undef=.pointer (some ⟨g14,0,none⟩):=factsE_get hF (14,.pointer (some ⟨g14,0,none⟩)) (by simp) (by rfl)
       have pg:=(hS 13 (by decide)).1
       replace H:Sp w0 (rest) wx:=H
       have hK:Hid (∀(v:Value) (w' : World),v=.pointer (some ⟨g14,1,none⟩)->Sp w0 (rest) w'->K (A.put (some 124) v) w'):=Lib.hid hK0
       clear hK0 hF hS hE
       refine⟨some false,by rw [pg]; rfl,?_⟩
       rw [if_pos rfl]
       change Oper.wp _ _ A wx K _
       go_step
       exact hK.out _ _ rfl (H)
      case p15 =>
       intro x wx A rest hDf hF hS hE H K hK0
       replace hDf:=Lib.hid hDf
       have e124:A.tmps[124]?.getD undef=.pointer (some ⟨g14,1,none⟩):=((hS 14 (by decide)).2 124 rfl).trans (hS 14 (by decide)).1
       have pg:=(hS 13 (by decide)).1
       replace H:Sp w0 (rest) wx:=H
       have hK:Hid (∀(v:Value) (w' : World),v=.bool lb->Sp w0 (rest) w'->K (A.put (some 125) v) w'):=Lib.hid hK0
       clear hK0 hF hS
       have cq:=(hE _ HBX.out _ _ H).1
       clear hE
       refine⟨some false,by rw [pg]; rfl,?_⟩
       rw [if_pos rfl]
       change Oper.wp _ _ A wx K _
       go_step
       exact hK.out _ _ rfl (H)
      case p16 =>
       intro x wx A rest hDf hF hS hE H K hK0
       replace hDf:=Lib.hid hDf
       have e13:A.tmps[13]?.getD undef=.int .i64 (j:Int):=factsE_get hF (13,.int .i64 (j:Int)) (by simp) (by rfl)
       have pg:=(hS 13 (by decide)).1
       replace H:Sp w0 (rest) wx:=H
       have hK:Hid (∀(v:Value) (w' : World),v=.int .i64 (j:Int)->Sp w0 (rest) w'->K (A.put (some 126) v) w'):=Lib.hid hK0
       clear hK0 hF hS hE
       refine⟨some false,by rw [pg]; rfl,?_⟩
       rw [if_pos rfl]
       change Oper.wp _ _ A wx K _
       go_step
       exact hK.out _ _ rfl (H)
      case p17 =>
       intro x wx A rest hDf hF hS hE H K hK0
       replace hDf:=Lib.hid hDf
       have e10:A.tmps[10]?.getD undef=.slice (some ab) pm c8:=factsE_get hF (10,.slice (some ab) pm c8) (by simp) (by rfl)
       have pg:=(hS 13 (by decide)).1
       replace H:Sp w0 (rest) wx:=H
       have hK:Hid (∀(v:Value) (w' : World),v=.slice (some ab) pm c8->Sp w0 (rest) w'->K (A.put (some 127) v) w'):=Lib.hid hK0
       clear hK0 hF hS hE
       refine⟨some false,by rw [pg]; rfl,?_⟩
       rw [if_pos rfl]
       change Oper.wp _ _ A wx K _
       go_step
       exact hK.out _ _ rfl (H)
      case p18 =>
       intro x wx A rest hDf hF hS hE H K hK0
       replace hDf:=Lib.hid hDf
       have e127:A.tmps[127]?.getD undef=.slice (some ab) pm c8:=((hS 17 (by decide)).2 127 rfl).trans (hS 17 (by decide)).1
       have pg:=(hS 13 (by decide)).1
       replace H:Sp w0 (rest) wx:=H
       have hK:Hid (∀(v:Value) (w' : World),v=.int .i64 (pm:Int)->Sp w0 (rest) w'->K (A.put (some 128) v) w'):=Lib.hid hK0
       clear hK0 hF hS hE
       refine⟨some false,by rw [pg]; rfl,?_⟩
       rw [if_pos rfl]
       change Oper.wp _ _ A wx K _
       go_step
       exact hK.out _ _ rfl (H)
      case p19 =>
       intro x wx A rest hDf hF hS hE H K hK0
       replace hDf:=Lib.hid hDf
       have e128:A.tmps[128]?.getD undef=.int .i64 (pm:Int):=((hS 18 (by decide)).2 128 rfl).trans (hS 18 (by decide)).1
       have pg:=(hS 13 (by decide)).1
       replace H:Sp w0 (rest) wx:=H
       have hK:Hid (∀(v:Value) (w' : World),v=.int .i64 (pm1:Int)->Sp w0 (rest) w'->K (A.put (some 129) v) w'):=Lib.hid hK0
       clear hK0 hF hS hE
       refine⟨some false,by rw [pg]; rfl,?_⟩
       rw [if_pos rfl]
       change Oper.wp _ _ A wx K _
       go_step
       exact hK.out _ _ rfl (H)
      case p20 =>
       intro x wx A rest hDf hF hS hE H K hK0
       replace hDf:=Lib.hid hDf
       have e126:A.tmps[126]?.getD undef=.int .i64 (j:Int):=((hS 16 (by decide)).2 126 rfl).trans (hS 16 (by decide)).1
       have e129:A.tmps[129]?.getD undef=.int .i64 (pm1:Int):=((hS 19 (by decide)).2 129 rfl).trans (hS 19 (by decide)).1
       have pg:=(hS 13 (by decide)).1
       replace H:Sp w0 (rest) wx:=H
       have hK:Hid (∀(v:Value) (w' : World),v=.bool lb->Sp w0 (rest) w'->K (A.put (some 130) v) w'):=Lib.hid hK0
       clear hK0 hF hS hE
       refine⟨some false,by rw [pg]; rfl,?_⟩
       rw [if_pos rfl]
       change Oper.wp _ _ A wx K _
       go_step
       exact hK.out _ _ rfl (H)
      case p21 =>
       intro x wx A rest hDf hF hS hE H K hK0
       replace hDf:=Lib.hid hDf
       have e125:A.tmps[125]?.getD undef=.bool lb:=((hS 15 (by decide)).2 125 rfl).trans (hS 15 (by decide)).1
       have e130:A.tmps[130]?.getD undef=.bool lb:=((hS 20 (by decide)).2 130 rfl).trans (hS 20 (by decide)).1
       have pg:=(hS 13 (by decide)).1
       replace H:Sp w0 (rest) wx:=H
       have hK:Hid (∀(v:Value) (w' : World),v=.bool false->Sp w0 (rest) w'->K (A.put (some 131) v) w'):=Lib.hid hK0
       clear hK0 hF hS hE
       refine⟨some false,by rw [pg]; rfl,?_⟩
       rw [if_pos rfl]
       change Oper.wp _ _ A wx K _
       go_step
       exact hK.out _ _ rfl (H)
     case hend =>
      intro x wx A hA hS H
      replace H:Sp w0 (Bk g14 72 (blC ⟨kk,lb,fm,tz⟩)::Row 72 4 (.slice (some ab) pm c8) pm (cellsB bl)::Row 75 3 (.slice V1 k c1) k (stsV Y)::L) wx:=H
      have y22:x 22=.bool false:=hS 22 (by decide)
      clear hS
      simp only [putAll,Act.put,List.setIfInBounds_toArray,List.set_cons_succ,List.set_cons_zero,Nat.reduceAdd] at hA
      subst hA
      rw [y22]
      have HQ:=Lib.hid H
      clear H HXA
      have t3:=HQ.out.cell 0 rfl 3
      replace t3:wx.cell? ⟨g14,3,none⟩=some (.int .i64 (tz:Int)):=t3
      go_wp2_with fail
      go_roundw
      case rel=>exact⟨j+1,by go_num,by rw [HTZ.out],by omega,HQ.out.tail⟩
      case measure=>first | (simp [intOf]; omega) | simp [intOf]
   ·have k1:¬ (j:Int)<(pm:Int):=by omega
    have HTE:=Lib.hid (dtells_ok DL DF dl df (H9.pick 2 []) HD.out)
    clear H9
    go_wp2_with fail
    refine HTE.out.mono ?_
    rintro _ w9 ⟨rfl,H10⟩
    go_wp2_with fail
    go_ret
    exact⟨rfl,H10⟩
theorem dmeans_law (V:Option Addr) (n c:Nat) (X:List StI) {W:World} (hT:(∃TL TA cl ca,Tabs TL TA cl ca W)/\∃DL DF dl df,DTabs DL DF dl df W) (hn:n=X.length) (hc:n<=c) (hcm:c<=maxLen) (h:Rd W V (stsI X)) :
  Calls Tryz.prog 8 #[.slice V n c] W fun e w'=>e=.returned (.bool true)/\Sp W [Same W] w':=by
 obtain⟨⟨TL,TA,cl,ca,hT⟩,DL,DF,dl,df,hD⟩:=hT
 exact dmeans_any V n c X TL TA DL DF cl ca dl df (Sp.start W) (tabs_same hT) (Ent.of_same 0 rfl fun _ hs=>hD.heap hs) hn hc hcm fun w0 w h2=>.of_rd ((h.same 0 rfl) w0 w h2)
theorem law_end {P:Program} {f:FuncId} {args:Array Value} {w:World} (h:Calls P f args w fun e w'=>e=.returned (.bool true)/\Sp w [Same w] w') :
  Calls P f args w fun e w'=>e=.returned (.bool true)/\Below w.heap.size w w':=h.mono fun _ _ k=>⟨k.1,k.2.below 0 rfl⟩
open Go.ChangeShapes Go.WideShapes Go.ChangeAt Go.RowKit Go.Lib
def pairData (l:List (Nat × Nat)):DataW Unit:=.slice (l.map fun x=>.agg [.lit (.int .i64 (x.1:Int)),.lit (.int .i64 (x.2:Int))]) []
theorem pairs_of_reads {P:Program} {w:World} {name:String} {g:Nat} {t e:TypeId} {f0 f1:Field} {l:List (Nat × Nat)} (hn:P.globalNamed name=some g) (hy:(P.globals[g]?).map (·.type)=some t)
  (ht:P.underlying t=some (.slice e)) (he:P.underlying e=some (.struct #[f0,f1])) (hc:P.cellsOf e=2) (h0:P.underlying f0.type=some (.int .i64)) (h1:P.underlying f1.type=some (.int .i64))
  (hf0:f0.offset=0/\P.cellsOf f0.type=1) (hf1:f1.offset=1/\P.cellsOf f1.type=1) (hl:0<l.length) (h:VarReads P w name (pairData l)) :
  ∃A c,w.cell? ⟨g,0,none⟩=some (.slice A l.length c)/\Rd w A (cellsP l):=by
 obtain⟨g',t',cs,fuel,p,hg,hty,hvar,hd⟩:=h
 obtain rfl:=Option.some.inj (hn.symm.trans hg)
 obtain rfl:=Option.some.inj (hy.symm.trans hty)
 rcases DataW.trod_slice ht hd with ⟨_,hx⟩ | ⟨a,len,cap,el,rs,m,rfl,hcs,hx,_,hlc,_,hel,helem,hsp,_⟩
 ·cases hx
 have e0:=congrArg Prod.fst hx
 simp only [pairData,DataW.slice.injEq] at e0
 obtain⟨eE,eR⟩:=e0
 have hlen:len=l.length:=by
  have:=congrArg List.length eE
  simp at this
  omega
 have hcell:∀i,i<l.length->w.cell? (a.add (i * 2))=some (.int .i64 ((l.getD i (0,0)).1:Nat))/\w.cell? (a.add (i * 2+1))=some (.int .i64 ((l.getD i (0,0)).2:Nat)):=by
  intro i hi
  have h9:=helem i (by omega)
  rw [hc] at h9
  obtain⟨b,hb⟩:∃b,el[i]?=some b:=⟨el[i]'(by omega),List.getElem?_eq_getElem (by omega)⟩
  rw [hb] at h9
  obtain⟨ce,hce,hte⟩:=Option.bind_eq_some_iff.1 h9
  obtain⟨xs,n,_,hbx,hcl,hlen2,hf⟩:=DataW.trod_struct he hte
  have hb1:b.1=.agg [.lit (.int .i64 ((l.getD i (0,0)).1:Nat)),.lit (.int .i64 ((l.getD i (0,0)).2:Nat))]:=by
   have:=congrArg (·[i]?) eE
   simp [hb,hi,List.getD] at this
   have e2:l.getD i (0,0)=l[i]:=by simp [List.getD,List.getElem?_eq_getElem hi]
   rw [e2]
   exact this.symm
  rw [hc] at hcl
  obtain⟨_,_,hat⟩:=World.cells?_some hce
  match ce,hcl,xs,hlen2 with
  | [c0,c1],_,[y0,y1],_ =>
   have g0:=hf 0 f0 rfl
   have g1:=hf 1 f1 rfl
   rw [hf0.1,hf0.2] at g0
   rw [hf1.1,hf1.2] at g1
   replace g0:DataW.trod _ P w 0 (fun _=>true) false n f0.type [c0]=some y0:=g0
   replace g1:DataW.trod _ P w 0 (fun _=>true) false n f1.type [c1]=some y1:=g1
   obtain⟨z0,q0,d0,_⟩:=DataW.trod_int h0 g0
   obtain⟨z1,q1,d1,_⟩:=DataW.trod_int h1 g1
   rw [hbx] at hb1
   simp only [List.map_cons,List.map_nil,DataW.agg.injEq,List.cons.injEq,and_true] at hb1
   obtain⟨k0,k1⟩:=hb1
   rw [d0] at k0
   rw [d1] at k1
   simp only [DataW.lit.injEq,Lit.int.injEq,true_and] at k0 k1
   replace q0:c0=.int .i64 z0:=by simpa using q0
   replace q1:c1=.int .i64 z1:=by simpa using q1
   have a0:=hat 0 (by simp)
   have a1:=hat 1 (by simp)
   rw [Go.Addr.add_add] at a0 a1
   refine⟨?_,?_⟩
   ·rw [<- k0,<- q0]; simpa using a0
   ·rw [<- k1,<- q1]; simpa using a1
 obtain⟨R,o,sR⟩:=a
 refine⟨some ⟨R,o,sR⟩,cap,?_,fun _=>⟨_,rfl,fun j u hj=>?_⟩⟩
 ·rw [World.var?_cell hg hvar 0,<- Array.getElem?_toList,hcs,hlen]
  rfl
 ·have hj2:j<l.length * 2:=by
   have:=(List.getElem?_eq_some_iff.1 hj).1
   rwa [cellsP_len] at this
  have hg2:=cellsP_get l (j / 2) (by omega)
  have hc2:=hcell (j / 2) (by omega)
  by_cases hpar:j % 2=0
  ·have e:j / 2 * 2=j:=by omega
   rw [e] at hg2 hc2
   rw [hc2.1,<- hg2.1,hj]
  ·have e:j / 2 * 2+1=j:=by omega
   rw [e] at hg2 hc2
   rw [hc2.2,<- hg2.2,hj]
theorem gOrd : Tryz.prog.globalNamed "portolan/inflate.order" = some 5 := by kernel_rfl
theorem tOrd:(Tryz.prog.globals[5]?).map (·.type)=some 192:=by kernel_rfl
theorem gLen : Tryz.prog.globalNamed "portolan/inflate.lengths" = some 7 := by kernel_rfl
theorem tLen:(Tryz.prog.globals[7]?).map (·.type)=some 245:=by kernel_rfl
theorem gAwy : Tryz.prog.globalNamed "portolan/inflate.away" = some 4 := by kernel_rfl
theorem tAwy:(Tryz.prog.globals[4]?).map (·.type)=some 245:=by kernel_rfl
def ordZ:List Int:=PI.orderT.map fun n:Nat=>(n:Int)
open Go.ChangeShapes Go.WideShapes Go.ChangeAt Go.RowKit Go.Lib
theorem tab_of_reads {P:Program} {w:World} {name:String} {k:IntKind} {zs:List Int} {g:Nat} {t e:TypeId} {n:Nat}
  (hg:P.globalNamed name=some g) (hy:(P.globals[g]?).map (·.type)=some t) (ht:P.underlying t=some (.array n e)) (he:P.underlying e=some (.int k)) (hce:P.cellsOf e=1) (hct:P.cellsOf t=n)
  (h:VarReads P w name (Lib.tabData k zs)):Lib.TabIs P w name k zs:=by
 obtain⟨g',t',cs,fuel,p,hg',hty,hvar,hd⟩:=h
 obtain rfl:=Option.some.inj (hg.symm.trans hg')
 obtain rfl:=Option.some.inj (hy.symm.trans hty)
 have h1:=Lib.cells_of_tab ht he hce hct hd
 unfold Lib.TabIs
 rw [hvar,<- h1]
theorem gDOrd : Tryz.prog.globalNamed "portolan/deflate.order" = some 2 := by kernel_rfl
theorem tDOrd:(Tryz.prog.globals[2]?).map (·.type)=some 192:=by kernel_rfl
theorem gDLen : Tryz.prog.globalNamed "portolan/deflate.longs" = some 0 := by kernel_rfl
theorem tDLen:(Tryz.prog.globals[0]?).map (·.type)=some 112:=by kernel_rfl
theorem gDAwy : Tryz.prog.globalNamed "portolan/deflate.fars" = some 1 := by kernel_rfl
theorem tDAwy:(Tryz.prog.globals[1]?).map (·.type)=some 112:=by kernel_rfl
theorem dtabs_of_reads {W : World} (ho : VarReads Tryz.prog W "portolan/deflate.order" (Lib.tabData .i64 ordZ)) (hl : VarReads Tryz.prog W "portolan/deflate.longs" (pairData PD.longT)) (ha : VarReads Tryz.prog W "portolan/deflate.fars" (pairData PI.awayT)) : ∃ DL DF dl df, DTabs DL DF dl df W := by
 have hT:=tab_of_reads (k:=.i64) (zs:=ordZ) gDOrd tDOrd Tryz.underlying192 Tryz.underlying3 (by kernel_rfl) (by kernel_rfl) ho
 obtain⟨TL,cl,e1,e2⟩:=pairs_of_reads gDLen tDLen Tryz.underlying112 Tryz.underlying109 (by kernel_rfl) Tryz.underlying3 Tryz.underlying3 ⟨rfl,by kernel_rfl⟩ ⟨rfl,by kernel_rfl⟩ (by decide) hl
 obtain⟨TA,ca,e3,e4⟩:=pairs_of_reads gDAwy tDAwy Tryz.underlying112 Tryz.underlying109 (by kernel_rfl) Tryz.underlying3 Tryz.underlying3 ⟨rfl,by kernel_rfl⟩ ⟨rfl,by kernel_rfl⟩ (by decide) ha
 refine⟨TL,TA,cl,ca,e1,e2,e3,e4,fun i hi=>?_⟩
 have:=hT.cell gDOrd i (by simpa [ordZ,PI.orderT] using hi)
 rw [this]
 have:∀i,i<19->ordZ.getD i 0=((PI.orderT.getD i 0:Nat):Int):=by decide
 rw [this i hi]
theorem itabs_of_reads {W : World} (ho : VarReads Tryz.prog W "portolan/inflate.order" (Lib.tabData .i64 ordZ)) (hl : VarReads Tryz.prog W "portolan/inflate.lengths" (pairData PI.lengthsT)) (ha : VarReads Tryz.prog W "portolan/inflate.away" (pairData PI.awayT)) : ∃ TL TA cl ca, Tabs TL TA cl ca W := by
 have hT:=tab_of_reads (k:=.i64) (zs:=ordZ) gOrd tOrd Tryz.underlying192 Tryz.underlying3 (by kernel_rfl) (by kernel_rfl) ho
 obtain⟨TL,cl,e1,e2⟩:=pairs_of_reads gLen tLen Tryz.underlying245 Tryz.underlying266 (by kernel_rfl) Tryz.underlying3 Tryz.underlying3 ⟨rfl,by kernel_rfl⟩ ⟨rfl,by kernel_rfl⟩ (by decide) hl
 obtain⟨TA,ca,e3,e4⟩:=pairs_of_reads gAwy tAwy Tryz.underlying245 Tryz.underlying266 (by kernel_rfl) Tryz.underlying3 Tryz.underlying3 ⟨rfl,by kernel_rfl⟩ ⟨rfl,by kernel_rfl⟩ (by decide) ha
 refine⟨TL,TA,cl,ca,e1,e2,e3,e4,fun i hi=>?_⟩
 have:=hT.cell gOrd i (by simpa [ordZ,PI.orderT] using hi)
 rw [this]
 have:∀i,i<19->ordZ.getD i 0=((PI.orderT.getD i 0:Nat):Int):=by decide
 rw [this i hi]
theorem laid6 {W : World} (h : laidMetH Tryz.prog [("portolan/deflate.order", Rows.laid_portolan_deflate_order), ("portolan/deflate.longs", Rows.laid_portolan_deflate_longs), ("portolan/deflate.fars", Rows.laid_portolan_deflate_fars), ("portolan/inflate.order", Rows.laid_portolan_inflate_order), ("portolan/inflate.lengths", Rows.laid_portolan_inflate_lengths), ("portolan/inflate.away", Rows.laid_portolan_inflate_away)] W) : (∃ TL TA cl ca, Tabs TL TA cl ca W) /\ ∃ DL DF dl df, DTabs DL DF dl df W := by
 rw [MakeChecks.laidMetH_plain _ _ _ (by kernel_rfl)] at h
 have h0 : VarReads Tryz.prog W "portolan/deflate.order" (Lib.tabData .i64 ordZ) := laidMet.reads h (by simp only [List.mem_cons]; exact .inl rfl)
 have h1 : VarReads Tryz.prog W "portolan/deflate.longs" (pairData PD.longT) := laidMet.reads h (by simp only [List.mem_cons]; exact .inr (.inl rfl))
 have h2 : VarReads Tryz.prog W "portolan/deflate.fars" (pairData PI.awayT) := laidMet.reads h (by simp only [List.mem_cons]; exact .inr (.inr (.inl rfl)))
 have h3 : VarReads Tryz.prog W "portolan/inflate.order" (Lib.tabData .i64 ordZ) := laidMet.reads h (by simp only [List.mem_cons]; exact .inr (.inr (.inr (.inl rfl))))
 have h4 : VarReads Tryz.prog W "portolan/inflate.lengths" (pairData PI.lengthsT) := laidMet.reads h (by simp only [List.mem_cons]; exact .inr (.inr (.inr (.inr (.inl rfl)))))
 have h5 : VarReads Tryz.prog W "portolan/inflate.away" (pairData PI.awayT) := laidMet.reads h (by simp only [List.mem_cons]; exact .inr (.inr (.inr (.inr (.inr (.inl rfl))))))
 exact⟨itabs_of_reads h3 h4 h5,dtabs_of_reads h0 h1 h2⟩
end Go.Proofs.YtloijdbkikccgaaGreatDoor

