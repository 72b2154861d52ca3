/- DefKn: the walk of the law: examples. -/
import Derived.Test.YtloijdbkikccgaaGreatDoorLDefKnP
import Derived.Test.YtloijdbkikccgaaGreatDoorPk01
import Derived.Test.YtloijdbkikccgaaGreatDoorPk02
import Derived.Test.YtloijdbkikccgaaGreatDoorPk03
import Derived.Test.YtloijdbkikccgaaGreatDoorPk04
import Derived.Test.YtloijdbkikccgaaGreatDoorPk05
import Derived.Test.YtloijdbkikccgaaGreatDoorPk06
import Derived.Test.YtloijdbkikccgaaGreatDoorPk07
import Derived.Test.YtloijdbkikccgaaGreatDoorPk08
import Derived.Test.YtloijdbkikccgaaGreatDoorPk09
import Derived.Test.YtloijdbkikccgaaGreatDoorPk10
import Derived.Test.YtloijdbkikccgaaGreatDoorPk11
import Derived.Test.YtloijdbkikccgaaGreatDoorPk12
import Derived.Test.YtloijdbkikccgaaGreatDoorPk13
import Derived.Test.YtloijdbkikccgaaGreatDoorPk14
import Derived.Test.YtloijdbkikccgaaGreatDoorPk15
import Derived.Test.YtloijdbkikccgaaGreatDoorPk16
import Derived.Test.YtloijdbkikccgaaGreatDoorPk17
import Derived.Test.YtloijdbkikccgaaGreatDoorPk18
import Derived.Test.YtloijdbkikccgaaGreatDoorPk19
import Derived.Test.YtloijdbkikccgaaGreatDoorPk20
import Derived.Test.YtloijdbkikccgaaGreatDoorPk21
import Derived.Test.YtloijdbkikccgaaGreatDoorPk22
import Derived.Test.YtloijdbkikccgaaGreatDoorPk23
import Derived.Test.YtloijdbkikccgaaGreatDoorPk24
import Derived.Test.YtloijdbkikccgaaGreatDoorPk25
import Derived.Test.YtloijdbkikccgaaGreatDoorPk26
import Derived.Test.YtloijdbkikccgaaGreatDoorPk27
import Derived.Test.YtloijdbkikccgaaGreatDoorPk28
import Derived.Test.YtloijdbkikccgaaGreatDoorPk29
import Derived.Test.YtloijdbkikccgaaGreatDoorPk30
import Derived.Test.YtloijdbkikccgaaGreatDoorPk31
import Derived.Test.YtloijdbkikccgaaGreatDoorPk32
import Derived.Test.YtloijdbkikccgaaGreatDoorPk33
import Derived.Test.YtloijdbkikccgaaGreatDoorPkSL
import Derived.Test.YtloijdbkikccgaaGreatDoorPkSK
namespace Go.Proofs.YtloijdbkikccgaaGreatDoor
set_option linter.unusedVariables false
set_option linter.unusedSimpArgs false
open Go.RowKit
theorem stsV_one (l:List PM.St) (s:PM.St):stsV (l++[s])=stsV l++stCells s:=by rw [stsV_append]; simp [stsV]
set_option maxRecDepth 100000 in
set_option maxHeartbeats 16000000 in
theorem dknown_any (TL TA DL DF:Option Addr) (cl ca dl df:Nat) {w0 w:World} {L:List Pr} (H:Sp w0 L w) (hT:Ent L (Tabs TL TA cl ca)) (hD:Ent L (DTabs DL DF dl df)) :
  Calls Tryz.prog 7 #[] w fun e w'=>e=.returned (.bool true)/\Sp w0 L w':=by
 obtain⟨i0,hi,hz0,hz1,hz2⟩:=info_parts infoSM
 have HT:=Lib.hid hT
 have HD:=Lib.hid hD
 have HX0:=Lib.hid (H.rowNil 75 3)
 clear hT hD H
 go_enter Tryz.func7,Tryz.ntmps7
 go_wp2_with fail
 go_loopw [1,31] (fun ov iv wr=>∃(i:Nat) (O:Option Addr) (oc:Nat),iv=.int .i64 (i:Int)/\i<=1200/\ov=.slice O i oc/\Sp w0 (Row 75 3 (.slice O i oc) i (stsV (PD.lits (PD.bsK i)))::L) wr) (fun _ iv _=>1200 - (intOf iv).toNat)
 case atStart=>exact⟨0,none,0,rfl,Nat.zero_le _,rfl,HX0.out⟩
 case round =>
  obtain⟨i,O,oc,rfl,hin,rfl,H1⟩:=hrel
  clear HX0
  by_cases hlt:i<1200
  ·have k1:(i:Int)<1200:=by omega
   obtain⟨z,hz⟩:∃z,UInt8.ofNat (7 * i)=z:=⟨_,rfl⟩
   have s1:(i:Int) * 7 % 256=(z.toNat:Int):=by rw [<- hz,UInt8.toNat_ofNat']; omega
   have hr9:Rd (wr.alloc (.cells #[.int .i64 0,.int .i64 0,.int .u8 (z.toNat:Int)] 75)) (some ⟨wr.heap.size,0,none⟩) (stCells (0,0,z)):=Rd.of_blk (Blk.new wr 75 [.int .i64 0,.int .i64 0,.int .u8 (z.toNat:Int)])
   have HR9:=Lib.hid hr9
   have HH9:=Lib.hid (H1.alloc (.cells #[.int .i64 0,.int .i64 0,.int .u8 (z.toNat:Int)] 75))
   clear hr9 H1
   go_wp2_with (at_builtin; refine wpList_append_sp rfl _ _ 50 rfl 75 i0 (.agg #[.int .i64 0,.int .i64 0,.int .u8 0]) 3 24 Tryz.underlying50 hi hz0 hz1 hz2 rfl (by decide) (.slice O i oc) i (stsV (PD.lits (PD.bsK i))) rfl HH9.out (some ⟨wr.heap.size,0,none⟩) 1 1 (stCells (0,0,z)) rfl rfl HR9.out (st_one _) (by unfold maxLen; omega) (by omega) ?_)
   intro v5 w5 H5 _
   clear HH9 HR9
   obtain⟨V5,c5,rfl,_,_⟩:=Row.form H5 0 rfl
   go_wp2_with fail
   go_roundw
   case rel =>
    refine⟨i+1,V5,c5,by go_num,by omega,rfl,?_⟩
    rw [PD.bsK_succ,PD.lits_snoc,stsV_one,hz]
    exact H5
   case measure=>first | (simp [intOf]; omega) | simp [intOf]
  ·have k1:¬ (i:Int)<1200:=by omega
   obtain rfl:i=1200:=by omega
   obtain⟨h1,h2⟩:1200<=oc/\oc<=maxLen:=by
    obtain⟨_,_,e,h1,h2⟩:=Row.form H1 0 rfl
    injection e with _ _ e
    subst e
    exact⟨h1,h2⟩
   have hmy:=PD.lits_mays (PD.bsK 1200) 0
   have hln:1200=(PD.lits (PD.bsK 1200)).length:=by rw [PD.lits_len,PD.bsK_len]
   have hsz:PM.size (PD.lits (PD.bsK 1200))=1200:=by rw [PD.lits_size,PD.bsK_len]
   have hmn:=PD.all_many
   have hat:=PD.all_at
   obtain⟨Y,hY⟩:∃Y,PD.lits (PD.bsK 1200)=Y:=⟨_,rfl⟩
   rw [hY] at H1 hmy hln hsz hmn hat
   have hP:=dsteps_ok O 1200 oc Y H1 (fun w0 w h=>HD.out w0 w h.tail) hln (by omega) h1 h2 (fun w0 w h=>h.stAt 0 rfl) hmy
   have hq:=PD.stream_behind Y hmy [] 1200 (by omega)
   rw [List.append_nil] at hq
   have hsl9:=PD.stD_le Y (PM.expand Y []) hmy (PD.many Y)
   have hlen:=PD.stream_len Y (PM.expand Y [])
   have hb1:=PD.blksD_get Y (PM.expand Y []) 1 (by omega)
   have hb2:=PD.blksD_get Y (PM.expand Y []) 2 (by omega)
   have hbl:=PD.blksD_len Y (PM.expand Y [])
   rw [hmn] at hb1 hb2 hbl hsl9
   rw [hat] at hb2
   obtain⟨bl,hbl2⟩:∃q,PD.blksD Y (PM.expand Y [])=q:=⟨_,rfl⟩
   rw [hbl2] at hb1 hb2 hbl hq
   obtain⟨st,hst⟩:∃q,PD.stream Y (PM.expand Y [])=q:=⟨_,rfl⟩
   rw [hst] at hq hlen hP
   obtain⟨sl,hsl⟩:∃q,st.length=q:=⟨_,rfl⟩
   rw [hsl] at hlen hP
   have hsl1:sl<=100000:=by rw [hlen]; unfold PD.bitsD; rw [hmn]; omega
   obtain⟨f1,hf1⟩:∃q,PD.atB Y 1=q:=⟨_,rfl⟩
   obtain⟨f3,hf3⟩:∃q,PD.atB Y 3=q:=⟨_,rfl⟩
   obtain⟨q1,hq1⟩:∃q,PD.kind (PD.partY Y 1) (PD.partB Y (PM.expand Y []) 1) (PD.stD Y (PM.expand Y []) 1).length=q:=⟨_,rfl⟩
   obtain⟨q2,hq2⟩:∃q,PD.kind (PD.partY Y 2) (PD.partB Y (PM.expand Y []) 2) (PD.stD Y (PM.expand Y []) 2).length=q:=⟨_,rfl⟩
   rw [hq1,hf1] at hb1
   rw [hq2] at hb2
   have HP:=Lib.hid hP
   have HQ:=Lib.hid hq
   have HSL:=Lib.hid hsl
   have HB1:=Lib.hid hb1
   have HB2:=Lib.hid hb2
   have HBL:=Lib.hid hbl
   clear hmy hln hsz hmn hat hY hP hq hsl9 hlen hb1 hb2 hbl hbl2 hst hsl hf1 hf3 hq1 hq2 H1 h1 h2
   go_wp2_with fail
   refine HP.out.mono ?_
   rintro _ w2 ⟨v3,rfl,H2⟩
   obtain⟨V3,c3,rfl,hw3,hw4⟩:=Row.form H2 0 rfl
   have HA3:=Lib.hid (xblocks_ok (.slice V3 sl c3) st 1200 TL TA cl ca H2 (fun w0 w h=>byt_row h 0 rfl HSL.out.symm) (by rw [HSL.out]; omega) (by omega) (fun w0 w h=>HT.out w0 w (h.pick 2 [])))
   clear HP H2
   go_wp2_with fail
   refine HA3.out.mono ?_
   intro e9 w3 k9
   obtain⟨A8,c8,he8,H3⟩:=BEnd.got HQ.out k9
   simp only [HBL.out] at he8 H3
   subst he8
   clear k9 HA3 HQ
   obtain⟨ab,rfl,_⟩:=rdBlk (row3 H3 0 rfl) HB1.out
   have H4:=(H3.pick 3 [0]).newBk [.int .i64 3,.int .i64 1,.int .u8 0] 75
   have HP:=Lib.hid (dsteps_bad (some ⟨w3.heap.size,0,none⟩) 1 1 [(3,1,0)] H4 rfl (by decide) (fun _ _ h=>.of_rd (Rd.of_blk (cs:=stsI [(3,1,0)]) (h.blk 0 rfl))) kn_bad1)
   clear H3 H4
   go_wp2_with fail
   refine HP.out.mono ?_
   rintro _ w4 ⟨rfl,H5⟩
   have H6:=(H5.pick 2 [1]).newBk [.int .i64 1,.int .i64 0,.int .u8 0] 75
   have HP:=Lib.hid (dsizesS_bad (some ⟨w4.heap.size,0,none⟩) 1 1 [(1,0,0)] H6 rfl (by decide) (fun _ _ h=>.of_rd (Rd.of_blk (cs:=stsI [(1,0,0)]) (h.blk 0 rfl))) kn_bad2)
   clear H5 H6
   go_wp2_with fail
   refine HP.out.mono ?_
   rintro _ w5 ⟨rfl,H7⟩
   have H8:=(H7.pick 2 [1]).newBk (stsV (PD.runY 0)) 75
   have H9:=H8.bkRow 3 1 rfl (by decide)
   have HX9:=Lib.hid H9
   clear HP H7 H8 H9
   go_wp2_with fail
   go_loopw [13,68] (fun ov iv wr=>∃(i:Nat) (O:Option Addr) (oc:Nat),iv=.int .i64 (i:Int)/\i<=300/\ov=.slice O (i+1) oc/\Sp w0 (Row 75 3 (.slice O (i+1) oc) (i+1) (stsV (PD.runY i))::Row 72 4 (.slice (some ab) 3 c8) 3 (cellsB bl)::L) wr) (fun _ iv _=>300 - (intOf iv).toNat)
   case atStart=>exact⟨0,_,_,rfl,Nat.zero_le _,rfl,HX9.out⟩
   case round =>
    obtain⟨i,O,oc,rfl,hin,rfl,H1⟩:=hrel
    clear HX9
    by_cases hlt:i<300
    ·have k1:(i:Int)<300:=by omega
     have hr9:Rd (wr.alloc (.cells #[.int .i64 258,.int .i64 1,.int .u8 0] 75)) (some ⟨wr.heap.size,0,none⟩) (stCells (258,1,0)):=Rd.of_blk (Blk.new wr 75 [.int .i64 258,.int .i64 1,.int .u8 0])
     have HR9:=Lib.hid hr9
     have HH9:=Lib.hid (H1.alloc (.cells #[.int .i64 258,.int .i64 1,.int .u8 0] 75))
     clear hr9 H1
     go_wp2_with (at_builtin; refine wpList_append_sp rfl _ _ 50 rfl 75 i0 (.agg #[.int .i64 0,.int .i64 0,.int .u8 0]) 3 24 Tryz.underlying50 hi hz0 hz1 hz2 rfl (by decide) (.slice O (i+1) oc) (i+1) (stsV (PD.runY i)) rfl HH9.out (some ⟨wr.heap.size,0,none⟩) 1 1 (stCells (258,1,0)) rfl rfl HR9.out (st_one _) (by unfold maxLen; omega) (by omega) ?_)
     intro v5 w5 H5 _
     clear HH9 HR9
     obtain⟨V5,c5,rfl,_,_⟩:=Row.form H5 0 rfl
     go_wp2_with fail
     go_roundw
     case rel =>
      refine⟨i+1,V5,c5,by go_num,by omega,rfl,?_⟩
      rw [PD.runY_succ,stsV_one]
      exact H5
     case measure=>first | (simp [intOf]; omega) | simp [intOf]
    ·have k1:¬ (i:Int)<300:=by omega
     obtain rfl:i=300:=by omega
     obtain⟨h1,h2⟩:300+1<=oc/\oc<=maxLen:=by
      obtain⟨_,_,e,h1,h2⟩:=Row.form H1 0 rfl
      injection e with _ _ e
      subst e
      exact⟨h1,h2⟩
     have hln:300+1=(PD.runY 300).length:=by rw [PD.runY_len]
     have hS:=dsizesS_ok O (300+1) oc (PD.runY 300) H1 (fun w0 w h=>HD.out w0 w (h.pick 2 [])) hln (by decide) (fun w0 w h=>h.stAt 0 rfl) (PD.runY_mays 300)
     rw [PD.runY_size,show max (PD.sto (1+258 * 300) 0) 0=0 by decide +kernel] at hS
     have hy:=PD.fixN_pos (PD.runY 300)
     have hz:=PD.dynN_pos (PD.runY 300)
     have hsh:=PD.run_short (PM.expand (PD.runY 300) [])
     have hmy:=PD.runY_mays 300
     obtain⟨y,hy1⟩:∃q,PD.fixN (PD.runY 300)=q:=⟨_,rfl⟩
     obtain⟨z,hz1'⟩:∃q,PD.dynN (PD.runY 300)=q:=⟨_,rfl⟩
     rw [hy1] at hS hy
     rw [hz1'] at hS hz
     obtain⟨Y,hY⟩:∃Y,PD.runY 300=Y:=⟨_,rfl⟩
     rw [hY] at H1 hln hsh hmy
     obtain⟨st,hst⟩:∃q,PD.stream Y (PM.expand Y [])=q:=⟨_,rfl⟩
     obtain⟨sl,hsl⟩:∃q,st.length=q:=⟨_,rfl⟩
     rw [hst,hsl] at hsh
     have HS:=Lib.hid hS
     have HLN:=Lib.hid hln
     have HMY:=Lib.hid hmy
     have HST:=Lib.hid hst
     have HSL2:=Lib.hid hsl
     have k2:(y:Int) > 0:=by omega
     have k3:(z:Int) > 0:=by omega
     have k4:(sl:Int)<300:=by omega
     rw [hY] at HS
     clear hS hln hsh hmy hst hsl hy hz hy1 hz1' hY
     go_wp2_with fail
     refine HS.out.mono ?_
     rintro _ w6 ⟨rfl,H2⟩
     have HP:=Lib.hid (dsteps_ok O (300+1) oc Y H2 (fun w0 w h=>HD.out w0 w (h.pick 2 [])) HLN.out (by decide) h1 h2 (fun w0 w h=>h.stAt 0 rfl) HMY.out)
     rw [HST.out,HSL2.out] at HP
     clear HS H1 H2
     go_wp2_with fail
     refine HP.out.mono ?_
     rintro _ w7 ⟨v8,rfl,H3⟩
     obtain⟨V8,c9,rfl,_,_⟩:=Row.form H3 0 rfl
     have HX3:=Lib.hid (H3.pick 3 [2])
     clear HP H3
     obtain⟨i8,hj,hj0,hj1,hj2⟩:=info_parts info8
     obtain⟨n9,hn9⟩:∃n:Nat,n=16777217:=⟨_,rfl⟩
     have HN9:=Lib.hid hn9
     have hc9:(16777217:Int)=(n9:Int):=by omega
     have HC9:=Lib.hid hc9
     clear hn9 hc9
     go_wp2_with (at_make; refine wpList_make_sp rfl _ _ _ rfl 5 i8 (.int .u8 0) Tryz.underlying23 hj hj0 hj1 rfl n9 (by rw [<- HC9.out]; rfl) (by rw [<- HC9.out]; rfl) (by rw [hj2,HN9.out]; omega) (by rw [HN9.out]; unfold maxLen; omega) HX3.out ?_)
     intro ad w8 H4
     have HX4:=Lib.hid (H4.pick 2 [1])
     have HLO:=Lib.hid (dall_long (some ad) n9 n9 HX4.out (by rw [HN9.out]; decide))
     clear H4 HX3 HX4
     go_wp2_with fail
     refine HLO.out.mono ?_
     rintro _ w9 ⟨rfl,H5⟩
     have HL:=Lib.hid (dlong_ok 227 H5 (fun w0 w h=>HD.out w0 w h.tail))
     rw [PD.kn_long] at HL
     clear HLO H5
     go_wp2_with fail
     refine HL.out.mono ?_
     rintro _ w10 ⟨rfl,H6⟩
     have HL:=Lib.hid (dfar_ok 32768 H6 (fun w0 w h=>HD.out w0 w h.tail))
     rw [PD.kn_far] at HL
     clear H6
     go_wp2_with fail
     refine HL.out.mono ?_
     rintro _ w11 ⟨rfl,H7⟩
     have HL:=Lib.hid (dfar_ok 5 H7 (fun w0 w h=>HD.out w0 w h.tail))
     rw [PD.kn_far5] at HL
     clear H7
     go_wp2_with fail
     refine HL.out.mono ?_
     rintro _ w12 ⟨rfl,H8⟩
     obtain⟨_,e1,g1⟩:=rdBlk (row3 H8 0 rfl) HB1.out
     obtain⟨_,e2,g2⟩:=rdBlk (row3 H8 0 rfl) HB2.out
     injection e1 with e1
     injection e2 with e2
     subst e1 e2
     have p1:w12.cell? ⟨ab.block,ab.off+4+1,none⟩=some (.bool false):=g1 1 _ rfl
     have p2:w12.cell? ⟨ab.block,ab.off+8+1,none⟩=some (.bool true):=g2 1 _ rfl
     have p3:w12.cell? ⟨ab.block,ab.off+8+2,none⟩=some (.int .i64 1024):=g2 2 _ rfl
     have HW:=Lib.hid (dtells_ok DL DF dl df (H8.pick 1 []) HD.out)
     clear HL H8 g1 g2 HB1 HB2
     go_wp2_with fail
     refine HW.out.mono ?_
     rintro _ w13 ⟨rfl,H9⟩
     go_wp2_with fail
     go_ret
     exact⟨rfl,H9⟩
theorem dknown_law {W:World} (hT:(∃TL TA cl ca,Tabs TL TA cl ca W)/\∃DL DF dl df,DTabs DL DF dl df W) :
  Calls Tryz.prog 7 #[] W fun e w'=>e=.returned (.bool true)/\Sp W [Same W] w':=by
 obtain⟨⟨TL,TA,cl,ca,hT⟩,DL,DF,dl,df,hD⟩:=hT
 exact dknown_any TL TA DL DF cl ca dl df (Sp.start W) (tabs_same hT) (Ent.of_same 0 rfl fun _ hs=>hD.heap hs)
end Go.Proofs.YtloijdbkikccgaaGreatDoor
