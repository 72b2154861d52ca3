/- A pack of texts: InfE RepI ConcatI InfF InfT OpenRows InfOpen. -/
import Derived.ChangeSame
import Derived.Deep.Fields
import Derived.Deep.Slices
import Derived.Laws.BitsAllLaws
import Derived.OpenShut
import Derived.ProofKit
import Derived.Test.YtloijdbkikccgaaGreatDoorPk01
import Derived.Test.YtloijdbkikccgaaGreatDoorPk02
import Derived.Test.YtloijdbkikccgaaGreatDoorPk03
import Derived.Test.YtloijdbkikccgaaGreatDoorPk08
import Derived.Test.YtloijdbkikccgaaGreatDoorPk09
import Derived.Test.YtloijdbkikccgaaGreatDoorPk10
import Derived.Test.YtloijdbkikccgaaGreatDoorPk14
import Derived.Test.YtloijdbkikccgaaGreatDoorPk15
import Derived.Test.YtloijdbkikccgaaGreatDoorPk22
import Derived.Test.YtloijdbkikccgaaGreatDoorPk27
namespace Go.Proofs.YtloijdbkikccgaaGreatDoor
set_option linter.unusedVariables false
set_option linter.unusedSimpArgs false
open Go.RowKit
set_option maxRecDepth 100000 in
set_option maxHeartbeats 1000000 in
theorem xof_ok (gx gr:Nat) (l:List UInt8) (most at_ s:Nat) (vo vb:Value) (TA:Option Addr) (n c:Nat) (t:List (Nat × Nat)) {w0 w:World} {L:List Pr} (H:Sp w0 (Rr gr l at_::XpB gx gr vo most vb::L) w) (ha:at_<=8 * l.length) (hl:l.length<=100000000)
  (hT:Ent L fun w=>Rd w TA (cellsP t)) (hn:n=t.length) (ht:∀p ∈ t,p.1<=100000/\p.2<=13) (hs:s<=1000000) :
  Calls Tryz.prog 165 #[.pointer (some ⟨gx,0,none⟩),.int .i64 (s:Int),.slice TA n c] w fun e w' =>
   match PI.count (PBits.ofB l) t s at_ with
   | .error c=>e=.panicked (pan c)/\Sp w0 L w'
   | .ok r=>e=.returned (.int .i64 (r.2:Int))/\Sp w0 (Rr gr l r.1::XpB gx gr vo most vb::L) w':=by
 by_cases hsl:s<t.length
 ·have hrd:∀w,Rd w TA (cellsP t)->∃ad,TA=some ad/\w.cell? (ad.add (s * 2))=some (.int .i64 ((t.getD s (0,0)).1:Int))/\w.cell? ⟨(ad.add (s * 2)).block,(ad.add (s * 2)).off+1,none⟩=some (.int .i64 ((t.getD s (0,0)).2:Int)):=fun w h=>rdP h hsl
  obtain⟨ad,rfl,_,_⟩:=hrd w (hT _ _ H.tail2)
  have hcell:Ent L fun w=>w.cell? (ad.add (s * 2))=some (.int .i64 ((t.getD s (0,0)).1:Int))/\w.cell? ⟨(ad.add (s * 2)).block,(ad.add (s * 2)).off+1,none⟩=some (.int .i64 ((t.getD s (0,0)).2:Int)):=fun w0 w H=>by
   obtain⟨ad2,e,h⟩:=hrd w (hT _ _ H)
   injection e with e
   rw [e]; exact h
  have hmem:t.getD s (0,0) ∈ t:=by
   rw [List.getD_eq_getElem?_getD,List.getElem?_eq_getElem hsl]
   exact List.getElem_mem hsl
  have hb:=ht _ hmem
  have hq:PI.count (PBits.ofB l) t s at_=(PI.number (PBits.ofB l) at_ (t.getD s (0,0)).2).bind fun r=>.ok (r.1,(t.getD s (0,0)).1+r.2):=by unfold PI.count; rw [if_pos hsl]
  rw [hq]
  obtain⟨⟨f,k⟩,hfk⟩:∃p,t.getD s (0,0)=p:=⟨_,rfl⟩
  rw [hfk] at hcell hb ⊢
  have HC:=Lib.hid hcell
  have hk57:k<=57:=by have:=hb.2; simp only at this; omega
  have hf:=hb.1
  simp only at hf
  have sn:(s:Int)<(n:Int):=by omega
  have sn2:¬ (s:Int)≥(n:Int):=by omega
  clear hcell hrd hmem hT hq hfk hb ht hn hsl
  show Calls _ _ _ _ fun e w'=>match (PI.number (PBits.ofB l) at_ k).bind fun r=>.ok (r.1,f+r.2) with
   | .error c=>e=.panicked (pan c)/\Sp w0 L w'
   | .ok r=>e=.returned (.int .i64 (r.2:Int))/\Sp w0 (Rr gr l r.1::XpB gx gr vo most vb::L) w'
  cases hr:PI.number (PBits.ofB l) at_ k with
  | error e =>
   have HR:=Lib.hid hr
   show Calls _ _ _ _ fun e' w'=>e'=.panicked (pan e)/\Sp w0 L w'
   clear hr
   go_enter Tryz.func165,Tryz.ntmps165
   go_wp2_with fail
   refine wp_region_sc (L:=L) [some (.slice (some ad) n c),some (.int .i64 (s:Int)),some (.pointer (some (ad.add (s * 2)))),some (.pointer (some (ad.add (s * 2)))),some (.int .i64 (f:Int)),some (.pointer (some ⟨gx,0,none⟩)),some (.slice (some ad) n c),some (.int .i64 (s:Int)),some (.pointer (some (ad.add (s * 2)))),some (.pointer (some ⟨(ad.add (s * 2)).block,(ad.add (s * 2)).off+1,none⟩)),some (.int .i64 (k:Int)),none,none,none] (fun ix vx=>match ix with | 11=>(fun _=>False) vx | _=>True) (fun _ _=>[]) (fun ix=>match ix with | 11=>[Rr gr l at_,XpB gx gr vo most vb] | _=>[]) 14 25
    [some 12,some 13,some 14,some 15,some 16,some 17,some 18,some 19,some 20,some 21,some 22,some 23,some 24,some 6]
    [[],[],[0,1],[2],[3],[],[],[],[6,7],[8],[9],[5,10],[4,11],[12,11,0,1,2,3,4,5,6,7,8,9,10,11,12]]
    [[],[],[0,1],[0,1,2],[0,1,2,3],[],[],[],[6,7],[6,7,8],[6,7,8,9],[5,6,7,8,9,10],[0,1,2,3,4,5,6,7,8,9,10,11],[0,1,2,3,4,5,6,7,8,9,10,11,12]]
    [[],[],[],[],[],[],[],[],[],[],[],[],[],[]] [[],[],[],[],[],[],[],[],[],[],[],[],[],[]] [(0,.pointer (some ⟨gx,0,none⟩)),(1,.int .i64 (s:Int)),(2,.slice (some ad) n c)]
    (by kernel_rfl) rfl (by decide) (by rfl) (by decide +kernel) rfl rfl (by simp) (H) ?hstep ?hend
   case hstep =>
    refine⟨?p0,⟨?p1,⟨?p2,⟨?p3,⟨?p4,⟨?p5,⟨?p6,⟨?p7,⟨?p8,⟨?p9,⟨?p10,⟨?p11,⟨?p12,⟨?p13,trivial⟩⟩⟩⟩⟩⟩⟩⟩⟩⟩⟩⟩⟩⟩
    case p0 | p1 | p2 | p3 | p5 | p6 | p7 | p8 | p9 =>
     intro x wx A rest hDf hF hS hE H K hK
     replace hK:=Lib.hid hK
     clear hS hE hDf
     repeat (obtain⟨_,hF⟩:=hF)
     change Oper.wp _ _ A wx K _
     go_step
     exact hK.out _ _ rfl H
    case p4 =>
     intro x wx A rest hDf hF hS hE H K hK0
     replace hDf:=Lib.hid hDf
     have e15:A.tmps[15]?.getD undef=.pointer (some (ad.add (s * 2))):=((hS 3 (by decide)).2 15 rfl).trans (hS 3 (by decide)).1
     replace H:Sp w0 (rest) wx:=H
     have hK:Hid (∀(v:Value) (w' : World),v=.int .i64 (f:Int)->Sp w0 (rest) w'->K (A.put (some 16) v) w'):=Lib.hid hK0
     clear hK0 hF hS
     have hc:wx.cell? (ad.add (s * 2))=some (.int .i64 (f:Int))/\wx.cell? ⟨(ad.add (s * 2)).block,(ad.add (s * 2)).off+1,none⟩=some (.int .i64 (k:Int)):=hE (fun w=>w.cell? (ad.add (s * 2))=some (.int .i64 (f:Int))/\w.cell? ⟨(ad.add (s * 2)).block,(ad.add (s * 2)).off+1,none⟩=some (.int .i64 (k:Int))) HC.out _ _ H
     have c1:=hc.1
     clear hc
     change Oper.wp _ _ A wx K _
     go_step
     exact hK.out _ _ rfl (H)
    case p10 =>
     intro x wx A rest hDf hF hS hE H K hK0
     replace hDf:=Lib.hid hDf
     have e21:A.tmps[21]?.getD undef=.pointer (some ⟨(ad.add (s * 2)).block,(ad.add (s * 2)).off+1,none⟩):=((hS 9 (by decide)).2 21 rfl).trans (hS 9 (by decide)).1
     replace H:Sp w0 (rest) wx:=H
     have hK:Hid (∀(v:Value) (w' : World),v=.int .i64 (k:Int)->Sp w0 (rest) w'->K (A.put (some 22) v) w'):=Lib.hid hK0
     clear hK0 hF hS
     have hc:wx.cell? (ad.add (s * 2))=some (.int .i64 (f:Int))/\wx.cell? ⟨(ad.add (s * 2)).block,(ad.add (s * 2)).off+1,none⟩=some (.int .i64 (k:Int)):=hE (fun w=>w.cell? (ad.add (s * 2))=some (.int .i64 (f:Int))/\w.cell? ⟨(ad.add (s * 2)).block,(ad.add (s * 2)).off+1,none⟩=some (.int .i64 (k:Int))) HC.out _ _ H
     have c1:=hc.2
     clear hc
     change Oper.wp _ _ A wx K _
     go_step
     exact hK.out _ _ rfl (H)
    case p11 =>
     intro x wx A rest hDf hF hS hE H K hK0
     replace hDf:=Lib.hid hDf
     have e17:A.tmps[17]?.getD undef=.pointer (some ⟨gx,0,none⟩):=((hS 5 (by decide)).2 17 rfl).trans (hS 5 (by decide)).1
     have e22:A.tmps[22]?.getD undef=.int .i64 (k:Int):=((hS 10 (by decide)).2 22 rfl).trans (hS 10 (by decide)).1
     replace H:Sp w0 ((Rr gr l at_)::(XpB gx gr vo most vb)::rest) wx:=H
     have hK:Hid (∀(v:Value) (w' : World),False->Sp w0 (rest) w'->K (A.put (some 23) v) w'):=Lib.hid hK0
     clear hK0 hF hS
     change Oper.wp _ _ A wx K _
     go_wp2_with fail
     have h9:=xnum_ok gx gr l most at_ k vo vb H (by omega) hk57 (by omega)
     rw [HR.out] at h9
     refine h9.mono ?_
     clear h9
     rintro _ w9 ⟨rfl,H9⟩
     go_wp2
     exact⟨hDf.out,rfl,H9.sub hE⟩
    case p12 =>
     intro x wx A rest hDf hF hS hE H K hK0
     replace hDf:=Lib.hid hDf
     have e16:A.tmps[16]?.getD undef=.int .i64 (f:Int):=((hS 4 (by decide)).2 16 rfl).trans (hS 4 (by decide)).1
     have q23:False:=(hS 11 (by decide)).1
     have e23:A.tmps[23]?.getD undef=x 11:=(hS 11 (by decide)).2 23 rfl
     replace H:Sp w0 (rest) wx:=H
     have hK:Hid (∀(v:Value) (w' : World),True->Sp w0 (rest) w'->K (A.put (some 24) v) w'):=Lib.hid hK0
     clear hK0 hF
     exact((hS 11 (by decide)).1:False).elim
    case p13 =>
     intro x wx A rest hDf hF hS hE H K hK0
     replace hDf:=Lib.hid hDf
     have q24:True:=(hS 12 (by decide)).1
     have e24:A.tmps[24]?.getD undef=x 12:=(hS 12 (by decide)).2 24 rfl
     replace H:Sp w0 (rest) wx:=H
     have hK:Hid (∀(v:Value) (w' : World),True->Sp w0 (rest) w'->K (A.put (some 6) v) w'):=Lib.hid hK0
     clear hK0 hF
     exact((hS 11 (by decide)).1:False).elim
   case hend =>
    intro x wx A hA hS H
    replace H:Sp w0 (L) wx:=H
    have y11:False:=hS 11 (by decide)
    clear hS
    simp only [putAll,Act.put,List.setIfInBounds_toArray,List.set_cons_succ,List.set_cons_zero,Nat.reduceAdd] at hA
    subst hA
    exact y11.elim
  | ok r =>
   obtain⟨hr1,hr2⟩:=PI.number_ok hr
   subst hr1
   have hv:=PI.numAt_small (PBits.ofB l) at_ k 57 hk57
   obtain⟨nn,hv2⟩:∃v,PI.numAt (PBits.ofB l) at_ k=v:=⟨_,rfl⟩
   rw [hv2] at hr hv ⊢
   have HR:=Lib.hid hr
   obtain⟨fv,hfv⟩:∃fv,f+nn=fv:=⟨_,rfl⟩
   show Calls _ _ _ _ fun e w'=>e=.returned (.int .i64 ((f+nn:Nat):Int))/\Sp w0 (Rr gr l (at_+k)::XpB gx gr vo most vb::L) w'
   rw [hfv]
   have e3:(f:Int)+(nn:Int)=(fv:Int):=by omega
   have hfv2:fv<9000000000000000000:=by omega
   clear hr hv2 hfv
   go_enter Tryz.func165,Tryz.ntmps165
   go_wp2_with fail
   refine wp_region_sc (L:=L) [some (.slice (some ad) n c),some (.int .i64 (s:Int)),some (.pointer (some (ad.add (s * 2)))),some (.pointer (some (ad.add (s * 2)))),some (.int .i64 (f:Int)),some (.pointer (some ⟨gx,0,none⟩)),some (.slice (some ad) n c),some (.int .i64 (s:Int)),some (.pointer (some (ad.add (s * 2)))),some (.pointer (some ⟨(ad.add (s * 2)).block,(ad.add (s * 2)).off+1,none⟩)),some (.int .i64 (k:Int)),some (.int .i64 (nn:Int)),some (.int .i64 (fv:Int)),some (.int .i64 (fv:Int))] (fun _ _=>True) (fun ix vx=>match ix with | 11=>(fun _=>[Rr gr l (at_+k),XpB gx gr vo most vb]) vx | _=>[]) (fun ix=>match ix with | 11=>[Rr gr l at_,XpB gx gr vo most vb] | _=>[]) 14 25
    [some 12,some 13,some 14,some 15,some 16,some 17,some 18,some 19,some 20,some 21,some 22,some 23,some 24,some 6]
    [[],[],[0,1],[2],[3],[],[],[],[6,7],[8],[9],[5,10],[4,11],[12,11,0,1,2,3,4,5,6,7,8,9,10,11,12]]
    [[],[],[0,1],[0,1,2],[0,1,2,3],[],[],[],[6,7],[6,7,8],[6,7,8,9],[5,6,7,8,9,10],[0,1,2,3,4,5,6,7,8,9,10,11],[0,1,2,3,4,5,6,7,8,9,10,11,12]]
    [[],[],[],[],[],[],[],[],[],[],[],[],[],[]] [[],[],[],[],[],[],[],[],[],[],[],[],[],[]] [(0,.pointer (some ⟨gx,0,none⟩)),(1,.int .i64 (s:Int)),(2,.slice (some ad) n c)]
    (by kernel_rfl) rfl (by decide) (by rfl) (by decide +kernel) rfl rfl (by simp) (H) ?hstep ?hend
   case hstep =>
    refine⟨?p0,⟨?p1,⟨?p2,⟨?p3,⟨?p4,⟨?p5,⟨?p6,⟨?p7,⟨?p8,⟨?p9,⟨?p10,⟨?p11,⟨?p12,⟨?p13,trivial⟩⟩⟩⟩⟩⟩⟩⟩⟩⟩⟩⟩⟩⟩
    case p0 | p1 | p2 | p3 | p5 | p6 | p7 | p8 | p9 | p12 | p13 =>
     intro x wx A rest hDf hF hS hE H K hK
     replace hK:=Lib.hid hK
     clear hS hE hDf
     repeat (obtain⟨_,hF⟩:=hF)
     change Oper.wp _ _ A wx K _
     go_step
     exact hK.out _ _ rfl H
    case p4 =>
     intro x wx A rest hDf hF hS hE H K hK0
     replace hDf:=Lib.hid hDf
     have e15:A.tmps[15]?.getD undef=.pointer (some (ad.add (s * 2))):=((hS 3 (by decide)).2 15 rfl).trans (hS 3 (by decide)).1
     replace H:Sp w0 (rest) wx:=H
     have hK:Hid (∀(v:Value) (w' : World),v=.int .i64 (f:Int)->Sp w0 (rest) w'->K (A.put (some 16) v) w'):=Lib.hid hK0
     clear hK0 hF hS
     have hc:wx.cell? (ad.add (s * 2))=some (.int .i64 (f:Int))/\wx.cell? ⟨(ad.add (s * 2)).block,(ad.add (s * 2)).off+1,none⟩=some (.int .i64 (k:Int)):=hE (fun w=>w.cell? (ad.add (s * 2))=some (.int .i64 (f:Int))/\w.cell? ⟨(ad.add (s * 2)).block,(ad.add (s * 2)).off+1,none⟩=some (.int .i64 (k:Int))) HC.out _ _ H
     have c1:=hc.1
     clear hc
     change Oper.wp _ _ A wx K _
     go_step
     exact hK.out _ _ rfl (H)
    case p10 =>
     intro x wx A rest hDf hF hS hE H K hK0
     replace hDf:=Lib.hid hDf
     have e21:A.tmps[21]?.getD undef=.pointer (some ⟨(ad.add (s * 2)).block,(ad.add (s * 2)).off+1,none⟩):=((hS 9 (by decide)).2 21 rfl).trans (hS 9 (by decide)).1
     replace H:Sp w0 (rest) wx:=H
     have hK:Hid (∀(v:Value) (w' : World),v=.int .i64 (k:Int)->Sp w0 (rest) w'->K (A.put (some 22) v) w'):=Lib.hid hK0
     clear hK0 hF hS
     have hc:wx.cell? (ad.add (s * 2))=some (.int .i64 (f:Int))/\wx.cell? ⟨(ad.add (s * 2)).block,(ad.add (s * 2)).off+1,none⟩=some (.int .i64 (k:Int)):=hE (fun w=>w.cell? (ad.add (s * 2))=some (.int .i64 (f:Int))/\w.cell? ⟨(ad.add (s * 2)).block,(ad.add (s * 2)).off+1,none⟩=some (.int .i64 (k:Int))) HC.out _ _ H
     have c1:=hc.2
     clear hc
     change Oper.wp _ _ A wx K _
     go_step
     exact hK.out _ _ rfl (H)
    case p11 =>
     intro x wx A rest hDf hF hS hE H K hK0
     replace hDf:=Lib.hid hDf
     have e17:A.tmps[17]?.getD undef=.pointer (some ⟨gx,0,none⟩):=((hS 5 (by decide)).2 17 rfl).trans (hS 5 (by decide)).1
     have e22:A.tmps[22]?.getD undef=.int .i64 (k:Int):=((hS 10 (by decide)).2 22 rfl).trans (hS 10 (by decide)).1
     replace H:Sp w0 ((Rr gr l at_)::(XpB gx gr vo most vb)::rest) wx:=H
     have hK:Hid (∀(v:Value) (w' : World),v=.int .i64 (nn:Int)->Sp w0 ((Rr gr l (at_+k))::(XpB gx gr vo most vb)::rest) w'->K (A.put (some 23) v) w'):=Lib.hid hK0
     clear hK0 hF hS hE
     change Oper.wp _ _ A wx K _
     go_wp2_with fail
     have h9:=xnum_ok gx gr l most at_ k vo vb H (by omega) hk57 (by omega)
     rw [HR.out] at h9
     refine h9.mono ?_
     clear h9
     rintro _ w9 ⟨rfl,H9⟩
     exact hK.out _ _ rfl H9
   case hend =>
    intro x wx A hA hS H
    replace H:Sp w0 ((Rr gr l (at_+k))::(XpB gx gr vo most vb)::L) wx:=H
    have y13:x 13=.int .i64 (fv:Int):=hS 13 (by decide)
    clear hS
    simp only [putAll,Act.put,List.setIfInBounds_toArray,List.set_cons_succ,List.set_cons_zero,Nat.reduceAdd] at hA
    subst hA
    rw [y13]
    go_wp2
    go_ret
    exact⟨rfl,H⟩
 ·have hq:PI.count (PBits.ofB l) t s at_=.error 20:=by unfold PI.count; rw [if_neg hsl]
  rw [hq]
  have sn2:(s:Int)≥(n:Int):=by omega
  show Calls _ _ _ _ fun e w'=>e=.panicked (pan 20)/\Sp w0 L w'
  clear hT
  go_enter Tryz.func165,Tryz.ntmps165
  go_wp2
  exact⟨rfl,rfl,H.tail2⟩
structure Tabs (TL TA:Option Addr) (cl ca:Nat) (w:World):Prop where
 long:w.cell? ⟨7,0,none⟩=some (.slice TL 28 cl)
 longs:Rd w TL (cellsP PI.lengthsT)
 far:w.cell? ⟨4,0,none⟩=some (.slice TA 30 ca)
 fars:Rd w TA (cellsP PI.awayT)
 order:∀i,i<19->w.cell? ⟨5,i,none⟩=some (.int .i64 (PI.orderT.getD i 0:Nat))
theorem Tabs.heap {TL TA:Option Addr} {cl ca:Nat} {W w:World} (h:Tabs TL TA cl ca W) (hs:∀b,b<W.heap.size->w.heap[b]?=W.heap[b]?):Tabs TL TA cl ca w:=by
 have hc:∀(p:Addr) u,W.cell? p=some u->w.cell? p=some u:=fun p u hp=>by
  rw [<- hp]; exact World.cell?_of_block (hs p.block (cell_lt hp))
 exact⟨hc _ _ h.long,h.longs.keep fun p u _ hp=>by rw [hp]; exact hc _ _ hp,hc _ _ h.far,h.fars.keep fun p u _ hp=>by rw [hp]; exact hc _ _ hp,fun i hi=>hc _ _ (h.order i hi)⟩
theorem lengthsT_le:∀p ∈ PI.lengthsT,p.1<=100000/\p.2<=13:=by decide
theorem awayT_le:∀p ∈ PI.awayT,p.1<=100000/\p.2<=13:=by decide
set_option maxRecDepth 100000 in
theorem xlen_ok (gx gr:Nat) (l:List UInt8) (most at_ s:Nat) (vo vb:Value) (TL TA:Option Addr) (cl ca:Nat) {w0 w:World} {L:List Pr} (H:Sp w0 (Rr gr l at_::XpB gx gr vo most vb::L) w) (ha:at_<=8 * l.length) (hl:l.length<=100000000)
  (hT:Ent L (Tabs TL TA cl ca)) (hs:s<=1000000) :
  Calls Tryz.prog 164 #[.pointer (some ⟨gx,0,none⟩),.int .i64 (s:Int)] w fun e w' =>
   match PI.length (PBits.ofB l) s at_ with
   | .error c=>e=.panicked (pan c)/\Sp w0 L w'
   | .ok r=>e=.returned (.int .i64 (r.2:Int))/\Sp w0 (Rr gr l r.1::XpB gx gr vo most vb::L) w':=by
 by_cases h28:s=28
 ·subst h28
  show Calls _ _ _ _ fun e w'=>e=.returned (.int .i64 258)/\Sp w0 (Rr gr l at_::XpB gx gr vo most vb::L) w'
  clear hT
  go_enter Tryz.func164,Tryz.ntmps164
  go_wp2
  go_ret
  exact⟨rfl,H⟩
 ·have hq:PI.length (PBits.ofB l) s at_=PI.count (PBits.ofB l) PI.lengthsT s at_:=by unfold PI.length; rw [if_neg h28]
  rw [hq]
  have n1:¬ (s:Int)=28:=by omega
  have c5:=(hT _ _ H.tail2).long
  have h1:=xof_ok gx gr l most at_ s vo vb TL 28 cl PI.lengthsT H ha hl (fun w0 w h=>(hT w0 w h).longs) rfl lengthsT_le hs
  have H1:=Lib.hid h1
  clear h1 hT hq
  cases hr:PI.count (PBits.ofB l) PI.lengthsT s at_ with
  | error c =>
   rw [hr] at H1
   show Calls _ _ _ _ fun e w'=>e=.panicked (pan c)/\Sp w0 L w'
   clear hr
   go_enter Tryz.func164,Tryz.ntmps164
   go_wp2_with fail
   refine H1.out.mono ?_
   rintro _ w1 ⟨rfl,H2⟩
   go_wp2
   exact⟨rfl,rfl,H2⟩
  | ok r =>
   rw [hr] at H1
   obtain⟨r1,r2⟩:=r
   show Calls _ _ _ _ fun e w'=>e=.returned (.int .i64 (r2:Int))/\Sp w0 (Rr gr l r1::XpB gx gr vo most vb::L) w'
   clear hr
   go_enter Tryz.func164,Tryz.ntmps164
   go_wp2_with fail
   refine H1.out.mono ?_
   rintro _ w1 ⟨rfl,H2⟩
   go_wp2_with fail
   go_ret
   exact⟨rfl,H2⟩
def RI (g n:Nat) (c:Value) (bp:Nat):Pr:=Ex fun cur:Array Value=>Ex fun(_:cur.size=n/\bp<=n/\cur.toList.take bp=List.replicate bp c)=>Is g (.cells cur 3 (0,0))
theorem RI.rd {w0 w:World} {L:List Pr} {g n bp:Nat} {c:Value} (H:Sp w0 (RI g n c bp::L) w):Rd w (some ⟨g,0,none⟩) ((List.replicate bp c)):=by
 obtain⟨cur,H⟩:=H.unex
 obtain⟨⟨h1,h2,h3⟩,H⟩:=H.unex
 have hh:=H.is_ 0 rfl
 refine fun _=>⟨_,rfl,fun j u hu=>?_⟩
 have e1:(Addr.add ⟨g,0,none⟩ j)=⟨g,j,none⟩:=by
  unfold Addr.add; split
  ·rename_i h0; subst h0; rfl
  ·simp
 rw [e1]
 have hj:j<bp:=by
  have:=(List.getElem?_eq_some_iff.1 hu).1
  simpa using this
 rw [<- h3,List.getElem?_take_of_lt hj] at hu
 simp [World.cell?,hh]
 simpa using hu
theorem RI.row {w0 w:World} {L:List Pr} {g n:Nat} {c:Value} (H:Sp w0 (RI g n c n::L) w) (hn:n<=maxLen):Sp w0 (Row 3 1 (.slice (some ⟨g,0,none⟩) n n) n (List.replicate n c)::L) w:=by
 obtain⟨cur,H⟩:=H.unex
 obtain⟨⟨h1,h2,h3⟩,H⟩:=H.unex
 exact H.imp fun p hp=>⟨by simp,.inr ⟨g,n,cur,rfl,hp,Nat.le_refl _,hn,by rw [h1,Nat.mul_one],by rw [Nat.mul_one,h3]⟩⟩
theorem RI.of_row {w0 w:World} {L:List Pr} {ad:Addr} {n:Nat} {c z:Value} (H:Sp w0 (Row 3 1 (.slice (some ad) n n) n (List.replicate n z)::L) w):∃g,ad=⟨g,0,none⟩/\Sp w0 (RI g n c 0::L) w:=by
 have h:=H.owns 0 rfl
 rcases h.2 with ⟨hv,_⟩ | ⟨g,cap,cur,hv,hb,hh,h1,h2,h3,h4⟩
 ·cases hv
 ·injection hv with e1 e2 e3
  injection e1 with e1
  subst e1 e3
  refine⟨g,rfl,H.imp fun p hp=>?_⟩
  rcases hp.2 with ⟨hv,_⟩ | ⟨g',cap',cur',hv,hb',h1',h2',h3',h4'⟩
  ·cases hv
  ·injection hv with e1 e2 e3
   injection e1 with e1
   injection e1 with e1
   subst e1 e3
   exact⟨cur',⟨by rw [h3',Nat.mul_one],Nat.zero_le _,rfl⟩,hb'⟩
theorem RI.copy {w0 w:World} {L:List Pr} {g n bp k:Nat} {c:Value} (H:Sp w0 (RI g n c bp::L) w) (a:Addr) (sLen sCap dCap:Nat) (ty:TypeId) (hk:k=min sLen (n - bp)) (hc1:c.oneCell'=true)
  (hsrc:∀j u,((List.replicate k c))[j]?=some u->w.cell? (a.add j)=some u) :
  ∃w',(Builtin.copy_ #[147,147] ty #[.slice (some ⟨g,bp,none⟩) (n - bp) dCap,.slice (some a) sLen sCap]).run Tryz.prog w=.ok (.int .i64 (k:Int)) w'/\Sp w0 (RI g n c (bp+k)::L) w':=by
 obtain⟨i0,hi0,hz0,hz1,hz2⟩:=info_parts infoJ
 obtain⟨cur,H⟩:=H.unex
 obtain⟨⟨h1,h2,h3⟩,H⟩:=H.unex
 have hg:=H.is_ 0 rfl
 have hl:((List.replicate k c)).length=k:=by simp
 have hr:=run_copy_row (P:=Tryz.prog) w 147 147 ty 3 g bp (n - bp) dCap a sLen sCap cur 3 ((List.replicate k c)) Tryz.underlying147 (by rw [hi0]; simp [hz1]) hg (by rw [hl]; exact hk) hsrc (by rw [hl]; omega) (fun u hu=>by rw [(List.mem_replicate.1 hu).2]; exact hc1)
 rw [hl] at hr
 refine⟨_,hr,?_⟩
 rw [setRow_put w g cur _ _ _ hg]
 refine Sp.ex _ (Sp.ex ⟨?_,?_,?_⟩ (H.put _))
 ·simp [hl]; omega
 ·omega
 ·show List.take (bp+k) (cur.toList.take bp++(List.replicate k c)++cur.toList.drop (bp+k))=_
  have e1:(cur.toList.take bp++(List.replicate k c)).length=bp+k:=by
   rw [List.length_append,hl,List.length_take]
   simp only [Array.length_toList]
   omega
  rw [List.take_append_of_le_length (by omega),List.take_of_length_le (by omega),h3,<- List.replicate_append_replicate]
set_option maxRecDepth 100000 in
set_option maxHeartbeats 1000000 in
theorem repeatI_ok (A:Option Addr) (ca:Nat) (c:Value) (n:Nat) {w0 w:World} {L:List Pr} (H:Sp w0 L w) (hb:Ent L (fun w=>Rd w A [c])) (hc1:c.oneCell'=true) (hn1:1<=n) (hn:n<=4096) :
  Calls Tryz.prog 167 #[.slice A 1 ca,.int .i64 (n:Int)] w fun e w'=>∃g,e=.returned (.slice (some ⟨g,0,none⟩) n n)/\Sp w0 (Row 3 1 (.slice (some ⟨g,0,none⟩) n n) n (List.replicate n c)::L) w':=by
 obtain⟨i0,hi0,hz0,hz1,hz2⟩:=info_parts infoJ
 obtain⟨ad,rfl⟩:∃ad,A=some ad:=by
  obtain⟨ad,e,_⟩:=(hb _ _ H) (by simp)
  exact⟨ad,e⟩
 have HB:=Lib.hid hb
 have k3:¬ (n:Int)<0:=by omega
 have k2:¬ (9223372036854775807:Int)<(n:Int):=by omega
 clear hb
 go_enter Tryz.func167,Tryz.ntmps167
 go_wp2_with fail
 refine(mul_one_ok n (by omega) _).mono ?_
 rintro _ _ ⟨rfl,rfl⟩
 go_wp2_with (at_make; refine wpList_make_sp rfl _ _ _ rfl 3 i0 (.int .i64 0) Tryz.underlying147 hi0 hz0 hz1 rfl n rfl rfl (by rw [hz2]; omega) (by unfold maxLen; omega) H ?_)
 intro a1 w1 H1
 obtain⟨g,rfl,H2⟩:=RI.of_row (c:=c) H1
 have hsrc:∀j u,(List.replicate 1 c)[j]?=some u->w1.cell? (ad.add j)=some u:=by
  obtain⟨ad2,e2,hc⟩:=(HB.out _ _ H2.tail) (by simp)
  injection e2 with e2
  rw [e2]
  exact hc
 obtain⟨w2,hr1,H3⟩:=RI.copy H2 ad 1 ca n 3 (k:=1) (by omega) hc1 hsrc
 rw [Nat.sub_zero] at hr1
 rw [Nat.zero_add] at H3
 clear H1 H2 hsrc
 go_wp2_with (at_builtin; refine Lib.wpList_copy_run _ rfl _ _ 147 147 rfl _ _ rfl rfl hr1 ?_)
 clear hr1
 go_wp2_with fail
 go_loopw [8] (fun bv wr=>∃bp:Nat,bv=.int .i64 (bp:Int)/\1<=bp/\bp<=n/\Sp w0 (RI g n c bp::L) wr) (fun bv _=>n - (intOf bv).toNat)
 case atStart=>exact⟨1,rfl,Nat.le_refl _,hn1,H3⟩
 case round =>
  obtain⟨bp,rfl,hb1,hbn,H4⟩:=hrel
  by_cases hlt:bp<n
  ·have k6:(bp:Int)<(n:Int):=by omega
   obtain⟨k,hk⟩:∃k,k=min bp (n - bp):=⟨_,rfl⟩
   obtain⟨q,hq⟩:∃q,bp+k=q:=⟨_,rfl⟩
   have y0:(bp:Int)+(k:Int)=(q:Int):=by omega
   have y1:¬ n=bp:=by omega
   have y2:bp<=n:=by omega
   have y3:¬ bp=0:=by omega
   have y4:q<=n:=by omega
   have HK:=Lib.hid hk
   have HQ:=Lib.hid hq
   have hkq:1<=k:=by omega
   clear hk hq
   go_wp2_with fail
   refine wp_region_sc (L:=L) [some (.int .i64 (bp:Int)),some (.slice (some ⟨g,0,none⟩) n n),some (.int .i64 (bp:Int)),some (.slice (some ⟨g,bp,none⟩) (n - bp) (n - bp)),some (.slice (some ⟨g,0,none⟩) n n),some (.int .i64 (bp:Int)),some (.slice (some ⟨g,0,none⟩) bp n),some (.int .i64 (k:Int)),some (.int .i64 (q:Int)),some (.int .i64 (q:Int))] (fun _ _=>True) (fun ix vx=>match ix with | 7=>(fun _=>[RI g n c (bp+k)]) vx | _=>[]) (fun ix=>match ix with | 7=>[RI g n c bp] | _=>[]) 10 48
    [some 38,some 39,some 40,some 41,some 42,some 43,some 44,some 45,some 46,some 8]
    [[],[],[],[1,2],[],[],[4,5],[3,6],[0,7],[8,7,0,1,2,3,4,5,6,7,8]]
    [[],[],[],[1,2],[],[],[4,5],[1,2,3,4,5,6],[0,1,2,3,4,5,6,7],[0,1,2,3,4,5,6,7,8]]
    [[],[],[],[],[],[],[],[],[],[]] [[],[],[],[],[],[],[],[],[],[]] [(7,.slice (some ⟨g,0,none⟩) n n),(8,.int .i64 (bp:Int))]
    (by kernel_rfl) rfl (by decide) (by rfl) (by decide +kernel) rfl rfl (by simp) (H4) ?hstep ?hend
   case hstep =>
    refine⟨?p0,⟨?p1,⟨?p2,⟨?p3,⟨?p4,⟨?p5,⟨?p6,⟨?p7,⟨?p8,⟨?p9,trivial⟩⟩⟩⟩⟩⟩⟩⟩⟩⟩
    case p0 | p1 | p2 | p3 | p4 | p5 | p6 | p8 | p9 =>
     intro x wx A rest hDf hF hS hE H K hK
     replace hK:=Lib.hid hK
     clear hS hE hDf
     repeat (obtain⟨_,hF⟩:=hF)
     change Oper.wp _ _ A wx K _
     go_step
     exact hK.out _ _ rfl H
    case p7 =>
     intro x wx A rest hDf hF hS hE H K hK0
     replace hDf:=Lib.hid hDf
     have e41:A.tmps[41]?.getD undef=.slice (some ⟨g,bp,none⟩) (n - bp) (n - bp):=((hS 3 (by decide)).2 41 rfl).trans (hS 3 (by decide)).1
     have e44:A.tmps[44]?.getD undef=.slice (some ⟨g,0,none⟩) bp n:=((hS 6 (by decide)).2 44 rfl).trans (hS 6 (by decide)).1
     replace H:Sp w0 ((RI g n c bp)::rest) wx:=H
     have hK:Hid (∀(v:Value) (w' : World),v=.int .i64 (k:Int)->Sp w0 ((RI g n c (bp+k))::rest) w'->K (A.put (some 45) v) w'):=Lib.hid hK0
     clear hK0 hF hS hE
     have hrd:=RI.rd H
     have hsrc:∀j u,(List.replicate k c)[j]?=some u->wx.cell? ((⟨g,0,none⟩:Addr).add j)=some u:=fun j u hu=>by
      obtain⟨ad2,e2,hc⟩:=hrd (by intro h0; have:=congrArg List.length h0; simp at this; omega)
      injection e2 with e2
      subst e2
      refine hc j u ?_
      have hj:j<k:=by
       have:=(List.getElem?_eq_some_iff.1 hu).1
       simpa using this
      have:=HK.out
      simp only [List.getElem?_replicate] at hu ⊢
      rw [if_pos hj] at hu
      rw [if_pos (by omega)]
      exact hu
     obtain⟨w9,hr9,H9⟩:=RI.copy H ⟨g,0,none⟩ bp n (n - bp) 3 HK.out hc1 hsrc
     change Oper.wp _ _ A wx K _
     exact Lib.wp_copy_run wx _ _ 147 147 rfl _ _ (ev e41) (ev e44) hr9 (hK.out _ _ rfl H9)
   case hend =>
    intro x wx A hA hS H
    replace H:Sp w0 ((RI g n c (bp+k))::L) wx:=H
    have y9:x 9=.int .i64 (q:Int):=hS 9 (by decide)
    clear hS
    simp only [putAll,Act.put,List.setIfInBounds_toArray,List.set_cons_succ,List.set_cons_zero,Nat.reduceAdd] at hA
    subst hA
    rw [y9]
    clear y9
    go_wp2
    go_roundw
    case rel=>exact⟨q,rfl,by have:=HQ.out; omega,y4,by rw [<- HQ.out]; exact H⟩
    case measure =>
     have:=HQ.out
     first | (simp [intOf]; omega) | simp [intOf]
  ·have k6:¬ (bp:Int)<(n:Int):=by omega
   obtain rfl:bp=n:=by omega
   go_wp2_with fail
   go_ret
   exact⟨g,rfl,RI.row H4 (by unfold maxLen; omega)⟩
theorem infoI:(Tryz.prog.info? 3).map (fun i=>(i.zero,i.size,i.bytes))=some (some (.int .i64 0),1,8):=by kernel_rfl
set_option maxRecDepth 100000 in
set_option maxHeartbeats 2000000 in
theorem grow_okI (n:Nat) {w0 w:World} {L:List Pr} (H:Sp w0 L w) (hn:n<=1000000000) :
  Calls Tryz.prog 181 #[.slice none 0 0,.int .i64 (n:Int)] w fun e w'=>∃v,e=.returned v/\Sp w0 (Row 3 1 v 0 []::L) w':=by
 obtain⟨i0,hi,hz0,hz1,hz2⟩:=info_parts infoI
 by_cases h0:0<n
 ·have k1:(0:Int)<(n:Int):=by omega
  go_enter Tryz.func181,Tryz.ntmps181
  go_wp2_with (at_builtin; refine wpList_zeros_sp rfl _ _ 147 3 rfl 3 i0 (.int .i64 0) 1 8 Tryz.underlying147 Tryz.underlying3 hi hz0 hz1 hz2 rfl (by decide) n rfl rfl h0 hn (by decide) H ?_)
  intro g c w2 h1 h2 H2
  have H3:=H2.rowCut 0 (Nat.zero_le _)
  rw [Nat.zero_mul,List.take_zero] at H3
  have k2:(0:Int)<=(c:Int):=by omega
  go_wp2_with fail
  go_ret
  exact⟨_,rfl,H3⟩
 ·have k1:¬ (0:Int)<(n:Int):=by omega
  obtain rfl:n=0:=by omega
  go_enter Tryz.func181,Tryz.ntmps181
  go_wp2_with fail
  go_ret
  exact⟨_,rfl,H.rowNil _ _⟩
set_option maxRecDepth 100000 in
set_option maxHeartbeats 2000000 in
theorem concat_okI (ad:Addr) (k c:Nat) (qs:List Part) {w0 w:World} {L:List Pr} (H:Sp w0 L w) (hk:qs.length=k) (hb:Ent L (fun w=>Rd w (some ad) (qs.map Part.val))) (hq:∀q ∈ qs,q.Ok L 1) (hs:Part.sum qs<=1000000) (hkm:k<=1000000) :
  Calls Tryz.prog 166 #[.slice (some ad) k c] w fun e w'=>∃v,e=.returned v/\Sp w0 (Row 3 1 v (Part.sum qs) (Part.cat qs)::L) w':=by
 obtain⟨i0,hi,hz0,hz1,hz2⟩:=info_parts infoI
 obtain⟨N,hN⟩:∃N,Part.sum qs=N:=⟨_,rfl⟩
 have hle:∀i,Part.sum (qs.take i)<=N:=fun i=>by rw [<- hN]; exact Part.sum_take qs i
 have HK:=Lib.hid hk
 have HB:=Lib.hid hb
 have HQ:=Lib.hid hq
 have HN:=Lib.hid hN
 have HLE:=Lib.hid hle
 have hNl:N<=1000000:=by omega
 rw [hN]
 have hget:∀i,i<k->∃q,qs[i]?=some q/\q.Ok L 1/\qs.take (i+1)=qs.take i++[q]/\∀w',Sp w0 L w'->w'.cell? (ad.add i)=some (.slice q.A q.n q.c):=fun i hi=>by
  have hil:i<qs.length:=by rw [hk]; exact hi
  refine⟨qs[i],List.getElem?_eq_getElem hil,hq _ (List.getElem_mem hil),List.take_succ_eq_append_getElem hil,fun w' H'=>?_⟩
  obtain⟨ad',e,hc⟩:=hb _ _ H' (by intro h; have:=congrArg List.length h; simp at this; subst this; simp at hil)
  injection e with e
  subst e
  refine hc i _ ?_
  rw [List.getElem?_map,List.getElem?_eq_getElem hil]; rfl
 have HG:=Lib.hid hget
 clear hk hb hq hN hle hs hget
 go_enter Tryz.func166,Tryz.ntmps166
 go_wp2_with fail
 go_loopw [3,11] (fun sv iv wr=>∃(i s:Nat),iv=.int .i64 (i:Int)/\sv=.int .i64 (s:Int)/\i<=k/\Hid (Part.sum (qs.take i)=s)/\Sp w0 L wr) (fun _ iv _=>k - (intOf iv).toNat)
 case atStart=>exact⟨0,0,rfl,rfl,Nat.zero_le _,Lib.hid rfl,H⟩
 case round =>
  clear H
  obtain⟨i,s,rfl,rfl,hik,HS,H⟩:=hrel
  have hsN:s<=N:=by rw [<- HS.out]; exact HLE.out i
  by_cases hin:i<k
  ·have k1:(i:Int)<(k:Int):=by omega
   obtain⟨q,h1,h2,h3,h4⟩:=HG.out i hin
   have hc:=h4 _ H
   have hs2:Part.sum (qs.take (i+1))=s+q.n:=by rw [h3,Part.sum_snoc,HS.out]
   have hs3:s+q.n<=N:=by rw [<- hs2]; exact HLE.out _
   have HS2:=Lib.hid hs2
   obtain⟨qA,qn,qc,qx⟩:=q
   simp only at hc HS2 hs3
   have k2:¬ (s:Int)+(qn:Int)<0:=by omega
   clear h1 h2 h3 h4 hs2
   go_wp2_with fail
   go_roundw
   case rel=>exact⟨i+1,s+qn,by go_num,by go_num,by omega,HS2,H⟩
   case measure=>first | (simp [intOf]; omega) | simp [intOf]
  ·have k1:¬ (i:Int)<(k:Int):=by omega
   obtain rfl:i=k:=by omega
   have hsN2:s=N:=by rw [<- HS.out,<- HN.out,List.take_of_length_le (by rw [HK.out]; exact Nat.le_refl _)]
   subst hsN2
   have hg:=grow_okI s H (by omega)
   have HGR:=Lib.hid hg
   clear hg
   go_wp2_with fail
   refine HGR.out.mono ?_
   rintro _ w2 ⟨v,rfl,H2⟩
   clear HGR H
   go_wp2_with fail
   go_loopw [6,27] (fun vv jv wr=>∃(j:Nat),jv=.int .i64 (j:Int)/\j<=i/\Sp w0 (Row 3 1 vv (Part.sum (qs.take j)) (Part.cat (qs.take j))::L) wr) (fun _ jv _=>i - (intOf jv).toNat)
   case atStart=>exact⟨0,rfl,Nat.zero_le _,H2⟩
   case round =>
    rename_i v0 _
    clear H2
    rename_i u6 u27
    obtain⟨j,rfl,hjk,H⟩:=hrel
    obtain⟨r,hr⟩:∃r,Part.sum (qs.take j)=r:=⟨_,rfl⟩
    obtain⟨X,hX⟩:∃X,Part.cat (qs.take j)=X:=⟨_,rfl⟩
    have hrN:r<=s:=by rw [<- hr]; exact HLE.out j
    rw [hr,hX] at H
    obtain⟨VA,Vc,hvf,_,_⟩:=Row.form H 0 rfl
    subst hvf
    by_cases hjn:j<i
    ·have k1:(j:Int)<(i:Int):=by omega
     obtain⟨q,h1,h2,h3,h4⟩:=HG.out j hjn
     have hc:=h4 _ H.tail
     have hs2:Part.sum (qs.take (j+1))=r+q.n:=by rw [h3,Part.sum_snoc,hr]
     have hs3:r+q.n<=s:=by rw [<- hs2]; exact HLE.out _
     have hx2:Part.cat (qs.take (j+1))=X++q.xs:=by rw [h3,Part.cat_snoc,hX]
     have HS2:=Lib.hid hs2
     have HX2:=Lib.hid hx2
     have HO:=Lib.hid h2
     obtain⟨qA,qn,qc,qx⟩:=q
     simp only at hc HS2 HX2 hs3
     clear h1 h2 h3 h4 hs2 hx2 hr hX
     go_wp2_with (at_builtin; refine wpList_append_sp rfl _ _ 147 rfl 3 i0 (.int .i64 0) 1 8 Tryz.underlying147 hi hz0 hz1 hz2 rfl (by decide) _ r X rfl H qA qn qc qx rfl HO.out.1 (HO.out.2.1 _ _ H.tail) HO.out.2.2 (by unfold maxLen; omega) (by omega) ?_)
     intro v9 w9 H9 _
     go_wp2_with fail
     go_roundw
     case rel=>exact⟨j+1,by go_num,by omega,by rw [HS2.out,HX2.out]; exact H9⟩
     case measure=>first | (simp [intOf]; omega) | simp [intOf]
    ·have k1:¬ (j:Int)<(i:Int):=by omega
     obtain rfl:j=i:=by omega
     have e1:qs.take j=qs:=List.take_of_length_le (by rw [HK.out]; exact Nat.le_refl _)
     rw [e1,HN.out] at hr
     rw [e1] at hX
     have HR:=Lib.hid hr
     have HX:=Lib.hid hX
     clear hr hX e1
     go_wp2_with fail
     go_ret
     exact⟨_,rfl,by rw [HX.out,HR.out]; exact H⟩
theorem cellsN_cast (m:List Nat):cells64 (castI m)=cellsN m:=by
 unfold cells64 castI cellsN
 rw [List.map_map]; rfl
set_option maxRecDepth 100000 in
theorem xbook_yes (A:Option Addr) (n c:Nat) (m:List Nat) {w0 w:World} {L:List Pr} (H:Sp w0 L w) (hn:n=m.length) (hb:Ent L fun w=>Rd w A (cellsN m)) (hk:PI.book m=true) :
  Calls Tryz.prog 168 #[.slice A n c] w fun e w'=>∃g,e=.returned (.pointer (some ⟨g,0,none⟩))/\Sp w0 (Bok g m::L) w':=by
 have hb' : Ent L fun w=>Rd w A (cells64 (castI m)):=by rw [cellsN_cast]; exact hb
 have hn' : n=(castI m).length:=by unfold castI; rw [List.length_map]; exact hn
 have h1:=new_any_yes A n c (castI m) H hn' hb' hk
 rw [PI.PH.nat_cast,PI.mostN_of] at h1
 have H1:=Lib.hid h1
 clear h1 hb hb' hn' hk hn
 go_enter Tryz.func168,Tryz.ntmps168
 go_wp2_with fail
 refine H1.out.mono ?_
 rintro _ w1 ⟨g,v,rfl,H2⟩
 go_wp2
 go_ret
 exact⟨g,rfl,Sp.ex v H2.star⟩
set_option maxRecDepth 100000 in
theorem xbook_no (A:Option Addr) (n c:Nat) (m:List Nat) {w0 w:World} {L:List Pr} (H:Sp w0 L w) (hn:n=m.length) (hb:Ent L fun w=>Rd w A (cellsN m)) (hl:n<=1000) (hk:PI.book m=false) :
  Calls Tryz.prog 168 #[.slice A n c] w fun e w'=>e=.panicked (pan 20)/\Sp w0 L w':=by
 have hb' : Ent L fun w=>Rd w A (cells64 (castI m)):=by rw [cellsN_cast]; exact hb
 have hn' : n=(castI m).length:=by unfold castI; rw [List.length_map]; exact hn
 have h1:=new_any_no A n c (castI m) H hn' hb' (by omega) hk
 have he:PH.enI (castI m)=1∨PH.enI (castI m)=20:=by
  unfold PH.enI
  split
  ·exact .inr rfl
  ·exact .inl rfl
 obtain⟨x,hx⟩:∃x,PH.enI (castI m)=x:=⟨_,rfl⟩
 rw [hx] at h1 he
 have H1:=Lib.hid h1
 have n1:¬ x=0:=by omega
 have n2:(x != 0)=true:=by simpa using n1
 clear h1 hb hb' hn' hk he hx hn
 go_enter Tryz.func168,Tryz.ntmps168
 go_wp2_with fail
 refine H1.out.mono ?_
 rintro _ w1 ⟨rfl,H2⟩
 go_wp2
 exact⟨rfl,rfl,H2⟩
theorem row_ent {e:TypeId} {V:Option Addr} {n kk:Nat} {xs:List Value} {M:List Pr} (j:Nat) (hj:M[j]?=some (Row e 1 (.slice V n kk) n xs)):Ent M fun w=>Rd w V xs:=fun _ _ H=>by
 obtain⟨A9,c9,e9,hr9,_,_⟩:=H.row_rd j hj
 injection e9 with e9
 subst e9
 exact hr9
theorem fixed_book:PI.book PI.fixedL=true/\PI.book PI.fixedD=true:=by decide +kernel
theorem fixed_len:PI.fixedL.length=288/\PI.fixedD.length=32:=by decide +kernel
set_option maxRecDepth 100000 in
set_option maxHeartbeats 2000000 in
theorem xfixed_ok {w0 w:World} {L:List Pr} (H:Sp w0 L w) :
    Calls Tryz.prog 134 #[] w fun e w'=>∃g1 g2,e=.returned (.tuple #[.pointer (some ⟨g1,0,none⟩),.pointer (some ⟨g2,0,none⟩)])/\Sp w0 (Bok g2 PI.fixedD::Bok g1 PI.fixedL::L) w':=by
  have H1:=H.newBk [.int .i64 8] 3
  go_enter Tryz.func134,Tryz.ntmps134
  go_wp2_with fail
  refine(repeatI_ok _ 1 (.int .i64 8) 144 H1 (fun _ _ H=>Rd.of_blk (H.blk 0 rfl)) rfl (by omega) (by omega)).mono ?_
  rintro _ w1 ⟨ga,rfl,H2⟩
  replace H2:=H2.pick 2 [0]
  clear H1
  have H3:=H2.newBk [.int .i64 9] 3
  go_wp2_with fail
  refine(repeatI_ok _ 1 (.int .i64 9) 112 H3 (fun _ _ H=>Rd.of_blk (H.blk 0 rfl)) rfl (by omega) (by omega)).mono ?_
  rintro _ w2 ⟨gb,rfl,H4⟩
  replace H4:=H4.pick 2 [0]
  clear H3 H2
  have H5:=H4.newBk [.int .i64 7] 3
  go_wp2_with fail
  refine(repeatI_ok _ 1 (.int .i64 7) 24 H5 (fun _ _ H=>Rd.of_blk (H.blk 0 rfl)) rfl (by omega) (by omega)).mono ?_
  rintro _ w3 ⟨gc,rfl,H6⟩
  replace H6:=H6.pick 2 [0]
  clear H5 H4
  have H7:=H6.newBk [.int .i64 8] 3
  go_wp2_with fail
  refine(repeatI_ok _ 1 (.int .i64 8) 8 H7 (fun _ _ H=>Rd.of_blk (H.blk 0 rfl)) rfl (by omega) (by omega)).mono ?_
  rintro _ w4 ⟨gd,rfl,H8⟩
  replace H8:=H8.pick 2 [0]
  clear H7 H6
  have H9:=H8.newBk [.slice (some ⟨ga,0,none⟩) 144 144,.slice (some ⟨gb,0,none⟩) 112 112,.slice (some ⟨gc,0,none⟩) 24 24,.slice (some ⟨gd,0,none⟩) 8 8] 147
  have hc:=concat_okI ⟨w4.heap.size,0,none⟩ 4 4 [⟨some ⟨ga,0,none⟩,144,144,List.replicate 144 (.int .i64 8)⟩,⟨some ⟨gb,0,none⟩,112,112,List.replicate 112 (.int .i64 9)⟩,⟨some ⟨gc,0,none⟩,24,24,List.replicate 24 (.int .i64 7)⟩,⟨some ⟨gd,0,none⟩,8,8,List.replicate 8 (.int .i64 8)⟩] H9 rfl (fun _ _ H=>Rd.of_blk (H.blk 0 rfl))
    (fun q hq=>by
      have one:∀(n:Nat) (v:Int),∀u ∈ List.replicate n (Value.int .i64 v),u.oneCell'=true:=fun n v u hu=>by rw [(List.mem_replicate.1 hu).2]; rfl
      rcases List.mem_cons.1 hq with rfl | hq
      · exact⟨by simp only [List.length_replicate],row_ent 4 rfl,one _ _⟩
      rcases List.mem_cons.1 hq with rfl | hq
      · exact⟨by simp only [List.length_replicate],row_ent 3 rfl,one _ _⟩
      rcases List.mem_cons.1 hq with rfl | hq
      · exact⟨by simp only [List.length_replicate],row_ent 2 rfl,one _ _⟩
      · rw [List.mem_singleton.1 hq]
        exact⟨by simp only [List.length_replicate],row_ent 1 rfl,one _ _⟩) (by simp [Part.sum]) (by omega)
  have hsum:Part.sum [⟨some ⟨ga,0,none⟩,144,144,List.replicate 144 (.int .i64 8)⟩,⟨some ⟨gb,0,none⟩,112,112,List.replicate 112 (.int .i64 9)⟩,⟨some ⟨gc,0,none⟩,24,24,List.replicate 24 (.int .i64 7)⟩,⟨some ⟨gd,0,none⟩,8,8,List.replicate 8 (.int .i64 8)⟩]=288:=rfl
  have hcat:Part.cat [⟨some ⟨ga,0,none⟩,144,144,List.replicate 144 (.int .i64 8)⟩,⟨some ⟨gb,0,none⟩,112,112,List.replicate 112 (.int .i64 9)⟩,⟨some ⟨gc,0,none⟩,24,24,List.replicate 24 (.int .i64 7)⟩,⟨some ⟨gd,0,none⟩,8,8,List.replicate 8 (.int .i64 8)⟩]=cellsN PI.fixedL:=by
    unfold Part.cat PI.fixedL cellsN
    simp only [List.flatMap_cons,List.flatMap_nil,List.map_append,List.map_replicate,List.append_nil,List.append_assoc]
    rfl
  rw [hsum,hcat] at hc
  have HC:=Lib.hid hc
  clear hc hsum hcat H8
  go_wp2_with fail
  refine HC.out.mono ?_
  rintro _ w5 ⟨vl,rfl,H10⟩
  obtain⟨VA,vc,rfl,_,_⟩:=Row.form H10 0 rfl
  have hb:=xbook_yes VA 288 vc PI.fixedL H10 fixed_len.1.symm (row_ent 0 rfl) fixed_book.1
  have HB:=Lib.hid hb
  clear hb HC H9
  go_wp2_with fail
  refine HB.out.mono ?_
  rintro _ w6 ⟨g1,rfl,H11⟩
  have H12:=H11.newBk [.int .i64 5] 3
  clear HB H10
  go_wp2_with fail
  refine(repeatI_ok _ 1 (.int .i64 5) 32 H12 (fun _ _ H=>Rd.of_blk (H.blk 0 rfl)) rfl (by omega) (by omega)).mono ?_
  rintro _ w7 ⟨ge,rfl,H13⟩
  have hrep:List.replicate 32 (Value.int .i64 5)=cellsN PI.fixedD:=by unfold cellsN PI.fixedD; rw [List.map_replicate]; rfl
  rw [hrep] at H13
  have hb:=xbook_yes (some ⟨ge,0,none⟩) 32 32 PI.fixedD H13 fixed_len.2.symm (row_ent 0 rfl) fixed_book.2
  clear hrep
  have HB:=Lib.hid hb
  clear hb H11 H12
  go_wp2_with fail
  refine HB.out.mono ?_
  rintro _ w8 ⟨g2,rfl,H14⟩
  go_wp2_with fail
  go_ret2
  exact⟨g1,g2,rfl,H14.pick 10 [0,3]⟩
def f8 (j:Nat):Nat:=if j<144 then 8 else if j<256 then 9 else if j<280 then 7 else 8
def f5 (_:Nat):Nat:=5
open Go.ChangeShapes Go.WideShapes Go.ChangeAt Go.RowKit Go.Deep
section
variable {H:Type} {enc:TypeId × Value->H} {P:Program} {w:World} {base:Nat} {spare:Nat->Bool} {held:Bool}
end
theorem Rd.same {W:World} {A:Option Addr} {xs:List Value} (h:Rd W A xs) {L:List Pr} (k:Nat) (hk:L[k]?=some (Same W)):Ent L (fun w=>Rd w A xs) :=
 Ent.of_same k hk fun _ hs=>h.keep fun p _ _ hp=>World.cell?_of_block (hs p.block (cell_lt hp))
open Go.ChangeShapes Go.WideShapes Go.ChangeAt Go.RowKit Go.Deep
structure PartV where
 p:PI.WPart
 bv:Value
 cv:Value
instance:Inhabited PartV:=⟨⟨⟨0,[],[]⟩,undef,undef⟩⟩
def cellsPr (l:List (Nat × Nat)):List Value:=l.flatMap fun c=>[.int .u16 (c.1:Int),.int .u16 (c.2:Int)]
def PartV.cells (x:PartV):List Value:=[.int .u8 (x.p.kind:Int),x.bv,x.cv]
def PartV.Ok (w:World) (x:PartV):Prop:=x.p.kind<256/\Byt w x.bv x.p.bytes/\(∃A c,x.cv=.slice A x.p.copies.length c/\Rd w A (cellsPr x.p.copies)/\x.p.copies.length<=c/\c<=maxLen)/\∀c ∈ x.p.copies,c.1<65536/\c.2<65536
theorem flat_get {α β:Type} (f:α->List β) (z:Nat) (hf:∀p,(f p).length=z):∀(ps:List α) (i j:Nat),j<z->i<ps.length->∃p,ps[i]?=some p/\(ps.flatMap f)[i * z+j]?=(f p)[j]?:=by
 intro ps
 induction ps with
 | nil=>intro i j _ h; cases h
 | cons p ps ih =>
  intro i j hj hi
  rw [List.flatMap_cons]
  cases i with
  | zero=>exact⟨p,rfl,by rw [Nat.zero_mul,Nat.zero_add,List.getElem?_append_left (by rw [hf]; exact hj)]⟩
  | succ i =>
   obtain⟨q,h1,h2⟩:=ih i j hj (by simpa using hi)
   refine⟨q,h1,?_⟩
   rw [List.getElem?_append_right (by rw [hf,Nat.succ_mul]; omega),hf,show(i+1) * z+j - z=i * z+j by rw [Nat.succ_mul]; omega]
   exact h2
theorem flat_len {α β:Type} (f:α->List β) (z:Nat) (hf:∀p,(f p).length=z) (ps:List α):(ps.flatMap f).length=ps.length * z:=by
 induction ps with
 | nil=>simp
 | cons p ps ih=>rw [List.flatMap_cons,List.length_append,hf,ih,List.length_cons,Nat.succ_mul,Nat.add_comm]
section
variable {H:Type} {enc:TypeId × Value->H} {P:Program} {w:World} {base:Nat} {spare:Nat->Bool} {held:Bool}
theorem open_rowN {α:Type} [Inhabited α] (z:Nat) (hz:0<z) (f:α->List Value) (hf:∀p,(f p).length=z) (Good:α->Prop) {t e:TypeId} {A:Option Addr} {len cap:Nat} {fuel:Nat} {x:DataW H × List MemPlace} (ht:P.underlying t=some (.slice e)) (hC:P.cellsOf e=z)
  (hel:∀n cs y,cs.length=z->DataW.trod enc P w base (fun _=>true) held n e cs=some y->∃p,cs=f p/\Good p)
  (h:DataW.trod enc P w base (fun _=>true) held fuel t [.slice A len cap]=some x):∃ps:List α,Rd w A (ps.flatMap f)/\len=ps.length/\len<=cap/\cap<=maxLen/\∀p ∈ ps,Good p:=by
 rcases open_slice ht h with ⟨hcs,_⟩ | ⟨a,l,c,m,n,D,Pl,hcs,hb,hl,hm,hmm,_,hi⟩
 ·have:A=none/\len=0/\cap=0:=by simpa using hcs
  obtain⟨rfl,rfl,rfl⟩:=this
  exact⟨[],Rd.nil,rfl,Nat.le_refl _,by simp [maxLen],fun p h=>by cases h⟩
 ·have:A=some a/\len=l/\cap=c:=by simpa using hcs
  obtain⟨rfl,rfl,rfl⟩:=this
  rw [if_pos rfl] at hmm
  have key:∀i,i<len->∃p:α,(∀j,j<z->w.cell? (a.add (i * z+j))=(f p)[j]?)/\Good p:=by
   intro i hil
   obtain⟨cs',hc,htr⟩:=hi i (by omega)
   rw [hC] at hc
   obtain⟨_,hlen,hat⟩:=World.cells?_some hc
   obtain⟨p,rfl,hg⟩:=hel _ _ _ hlen htr
   refine⟨p,fun j hj=>?_,hg⟩
   have:=hat j hj
   rw [Go.Addr.add_add] at this
   exact this
  obtain⟨g,hg⟩:=choose_lt key
  refine⟨(List.range len).map g,fun _=>⟨a,rfl,fun k u hu=>?_⟩,by simp,hl,hm,fun p hp=>?_⟩
  ·have hk:k<len * z:=by
    have h1:=(List.getElem?_eq_some_iff.1 hu).1
    rw [flat_len f z hf] at h1
    simpa using h1
   have hq:k / z<len:=(Nat.div_lt_iff_lt_mul hz).2 hk
   have hr:k % z<z:=Nat.mod_lt _ hz
   have hkz:k / z * z+k % z=k:=by rw [Nat.mul_comm]; exact Nat.div_add_mod k z
   obtain⟨p,h1,h2⟩:=flat_get f z hf ((List.range len).map g) (k / z) (k % z) hr (by simpa using hq)
   rw [hkz,hu] at h2
   have h3:p=g (k / z):=by
    rw [List.getElem?_map,List.getElem?_range hq] at h1
    exact(Option.some.inj h1).symm
   have h4:=(hg (k / z) hq).1 (k % z) hr
   rw [hkz] at h4
   rw [h4,h2,h3]
  ·obtain⟨j,hj,rfl⟩:=List.mem_map.1 hp
   exact(hg j (List.mem_range.1 hj)).2
end
theorem PartV.Ok.keep {w w' : World} {x:PartV} (h:x.Ok w) (hs:∀b,b<w.heap.size->w'.heap[b]?=w.heap[b]?):x.Ok w':=by
 obtain⟨h1,h2,⟨A,c,h3,h4,h5⟩,h6⟩:=h
 exact⟨h1,h2.keep fun p _ hp=>World.cell?_of_block (hs p.block (cell_lt hp)),⟨A,c,h3,h4.keep fun p _ _ hp=>World.cell?_of_block (hs p.block (cell_lt hp)),h5⟩,h6⟩
end Go.Proofs.YtloijdbkikccgaaGreatDoor

