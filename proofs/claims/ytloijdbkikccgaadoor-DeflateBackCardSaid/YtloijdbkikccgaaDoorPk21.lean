/- A pack of texts: InfD InfE InfLaid DefLaid DefWords. -/
import Derived.LaidMore
import Derived.Lib.LaidTab
import Derived.Lib.LaidU8
import Derived.ProofKit
import Derived.Stop.Joined
import Derived.Stop.LaidErr
import Derived.Test.YtloijdbkikccgaaDoorRows
import Derived.Test.YtloijdbkikccgaaDoorPk02
import Derived.Test.YtloijdbkikccgaaDoorPk03
import Derived.Test.YtloijdbkikccgaaDoorPk19
import Derived.Test.YtloijdbkikccgaaDoorPk20
namespace Go.Proofs.YtloijdbkikccgaaDoor
set_option linter.unusedVariables false
set_option linter.unusedSimpArgs false
open Go.RowKit
def Bok (gb:Nat) (m:List Nat):Pr:=Ex fun vr:Value=>Star (Row 3 1 vr (PH.rows m).length (cellsN (PH.rows m))) (BkB gb m vr (PI.mostN m:Int))
set_option maxRecDepth 100000 in
theorem xsign_ok (gx gr gb:Nat) (l:List UInt8) (most at_:Nat) (vo vb:Value) (m:List Nat) {w0 w:World} {L:List Pr} (H:Sp w0 (Rr gr l at_::XpB gx gr vo most vb::Bok gb m::L) w) (ha:at_≤8 * l.length) (hl:l.length≤100000000) (hs:PH.sum m≤32768) (hm:m.length≤1024) :
  Calls Tryd.prog 133 #[.pointer (some ⟨gx,0,none⟩),.pointer (some ⟨gb,0,none⟩)] w fun e w' =>
   match PI.sign (PBits.ofB l) m at_ with
   | .error c=>e=.panicked (pan c)∧Sp w0 L w'
   | .ok r=>e=.returned (.int .i64 (r.2:Int))∧Sp w0 (Rr gr l r.1::XpB gx gr vo most vb::Bok gb m::L) w':=by
 have hmf:∀ (fn:Fn) (first cap:Array Value) (w:World),(Instr.makeFunc fn first cap).run Tryd.prog w=.ok (.func fn first cap) w:=fun _ _ _ _=>rfl
 have h7:=PI.next_facts m ((PBits.ofB l).drop at_) (PI.mostN m) (PI.mostN_le m)
 obtain ⟨T,hT⟩:∃ T,PH.nextFrom m ((PBits.ofB l).drop at_) (PI.mostN m) 0=T:=⟨_,rfl⟩
 rw [hT] at h7
 have hq:PI.sign (PBits.ofB l) m at_=if T.2.1=0 then .ok (at_+T.1,T.2.2) else .error T.2.1.toNat:=by unfold PI.sign; rw [hT]
 rw [hq]
 have HT:=Lib.hid hT
 have H7:=Lib.hid h7.2
 obtain ⟨vr,H⟩:=(H.pick 3 [2,0,1]).unex
 replace H:=H.unstar.pick 4 [2,3,0,1]
 have H1:=feedX_shut ((H.newBk [.pointer (some ⟨gx,0,none⟩)] 90).pick 5 [1,2,0,3,4])
 clear hT h7 hq
 have HL:=Lib.hid hl
 have HA:=Lib.hid ha
 by_cases h0:T.2.1=0
 ·rw [if_pos h0]
  show Calls _ _ _ _ fun e w'=>e=.returned (.int .i64 (T.2.2:Int))∧Sp w0 (Rr gr l (at_+T.1)::XpB gx gr vo most vb::Bok gb m::L) w'
  have h1:=xnext_ok gb w.heap.size gx gr l vo vb most vr m (PI.mostN m) (8 * l.length) at_ (PBits.ofB l) H1 (PBits.ofB_length l).symm rfl (by have:=HL.out; omega) HA.out (PI.mostN_le m) hs hm
  rw [HT.out,h0] at h1
  obtain ⟨t,ht⟩:∃ t,T.2.2=t:=⟨_,rfl⟩
  obtain ⟨q,hq⟩:∃ q,at_+T.1=q:=⟨_,rfl⟩
  rw [ht,hq] at h1
  rw [ht,hq]
  clear h0 ht hq HT H7
  have HN:=Lib.hid h1
  clear h1
  go_enter Tryd.func133,Tryd.ntmps133
  go_wp2_with fail
  refine HN.out.mono ?_
  rintro _ w1 ⟨rfl,H2⟩
  have H3:=(feedX_open H2).pick 5 [0,1,3,4]
  go_wp2_with fail
  refine (fail_ok w1).mono ?_
  rintro _ w2 ⟨rfl,rfl⟩
  go_wp2
  go_ret
  have H5:Sp w0 (Bok gb m::Rr gr l q::XpB gx gr vo most vb::L) w1:=Sp.ex vr (H3.pick 4 [2,3,0,1]).star
  exact ⟨rfl,H5.pick 3 [1,2,0]⟩
 ·rw [if_neg h0]
  have hc:∃ c:Nat,T.2.1=(c:Int)∧c≠0:=by
   rcases H7.out with h | h | h
   ·exact absurd h.1 h0
   ·exact ⟨4,h,by decide⟩
   ·exact ⟨20,h,by decide⟩
  obtain ⟨c,hc,hc0⟩:=hc
  have h1:=xnext_ok gb w.heap.size gx gr l vo vb most vr m (PI.mostN m) (8 * l.length) at_ (PBits.ofB l) H1 (PBits.ofB_length l).symm rfl (by have:=HL.out; omega) HA.out (PI.mostN_le m) hs hm
  rw [HT.out,hc] at h1
  rw [hc,show ((c:Int)).toNat=c from rfl]
  show Calls _ _ _ _ fun e w'=>e=.panicked (pan c)∧Sp w0 L w'
  obtain ⟨t,ht⟩:∃ t,T.2.2=t:=⟨_,rfl⟩
  obtain ⟨q,hq⟩:∃ q,at_+T.1=q:=⟨_,rfl⟩
  rw [ht,hq] at h1
  clear hc h0 HT H7 ht hq
  have HN:=Lib.hid h1
  clear h1
  go_enter Tryd.func133,Tryd.ntmps133
  go_wp2_with fail
  refine HN.out.mono ?_
  rintro _ w1 ⟨rfl,H2⟩
  have H3:=(feedX_open H2).pick 5 [0,1,3,4]
  go_wp2_with fail
  refine (fail_no c hc0 w1).mono ?_
  rintro _ w2 ⟨rfl,rfl⟩
  go_wp2
  exact ⟨rfl,rfl,H3.pick 4 []⟩
set_option linter.unusedVariables false
set_option linter.unusedSimpArgs false
open Go.RowKit
set_option maxRecDepth 100000 in
set_option maxHeartbeats 1000000 in
theorem xof_ok (gx gr:Nat) (l:List UInt8) (most at_ s:Nat) (vo vb:Value) (TA:Option Addr) (n c:Nat) (t:List (Nat × Nat)) {w0 w:World} {L:List Pr} (H:Sp w0 (Rr gr l at_::XpB gx gr vo most vb::L) w) (ha:at_≤8 * l.length) (hl:l.length≤100000000)
  (hT:Ent L fun w=>Rd w TA (cellsP t)) (hn:n=t.length) (ht:∀ p ∈ t,p.1≤100000∧p.2≤13) (hs:s≤1000000) :
  Calls Tryd.prog 135 #[.pointer (some ⟨gx,0,none⟩),.int .i64 (s:Int),.slice TA n c] w fun e w' =>
   match PI.count (PBits.ofB l) t s at_ with
   | .error c=>e=.panicked (pan c)∧Sp w0 L w'
   | .ok r=>e=.returned (.int .i64 (r.2:Int))∧Sp w0 (Rr gr l r.1::XpB gx gr vo most vb::L) w':=by
 by_cases hsl:s<t.length
 ·have hrd:∀ w,Rd w TA (cellsP t)→∃ ad,TA=some ad∧w.cell? (ad.add (s * 2))=some (.int .i64 ((t.getD s (0,0)).1:Int))∧w.cell? ⟨(ad.add (s * 2)).block,(ad.add (s * 2)).off+1,none⟩=some (.int .i64 ((t.getD s (0,0)).2:Int)):=fun w h=>rdP h hsl
  obtain ⟨ad,rfl,_,_⟩:=hrd w (hT _ _ H.tail2)
  have hcell:Ent L fun w=>w.cell? (ad.add (s * 2))=some (.int .i64 ((t.getD s (0,0)).1:Int))∧w.cell? ⟨(ad.add (s * 2)).block,(ad.add (s * 2)).off+1,none⟩=some (.int .i64 ((t.getD s (0,0)).2:Int)):=fun w0 w H=>by
   obtain ⟨ad2,e,h⟩:=hrd w (hT _ _ H)
   injection e with e
   rw [e]; exact h
  have hmem:t.getD s (0,0) ∈ t:=by
   rw [List.getD_eq_getElem?_getD,List.getElem?_eq_getElem hsl]
   exact List.getElem_mem hsl
  have hb:=ht _ hmem
  have hq:PI.count (PBits.ofB l) t s at_=(PI.number (PBits.ofB l) at_ (t.getD s (0,0)).2).bind fun r=>.ok (r.1,(t.getD s (0,0)).1+r.2):=by unfold PI.count; rw [if_pos hsl]
  rw [hq]
  obtain ⟨⟨f,k⟩,hfk⟩:∃ p,t.getD s (0,0)=p:=⟨_,rfl⟩
  rw [hfk] at hcell hb ⊢
  have HC:=Lib.hid hcell
  have hk57:k≤57:=by have:=hb.2; simp only at this; omega
  have hf:=hb.1
  simp only at hf
  have sn:(s:Int)<(n:Int):=by omega
  have sn2:¬ (s:Int)≥(n:Int):=by omega
  clear hcell hrd hmem hT hq hfk hb ht hn hsl
  show Calls _ _ _ _ fun e w'=>match (PI.number (PBits.ofB l) at_ k).bind fun r=>.ok (r.1,f+r.2) with
   | .error c=>e=.panicked (pan c)∧Sp w0 L w'
   | .ok r=>e=.returned (.int .i64 (r.2:Int))∧Sp w0 (Rr gr l r.1::XpB gx gr vo most vb::L) w'
  cases hr:PI.number (PBits.ofB l) at_ k with
  | error e =>
   have HR:=Lib.hid hr
   show Calls _ _ _ _ fun e' w'=>e'=.panicked (pan e)∧Sp w0 L w'
   clear hr
   go_enter Tryd.func135,Tryd.ntmps135
   go_wp2_with fail
   refine wp_region_sc (L:=L) [some (.slice (some ad) n c),some (.int .i64 (s:Int)),some (.pointer (some (ad.add (s * 2)))),some (.pointer (some (ad.add (s * 2)))),some (.int .i64 (f:Int)),some (.pointer (some ⟨gx,0,none⟩)),some (.slice (some ad) n c),some (.int .i64 (s:Int)),some (.pointer (some (ad.add (s * 2)))),some (.pointer (some ⟨(ad.add (s * 2)).block,(ad.add (s * 2)).off+1,none⟩)),some (.int .i64 (k:Int)),none,none,none] (fun ix vx=>match ix with | 11=>(fun _=>False) vx | _=>True) (fun _ _=>[]) (fun ix=>match ix with | 11=>[Rr gr l at_,XpB gx gr vo most vb] | _=>[]) 14 25
    [some 12,some 13,some 14,some 15,some 16,some 17,some 18,some 19,some 20,some 21,some 22,some 23,some 24,some 6]
    [[],[],[0,1],[2],[3],[],[],[],[6,7],[8],[9],[5,10],[4,11],[12,11,0,1,2,3,4,5,6,7,8,9,10,11,12]]
    [[],[],[0,1],[0,1,2],[0,1,2,3],[],[],[],[6,7],[6,7,8],[6,7,8,9],[5,6,7,8,9,10],[0,1,2,3,4,5,6,7,8,9,10,11],[0,1,2,3,4,5,6,7,8,9,10,11,12]]
    [[],[],[],[],[],[],[],[],[],[],[],[],[],[]] [[],[],[],[],[],[],[],[],[],[],[],[],[],[]] [(0,.pointer (some ⟨gx,0,none⟩)),(1,.int .i64 (s:Int)),(2,.slice (some ad) n c)]
    (by kernel_rfl) rfl (by decide) (by rfl) (by decide +kernel) rfl rfl (by simp) (H) ?hstep ?hend
   case hstep =>
    refine ⟨?p0,⟨?p1,⟨?p2,⟨?p3,⟨?p4,⟨?p5,⟨?p6,⟨?p7,⟨?p8,⟨?p9,⟨?p10,⟨?p11,⟨?p12,⟨?p13,trivial⟩⟩⟩⟩⟩⟩⟩⟩⟩⟩⟩⟩⟩⟩
    case p0 | p1 | p2 | p3 | p5 | p6 | p7 | p8 | p9 =>
     intro x wx A rest hDf hF hS hE H K hK
     replace hK:=Lib.hid hK
     clear hS hE hDf
     repeat (obtain ⟨_,hF⟩:=hF)
     change Oper.wp _ _ A wx K _
     go_step
     exact hK.out _ _ rfl H
    case p4 =>
     intro x wx A rest hDf hF hS hE H K hK0
     replace hDf:=Lib.hid hDf
     have e15:A.tmps[15]?.getD undef=.pointer (some (ad.add (s * 2))):=((hS 3 (by decide)).2 15 rfl).trans (hS 3 (by decide)).1
     replace H:Sp w0 (rest) wx:=H
     have hK:Hid (∀ (v:Value) (w' : World),v=.int .i64 (f:Int)→Sp w0 (rest) w'→K (A.put (some 16) v) w'):=Lib.hid hK0
     clear hK0 hF hS
     have hc:wx.cell? (ad.add (s * 2))=some (.int .i64 (f:Int))∧wx.cell? ⟨(ad.add (s * 2)).block,(ad.add (s * 2)).off+1,none⟩=some (.int .i64 (k:Int)):=hE (fun w=>w.cell? (ad.add (s * 2))=some (.int .i64 (f:Int))∧w.cell? ⟨(ad.add (s * 2)).block,(ad.add (s * 2)).off+1,none⟩=some (.int .i64 (k:Int))) HC.out _ _ H
     have c1:=hc.1
     clear hc
     change Oper.wp _ _ A wx K _
     go_step
     exact hK.out _ _ rfl (H)
    case p10 =>
     intro x wx A rest hDf hF hS hE H K hK0
     replace hDf:=Lib.hid hDf
     have e21:A.tmps[21]?.getD undef=.pointer (some ⟨(ad.add (s * 2)).block,(ad.add (s * 2)).off+1,none⟩):=((hS 9 (by decide)).2 21 rfl).trans (hS 9 (by decide)).1
     replace H:Sp w0 (rest) wx:=H
     have hK:Hid (∀ (v:Value) (w' : World),v=.int .i64 (k:Int)→Sp w0 (rest) w'→K (A.put (some 22) v) w'):=Lib.hid hK0
     clear hK0 hF hS
     have hc:wx.cell? (ad.add (s * 2))=some (.int .i64 (f:Int))∧wx.cell? ⟨(ad.add (s * 2)).block,(ad.add (s * 2)).off+1,none⟩=some (.int .i64 (k:Int)):=hE (fun w=>w.cell? (ad.add (s * 2))=some (.int .i64 (f:Int))∧w.cell? ⟨(ad.add (s * 2)).block,(ad.add (s * 2)).off+1,none⟩=some (.int .i64 (k:Int))) HC.out _ _ H
     have c1:=hc.2
     clear hc
     change Oper.wp _ _ A wx K _
     go_step
     exact hK.out _ _ rfl (H)
    case p11 =>
     intro x wx A rest hDf hF hS hE H K hK0
     replace hDf:=Lib.hid hDf
     have e17:A.tmps[17]?.getD undef=.pointer (some ⟨gx,0,none⟩):=((hS 5 (by decide)).2 17 rfl).trans (hS 5 (by decide)).1
     have e22:A.tmps[22]?.getD undef=.int .i64 (k:Int):=((hS 10 (by decide)).2 22 rfl).trans (hS 10 (by decide)).1
     replace H:Sp w0 ((Rr gr l at_)::(XpB gx gr vo most vb)::rest) wx:=H
     have hK:Hid (∀ (v:Value) (w' : World),False→Sp w0 (rest) w'→K (A.put (some 23) v) w'):=Lib.hid hK0
     clear hK0 hF hS
     change Oper.wp _ _ A wx K _
     go_wp2_with fail
     have h9:=xnum_ok gx gr l most at_ k vo vb H (by omega) hk57 (by omega)
     rw [HR.out] at h9
     refine h9.mono ?_
     clear h9
     rintro _ w9 ⟨rfl,H9⟩
     go_wp2
     exact ⟨hDf.out,rfl,H9.sub hE⟩
    case p12 =>
     intro x wx A rest hDf hF hS hE H K hK0
     replace hDf:=Lib.hid hDf
     have e16:A.tmps[16]?.getD undef=.int .i64 (f:Int):=((hS 4 (by decide)).2 16 rfl).trans (hS 4 (by decide)).1
     have q23:False:=(hS 11 (by decide)).1
     have e23:A.tmps[23]?.getD undef=x 11:=(hS 11 (by decide)).2 23 rfl
     replace H:Sp w0 (rest) wx:=H
     have hK:Hid (∀ (v:Value) (w' : World),True→Sp w0 (rest) w'→K (A.put (some 24) v) w'):=Lib.hid hK0
     clear hK0 hF
     exact ((hS 11 (by decide)).1:False).elim
    case p13 =>
     intro x wx A rest hDf hF hS hE H K hK0
     replace hDf:=Lib.hid hDf
     have q24:True:=(hS 12 (by decide)).1
     have e24:A.tmps[24]?.getD undef=x 12:=(hS 12 (by decide)).2 24 rfl
     replace H:Sp w0 (rest) wx:=H
     have hK:Hid (∀ (v:Value) (w' : World),True→Sp w0 (rest) w'→K (A.put (some 6) v) w'):=Lib.hid hK0
     clear hK0 hF
     exact ((hS 11 (by decide)).1:False).elim
   case hend =>
    intro x wx A hA hS H
    replace H:Sp w0 (L) wx:=H
    have y11:False:=hS 11 (by decide)
    clear hS
    simp only [putAll,Act.put,List.setIfInBounds_toArray,List.set_cons_succ,List.set_cons_zero,Nat.reduceAdd] at hA
    subst hA
    exact y11.elim
  | ok r =>
   obtain ⟨hr1,hr2⟩:=PI.number_ok hr
   subst hr1
   have hv:=PI.numAt_small (PBits.ofB l) at_ k 57 hk57
   obtain ⟨nn,hv2⟩:∃ v,PI.numAt (PBits.ofB l) at_ k=v:=⟨_,rfl⟩
   rw [hv2] at hr hv ⊢
   have HR:=Lib.hid hr
   obtain ⟨fv,hfv⟩:∃ fv,f+nn=fv:=⟨_,rfl⟩
   show Calls _ _ _ _ fun e w'=>e=.returned (.int .i64 ((f+nn:Nat):Int))∧Sp w0 (Rr gr l (at_+k)::XpB gx gr vo most vb::L) w'
   rw [hfv]
   have e3:(f:Int)+(nn:Int)=(fv:Int):=by omega
   have hfv2:fv<9000000000000000000:=by omega
   clear hr hv2 hfv
   go_enter Tryd.func135,Tryd.ntmps135
   go_wp2_with fail
   refine wp_region_sc (L:=L) [some (.slice (some ad) n c),some (.int .i64 (s:Int)),some (.pointer (some (ad.add (s * 2)))),some (.pointer (some (ad.add (s * 2)))),some (.int .i64 (f:Int)),some (.pointer (some ⟨gx,0,none⟩)),some (.slice (some ad) n c),some (.int .i64 (s:Int)),some (.pointer (some (ad.add (s * 2)))),some (.pointer (some ⟨(ad.add (s * 2)).block,(ad.add (s * 2)).off+1,none⟩)),some (.int .i64 (k:Int)),some (.int .i64 (nn:Int)),some (.int .i64 (fv:Int)),some (.int .i64 (fv:Int))] (fun _ _=>True) (fun ix vx=>match ix with | 11=>(fun _=>[Rr gr l (at_+k),XpB gx gr vo most vb]) vx | _=>[]) (fun ix=>match ix with | 11=>[Rr gr l at_,XpB gx gr vo most vb] | _=>[]) 14 25
    [some 12,some 13,some 14,some 15,some 16,some 17,some 18,some 19,some 20,some 21,some 22,some 23,some 24,some 6]
    [[],[],[0,1],[2],[3],[],[],[],[6,7],[8],[9],[5,10],[4,11],[12,11,0,1,2,3,4,5,6,7,8,9,10,11,12]]
    [[],[],[0,1],[0,1,2],[0,1,2,3],[],[],[],[6,7],[6,7,8],[6,7,8,9],[5,6,7,8,9,10],[0,1,2,3,4,5,6,7,8,9,10,11],[0,1,2,3,4,5,6,7,8,9,10,11,12]]
    [[],[],[],[],[],[],[],[],[],[],[],[],[],[]] [[],[],[],[],[],[],[],[],[],[],[],[],[],[]] [(0,.pointer (some ⟨gx,0,none⟩)),(1,.int .i64 (s:Int)),(2,.slice (some ad) n c)]
    (by kernel_rfl) rfl (by decide) (by rfl) (by decide +kernel) rfl rfl (by simp) (H) ?hstep ?hend
   case hstep =>
    refine ⟨?p0,⟨?p1,⟨?p2,⟨?p3,⟨?p4,⟨?p5,⟨?p6,⟨?p7,⟨?p8,⟨?p9,⟨?p10,⟨?p11,⟨?p12,⟨?p13,trivial⟩⟩⟩⟩⟩⟩⟩⟩⟩⟩⟩⟩⟩⟩
    case p0 | p1 | p2 | p3 | p5 | p6 | p7 | p8 | p9 | p12 | p13 =>
     intro x wx A rest hDf hF hS hE H K hK
     replace hK:=Lib.hid hK
     clear hS hE hDf
     repeat (obtain ⟨_,hF⟩:=hF)
     change Oper.wp _ _ A wx K _
     go_step
     exact hK.out _ _ rfl H
    case p4 =>
     intro x wx A rest hDf hF hS hE H K hK0
     replace hDf:=Lib.hid hDf
     have e15:A.tmps[15]?.getD undef=.pointer (some (ad.add (s * 2))):=((hS 3 (by decide)).2 15 rfl).trans (hS 3 (by decide)).1
     replace H:Sp w0 (rest) wx:=H
     have hK:Hid (∀ (v:Value) (w' : World),v=.int .i64 (f:Int)→Sp w0 (rest) w'→K (A.put (some 16) v) w'):=Lib.hid hK0
     clear hK0 hF hS
     have hc:wx.cell? (ad.add (s * 2))=some (.int .i64 (f:Int))∧wx.cell? ⟨(ad.add (s * 2)).block,(ad.add (s * 2)).off+1,none⟩=some (.int .i64 (k:Int)):=hE (fun w=>w.cell? (ad.add (s * 2))=some (.int .i64 (f:Int))∧w.cell? ⟨(ad.add (s * 2)).block,(ad.add (s * 2)).off+1,none⟩=some (.int .i64 (k:Int))) HC.out _ _ H
     have c1:=hc.1
     clear hc
     change Oper.wp _ _ A wx K _
     go_step
     exact hK.out _ _ rfl (H)
    case p10 =>
     intro x wx A rest hDf hF hS hE H K hK0
     replace hDf:=Lib.hid hDf
     have e21:A.tmps[21]?.getD undef=.pointer (some ⟨(ad.add (s * 2)).block,(ad.add (s * 2)).off+1,none⟩):=((hS 9 (by decide)).2 21 rfl).trans (hS 9 (by decide)).1
     replace H:Sp w0 (rest) wx:=H
     have hK:Hid (∀ (v:Value) (w' : World),v=.int .i64 (k:Int)→Sp w0 (rest) w'→K (A.put (some 22) v) w'):=Lib.hid hK0
     clear hK0 hF hS
     have hc:wx.cell? (ad.add (s * 2))=some (.int .i64 (f:Int))∧wx.cell? ⟨(ad.add (s * 2)).block,(ad.add (s * 2)).off+1,none⟩=some (.int .i64 (k:Int)):=hE (fun w=>w.cell? (ad.add (s * 2))=some (.int .i64 (f:Int))∧w.cell? ⟨(ad.add (s * 2)).block,(ad.add (s * 2)).off+1,none⟩=some (.int .i64 (k:Int))) HC.out _ _ H
     have c1:=hc.2
     clear hc
     change Oper.wp _ _ A wx K _
     go_step
     exact hK.out _ _ rfl (H)
    case p11 =>
     intro x wx A rest hDf hF hS hE H K hK0
     replace hDf:=Lib.hid hDf
     have e17:A.tmps[17]?.getD undef=.pointer (some ⟨gx,0,none⟩):=((hS 5 (by decide)).2 17 rfl).trans (hS 5 (by decide)).1
     have e22:A.tmps[22]?.getD undef=.int .i64 (k:Int):=((hS 10 (by decide)).2 22 rfl).trans (hS 10 (by decide)).1
     replace H:Sp w0 ((Rr gr l at_)::(XpB gx gr vo most vb)::rest) wx:=H
     have hK:Hid (∀ (v:Value) (w' : World),v=.int .i64 (nn:Int)→Sp w0 ((Rr gr l (at_+k))::(XpB gx gr vo most vb)::rest) w'→K (A.put (some 23) v) w'):=Lib.hid hK0
     clear hK0 hF hS hE
     change Oper.wp _ _ A wx K _
     go_wp2_with fail
     have h9:=xnum_ok gx gr l most at_ k vo vb H (by omega) hk57 (by omega)
     rw [HR.out] at h9
     refine h9.mono ?_
     clear h9
     rintro _ w9 ⟨rfl,H9⟩
     exact hK.out _ _ rfl H9
   case hend =>
    intro x wx A hA hS H
    replace H:Sp w0 ((Rr gr l (at_+k))::(XpB gx gr vo most vb)::L) wx:=H
    have y13:x 13=.int .i64 (fv:Int):=hS 13 (by decide)
    clear hS
    simp only [putAll,Act.put,List.setIfInBounds_toArray,List.set_cons_succ,List.set_cons_zero,Nat.reduceAdd] at hA
    subst hA
    rw [y13]
    go_wp2
    go_ret
    exact ⟨rfl,H⟩
 ·have hq:PI.count (PBits.ofB l) t s at_=.error 20:=by unfold PI.count; rw [if_neg hsl]
  rw [hq]
  have sn2:(s:Int)≥(n:Int):=by omega
  show Calls _ _ _ _ fun e w'=>e=.panicked (pan 20)∧Sp w0 L w'
  clear hT
  go_enter Tryd.func135,Tryd.ntmps135
  go_wp2
  exact ⟨rfl,rfl,H.tail2⟩
structure Tabs (TL TA:Option Addr) (cl ca:Nat) (w:World):Prop where
 long:w.cell? ⟨5,0,none⟩=some (.slice TL 28 cl)
 longs:Rd w TL (cellsP PI.lengthsT)
 far:w.cell? ⟨3,0,none⟩=some (.slice TA 30 ca)
 fars:Rd w TA (cellsP PI.awayT)
 order:∀ i,i<19→w.cell? ⟨4,i,none⟩=some (.int .i64 (PI.orderT.getD i 0:Nat))
theorem Tabs.heap {TL TA:Option Addr} {cl ca:Nat} {W w:World} (h:Tabs TL TA cl ca W) (hs:∀ b,b<W.heap.size→w.heap[b]?=W.heap[b]?):Tabs TL TA cl ca w:=by
 have hc:∀ (p:Addr) u,W.cell? p=some u→w.cell? p=some u:=fun p u hp=>by
  rw [← hp]; exact World.cell?_of_block (hs p.block (cell_lt hp))
 exact ⟨hc _ _ h.long,h.longs.keep fun p u _ hp=>by rw [hp]; exact hc _ _ hp,hc _ _ h.far,h.fars.keep fun p u _ hp=>by rw [hp]; exact hc _ _ hp,fun i hi=>hc _ _ (h.order i hi)⟩
theorem lengthsT_le:∀ p ∈ PI.lengthsT,p.1≤100000∧p.2≤13:=by decide
theorem awayT_le:∀ p ∈ PI.awayT,p.1≤100000∧p.2≤13:=by decide
set_option maxRecDepth 100000 in
theorem xlen_ok (gx gr:Nat) (l:List UInt8) (most at_ s:Nat) (vo vb:Value) (TL TA:Option Addr) (cl ca:Nat) {w0 w:World} {L:List Pr} (H:Sp w0 (Rr gr l at_::XpB gx gr vo most vb::L) w) (ha:at_≤8 * l.length) (hl:l.length≤100000000)
  (hT:Ent L (Tabs TL TA cl ca)) (hs:s≤1000000) :
  Calls Tryd.prog 134 #[.pointer (some ⟨gx,0,none⟩),.int .i64 (s:Int)] w fun e w' =>
   match PI.length (PBits.ofB l) s at_ with
   | .error c=>e=.panicked (pan c)∧Sp w0 L w'
   | .ok r=>e=.returned (.int .i64 (r.2:Int))∧Sp w0 (Rr gr l r.1::XpB gx gr vo most vb::L) w':=by
 by_cases h28:s=28
 ·subst h28
  show Calls _ _ _ _ fun e w'=>e=.returned (.int .i64 258)∧Sp w0 (Rr gr l at_::XpB gx gr vo most vb::L) w'
  clear hT
  go_enter Tryd.func134,Tryd.ntmps134
  go_wp2
  go_ret
  exact ⟨rfl,H⟩
 ·have hq:PI.length (PBits.ofB l) s at_=PI.count (PBits.ofB l) PI.lengthsT s at_:=by unfold PI.length; rw [if_neg h28]
  rw [hq]
  have n1:¬ (s:Int)=28:=by omega
  have c5:=(hT _ _ H.tail2).long
  have h1:=xof_ok gx gr l most at_ s vo vb TL 28 cl PI.lengthsT H ha hl (fun w0 w h=>(hT w0 w h).longs) rfl lengthsT_le hs
  have H1:=Lib.hid h1
  clear h1 hT hq
  cases hr:PI.count (PBits.ofB l) PI.lengthsT s at_ with
  | error c =>
   rw [hr] at H1
   show Calls _ _ _ _ fun e w'=>e=.panicked (pan c)∧Sp w0 L w'
   clear hr
   go_enter Tryd.func134,Tryd.ntmps134
   go_wp2_with fail
   refine H1.out.mono ?_
   rintro _ w1 ⟨rfl,H2⟩
   go_wp2
   exact ⟨rfl,rfl,H2⟩
  | ok r =>
   rw [hr] at H1
   obtain ⟨r1,r2⟩:=r
   show Calls _ _ _ _ fun e w'=>e=.returned (.int .i64 (r2:Int))∧Sp w0 (Rr gr l r1::XpB gx gr vo most vb::L) w'
   clear hr
   go_enter Tryd.func134,Tryd.ntmps134
   go_wp2_with fail
   refine H1.out.mono ?_
   rintro _ w1 ⟨rfl,H2⟩
   go_wp2_with fail
   go_ret
   exact ⟨rfl,H2⟩
set_option linter.unusedVariables false
set_option linter.unusedSimpArgs false
open Go.ChangeShapes Go.WideShapes Go.ChangeAt Go.RowKit Go.Lib
def pairData (l:List (Nat × Nat)):DataW Unit:=.slice (l.map fun x=>.agg [.lit (.int .i64 (x.1:Int)),.lit (.int .i64 (x.2:Int))]) []
theorem pairs_of_reads {P:Program} {w:World} {name:String} {g:Nat} {t e:TypeId} {f0 f1:Field} {l:List (Nat × Nat)} (hn:P.globalNamed name=some g) (hy:(P.globals[g]?).map (·.type)=some t)
  (ht:P.underlying t=some (.slice e)) (he:P.underlying e=some (.struct #[f0,f1])) (hc:P.cellsOf e=2) (h0:P.underlying f0.type=some (.int .i64)) (h1:P.underlying f1.type=some (.int .i64))
  (hf0:f0.offset=0∧P.cellsOf f0.type=1) (hf1:f1.offset=1∧P.cellsOf f1.type=1) (hl:0<l.length) (h:VarReads P w name (pairData l)) :
  ∃ A c,w.cell? ⟨g,0,none⟩=some (.slice A l.length c)∧Rd w A (cellsP l):=by
 obtain ⟨g',t',cs,fuel,p,hg,hty,hvar,hd⟩:=h
 obtain rfl:=Option.some.inj (hn.symm.trans hg)
 obtain rfl:=Option.some.inj (hy.symm.trans hty)
 rcases DataW.trod_slice ht hd with ⟨_,hx⟩ | ⟨a,len,cap,el,rs,m,rfl,hcs,hx,_,hlc,_,hel,helem,hsp,_⟩
 ·cases hx
 have e0:=congrArg Prod.fst hx
 simp only [pairData,DataW.slice.injEq] at e0
 obtain ⟨eE,eR⟩:=e0
 have hlen:len=l.length:=by
  have:=congrArg List.length eE
  simp at this
  omega
 have hcell:∀ i,i<l.length→w.cell? (a.add (i * 2))=some (.int .i64 ((l.getD i (0,0)).1:Nat))∧w.cell? (a.add (i * 2+1))=some (.int .i64 ((l.getD i (0,0)).2:Nat)):=by
  intro i hi
  have h9:=helem i (by omega)
  rw [hc] at h9
  obtain ⟨b,hb⟩:∃ b,el[i]?=some b:=⟨el[i]'(by omega),List.getElem?_eq_getElem (by omega)⟩
  rw [hb] at h9
  obtain ⟨ce,hce,hte⟩:=Option.bind_eq_some_iff.1 h9
  obtain ⟨xs,n,_,hbx,hcl,hlen2,hf⟩:=DataW.trod_struct he hte
  have hb1:b.1=.agg [.lit (.int .i64 ((l.getD i (0,0)).1:Nat)),.lit (.int .i64 ((l.getD i (0,0)).2:Nat))]:=by
   have:=congrArg (·[i]?) eE
   simp [hb,hi,List.getD] at this
   have e2:l.getD i (0,0)=l[i]:=by simp [List.getD,List.getElem?_eq_getElem hi]
   rw [e2]
   exact this.symm
  rw [hc] at hcl
  obtain ⟨_,_,hat⟩:=World.cells?_some hce
  match ce,hcl,xs,hlen2 with
  | [c0,c1],_,[y0,y1],_ =>
   have g0:=hf 0 f0 rfl
   have g1:=hf 1 f1 rfl
   rw [hf0.1,hf0.2] at g0
   rw [hf1.1,hf1.2] at g1
   replace g0:DataW.trod _ P w 0 (fun _=>true) false n f0.type [c0]=some y0:=g0
   replace g1:DataW.trod _ P w 0 (fun _=>true) false n f1.type [c1]=some y1:=g1
   obtain ⟨z0,q0,d0,_⟩:=DataW.trod_int h0 g0
   obtain ⟨z1,q1,d1,_⟩:=DataW.trod_int h1 g1
   rw [hbx] at hb1
   simp only [List.map_cons,List.map_nil,DataW.agg.injEq,List.cons.injEq,and_true] at hb1
   obtain ⟨k0,k1⟩:=hb1
   rw [d0] at k0
   rw [d1] at k1
   simp only [DataW.lit.injEq,Lit.int.injEq,true_and] at k0 k1
   replace q0:c0=.int .i64 z0:=by simpa using q0
   replace q1:c1=.int .i64 z1:=by simpa using q1
   have a0:=hat 0 (by simp)
   have a1:=hat 1 (by simp)
   rw [Go.Addr.add_add] at a0 a1
   refine ⟨?_,?_⟩
   ·rw [← k0,← q0]; simpa using a0
   ·rw [← k1,← q1]; simpa using a1
 obtain ⟨R,o,sR⟩:=a
 refine ⟨some ⟨R,o,sR⟩,cap,?_,fun _=>⟨_,rfl,fun j u hj=>?_⟩⟩
 ·rw [World.var?_cell hg hvar 0,← Array.getElem?_toList,hcs,hlen]
  rfl
 ·have hj2:j<l.length * 2:=by
   have:=(List.getElem?_eq_some_iff.1 hj).1
   rwa [cellsP_len] at this
  have hg2:=cellsP_get l (j / 2) (by omega)
  have hc2:=hcell (j / 2) (by omega)
  by_cases hpar:j % 2=0
  ·have e:j / 2 * 2=j:=by omega
   rw [e] at hg2 hc2
   rw [hc2.1,← hg2.1,hj]
  ·have e:j / 2 * 2+1=j:=by omega
   rw [e] at hg2 hc2
   rw [hc2.2,← hg2.2,hj]
theorem gOrd : Tryd.prog.globalNamed "portolan/inflate.order" = some 4 := by kernel_rfl
theorem tOrd:(Tryd.prog.globals[4]?).map (·.type)=some 102:=by kernel_rfl
theorem gLen : Tryd.prog.globalNamed "portolan/inflate.lengths" = some 5 := by kernel_rfl
theorem tLen:(Tryd.prog.globals[5]?).map (·.type)=some 219:=by kernel_rfl
theorem gAwy : Tryd.prog.globalNamed "portolan/inflate.away" = some 3 := by kernel_rfl
theorem tAwy:(Tryd.prog.globals[3]?).map (·.type)=some 219:=by kernel_rfl
def ordZ:List Int:=PI.orderT.map fun n:Nat=>(n:Int)
set_option linter.unusedVariables false
set_option linter.unusedSimpArgs false
open Go.ChangeShapes Go.WideShapes Go.ChangeAt Go.RowKit Go.Lib
theorem tab_of_reads {P:Program} {w:World} {name:String} {k:IntKind} {zs:List Int} {g:Nat} {t e:TypeId} {n:Nat}
  (hg:P.globalNamed name=some g) (hy:(P.globals[g]?).map (·.type)=some t) (ht:P.underlying t=some (.array n e)) (he:P.underlying e=some (.int k)) (hce:P.cellsOf e=1) (hct:P.cellsOf t=n)
  (h:VarReads P w name (Lib.tabData k zs)):Lib.TabIs P w name k zs:=by
 obtain ⟨g',t',cs,fuel,p,hg',hty,hvar,hd⟩:=h
 obtain rfl:=Option.some.inj (hg.symm.trans hg')
 obtain rfl:=Option.some.inj (hy.symm.trans hty)
 have h1:=Lib.cells_of_tab ht he hce hct hd
 unfold Lib.TabIs
 rw [hvar,← h1]
theorem gDOrd : Tryd.prog.globalNamed "portolan/deflate.order" = some 2 := by kernel_rfl
theorem tDOrd:(Tryd.prog.globals[2]?).map (·.type)=some 102:=by kernel_rfl
theorem gDLen : Tryd.prog.globalNamed "portolan/deflate.longs" = some 0 := by kernel_rfl
theorem tDLen:(Tryd.prog.globals[0]?).map (·.type)=some 89:=by kernel_rfl
theorem gDAwy : Tryd.prog.globalNamed "portolan/deflate.fars" = some 1 := by kernel_rfl
theorem tDAwy:(Tryd.prog.globals[1]?).map (·.type)=some 89:=by kernel_rfl
theorem dtabs_of_reads {W : World} (ho : VarReads Tryd.prog W "portolan/deflate.order" (Lib.tabData .i64 ordZ)) (hl : VarReads Tryd.prog W "portolan/deflate.longs" (pairData PD.longT)) (ha : VarReads Tryd.prog W "portolan/deflate.fars" (pairData PI.awayT)) : ∃ DL DF dl df, DTabs DL DF dl df W := by
 have hT:=tab_of_reads (k:=.i64) (zs:=ordZ) gDOrd tDOrd Tryd.underlying102 Tryd.underlying3 (by kernel_rfl) (by kernel_rfl) ho
 obtain ⟨TL,cl,e1,e2⟩:=pairs_of_reads gDLen tDLen Tryd.underlying89 Tryd.underlying86 (by kernel_rfl) Tryd.underlying3 Tryd.underlying3 ⟨rfl,by kernel_rfl⟩ ⟨rfl,by kernel_rfl⟩ (by decide) hl
 obtain ⟨TA,ca,e3,e4⟩:=pairs_of_reads gDAwy tDAwy Tryd.underlying89 Tryd.underlying86 (by kernel_rfl) Tryd.underlying3 Tryd.underlying3 ⟨rfl,by kernel_rfl⟩ ⟨rfl,by kernel_rfl⟩ (by decide) ha
 refine ⟨TL,TA,cl,ca,e1,e2,e3,e4,fun i hi=>?_⟩
 have:=hT.cell gDOrd i (by simpa [ordZ,PI.orderT] using hi)
 rw [this]
 have:∀ i,i<19→ordZ.getD i 0=((PI.orderT.getD i 0:Nat):Int):=by decide
 rw [this i hi]
theorem itabs_of_reads {W : World} (ho : VarReads Tryd.prog W "portolan/inflate.order" (Lib.tabData .i64 ordZ)) (hl : VarReads Tryd.prog W "portolan/inflate.lengths" (pairData PI.lengthsT)) (ha : VarReads Tryd.prog W "portolan/inflate.away" (pairData PI.awayT)) : ∃ TL TA cl ca, Tabs TL TA cl ca W := by
 have hT:=tab_of_reads (k:=.i64) (zs:=ordZ) gOrd tOrd Tryd.underlying102 Tryd.underlying3 (by kernel_rfl) (by kernel_rfl) ho
 obtain ⟨TL,cl,e1,e2⟩:=pairs_of_reads gLen tLen Tryd.underlying219 Tryd.underlying244 (by kernel_rfl) Tryd.underlying3 Tryd.underlying3 ⟨rfl,by kernel_rfl⟩ ⟨rfl,by kernel_rfl⟩ (by decide) hl
 obtain ⟨TA,ca,e3,e4⟩:=pairs_of_reads gAwy tAwy Tryd.underlying219 Tryd.underlying244 (by kernel_rfl) Tryd.underlying3 Tryd.underlying3 ⟨rfl,by kernel_rfl⟩ ⟨rfl,by kernel_rfl⟩ (by decide) ha
 refine ⟨TL,TA,cl,ca,e1,e2,e3,e4,fun i hi=>?_⟩
 have:=hT.cell gOrd i (by simpa [ordZ,PI.orderT] using hi)
 rw [this]
 have:∀ i,i<19→ordZ.getD i 0=((PI.orderT.getD i 0:Nat):Int):=by decide
 rw [this i hi]
theorem laid6 {W : World} (h : laidMetH Tryd.prog [("portolan/deflate.order", Rows.laid_portolan_deflate_order), ("portolan/deflate.longs", Rows.laid_portolan_deflate_longs), ("portolan/deflate.fars", Rows.laid_portolan_deflate_fars), ("portolan/inflate.order", Rows.laid_portolan_inflate_order), ("portolan/inflate.lengths", Rows.laid_portolan_inflate_lengths), ("portolan/inflate.away", Rows.laid_portolan_inflate_away)] W) : (∃ TL TA cl ca, Tabs TL TA cl ca W) ∧ ∃ DL DF dl df, DTabs DL DF dl df W := by
 rw [MakeChecks.laidMetH_plain _ _ _ (by kernel_rfl)] at h
 have h0 : VarReads Tryd.prog W "portolan/deflate.order" (Lib.tabData .i64 ordZ) := laidMet.reads h (by simp only [List.mem_cons]; exact .inl rfl)
 have h1 : VarReads Tryd.prog W "portolan/deflate.longs" (pairData PD.longT) := laidMet.reads h (by simp only [List.mem_cons]; exact .inr (.inl rfl))
 have h2 : VarReads Tryd.prog W "portolan/deflate.fars" (pairData PI.awayT) := laidMet.reads h (by simp only [List.mem_cons]; exact .inr (.inr (.inl rfl)))
 have h3 : VarReads Tryd.prog W "portolan/inflate.order" (Lib.tabData .i64 ordZ) := laidMet.reads h (by simp only [List.mem_cons]; exact .inr (.inr (.inr (.inl rfl))))
 have h4 : VarReads Tryd.prog W "portolan/inflate.lengths" (pairData PI.lengthsT) := laidMet.reads h (by simp only [List.mem_cons]; exact .inr (.inr (.inr (.inr (.inl rfl)))))
 have h5 : VarReads Tryd.prog W "portolan/inflate.away" (pairData PI.awayT) := laidMet.reads h (by simp only [List.mem_cons]; exact .inr (.inr (.inr (.inr (.inr (.inl rfl))))))
 exact ⟨itabs_of_reads h3 h4 h5,dtabs_of_reads h0 h1 h2⟩
theorem laid3 {W : World} (h : laidMetH Tryd.prog [("portolan/deflate.order", Rows.laid_portolan_deflate_order), ("portolan/deflate.longs", Rows.laid_portolan_deflate_longs), ("portolan/deflate.fars", Rows.laid_portolan_deflate_fars)] W) : ∃ DL DF dl df, DTabs DL DF dl df W := by
 rw [MakeChecks.laidMetH_plain _ _ _ (by kernel_rfl)] at h
 have h0 : VarReads Tryd.prog W "portolan/deflate.order" (Lib.tabData .i64 ordZ) := laidMet.reads h (by simp only [List.mem_cons]; exact .inl rfl)
 have h1 : VarReads Tryd.prog W "portolan/deflate.longs" (pairData PD.longT) := laidMet.reads h (by simp only [List.mem_cons]; exact .inr (.inl rfl))
 have h2 : VarReads Tryd.prog W "portolan/deflate.fars" (pairData PI.awayT) := laidMet.reads h (by simp only [List.mem_cons]; exact .inr (.inr (.inl rfl)))
 exact dtabs_of_reads h0 h1 h2
set_option linter.unusedVariables false
set_option linter.unusedSimpArgs false
namespace PD
abbrev Wd:=Nat × Nat × Nat × Nat
def wd (s:PM.St):List Wd:=if s.1=0 then [(0,s.2.2.toNat,0,0)] else [(0,257+(PI.longS s.1).1,(PI.longS s.1).2.1,(PI.longS s.1).2.2),(1,(PI.farS s.2.1).1,(PI.farS s.2.1).2.1,(PI.farS s.2.1).2.2)]
def wds (Y:List PM.St):List Wd:=Y.flatMap wd
def words (Y:List PM.St):List Wd:=wds Y++[(0,256,0,0)]
def signsOf (b:Nat) (l:List Wd):List Nat:=(l.filter fun t=>t.1 == b).map fun t=>t.2.1
def wW (A B:List Nat) (t:Wd):List Bool:=PI.sayW (if t.1=0 then A else B) t.2.1 t.2.2.2 t.2.2.1
def layW (A B:List Nat) (l:List Wd):List Bool:=l.flatMap (wW A B)
def costW (A B:List Nat) (l:List Wd):Nat:=(l.map fun t=>(if t.1=0 then A else B).getD t.2.1 0+t.2.2.1).sum
theorem wW_len (A B:List Nat) (t:Wd):(wW A B t).length=(if t.1=0 then A else B).getD t.2.1 0+t.2.2.1:=by
 unfold wW PI.sayW
 rw [List.length_append,PI.codeW_len,PBits.bitsOf_length]
theorem layW_len (A B:List Nat) (l:List Wd):(layW A B l).length=costW A B l:=by
 unfold layW costW
 rw [List.length_flatMap]
 congr 1
 exact List.map_congr_left fun t _=>wW_len A B t
theorem wds_cons (s:PM.St) (l:List PM.St):wds (s::l)=wd s++wds l:=rfl
theorem signsOf_app (b:Nat) (u v:List Wd):signsOf b (u++v)=signsOf b u++signsOf b v:=by unfold signsOf; rw [List.filter_append,List.map_append]
theorem signs0 (Y:List PM.St):signsOf 0 (words Y)=PI.symsOf (toks Y):=by
 unfold words
 induction Y with
 | nil=>rfl
 | cons s l ih =>
  rw [wds_cons,List.append_assoc,signsOf_app,ih]
  show _=PI.symsOf (tokOf s::toks l)
  unfold wd tokOf
  split <;> rfl
theorem signs1 (Y:List PM.St):signsOf 1 (words Y)=PI.farsOf (toks Y):=by
 unfold words
 induction Y with
 | nil=>rfl
 | cons s l ih =>
  rw [wds_cons,List.append_assoc,signsOf_app,ih]
  show _=PI.farsOf (tokOf s::toks l)
  unfold wd tokOf
  split <;> rfl
theorem sayW_plain (m:List Nat) (s:Nat):PI.sayW m s 0 0=PI.codeW m s:=by
 unfold PI.sayW
 show _++[]=_
 rw [List.append_nil]
theorem layW_app (A B:List Nat) (u v:List Wd):layW A B (u++v)=layW A B u++layW A B v:=by unfold layW; rw [List.flatMap_append]
theorem lay_words (A B:List Nat) (Y:List PM.St):layW A B (words Y)=PI.toksW A B (toks Y):=by
 unfold words PI.toksW
 induction Y with
 | nil =>
  show wW A B (0,256,0,0)++[]=[]++PI.codeW A 256
  rw [List.append_nil,List.nil_append]
  exact sayW_plain A 256
 | cons s l ih =>
  rw [wds_cons,List.append_assoc,layW_app,ih]
  show _=(tokOf s::toks l).flatMap _++_
  rw [List.flatMap_cons,List.append_assoc]
  congr 1
  unfold wd tokOf
  split
  ·show wW A B (0,s.2.2.toNat,0,0)++[]=PI.codeW A s.2.2.toNat
   rw [List.append_nil]
   exact sayW_plain A _
  ·show wW A B _++(wW A B _++[])=_
   rw [List.append_nil]
   rfl
def rwd (t:Nat × Nat):Wd:=(0,t.1,PI.tellB t.1,t.2)
theorem lay_row (F:List Nat) (l:List (Nat × Nat)):layW F [] (l.map rwd)=PI.tellsW F l:=by
 unfold layW PI.tellsW
 rw [List.flatMap_map]
 rfl
theorem signs_row (l:List (Nat × Nat)):signsOf 0 (l.map rwd)=l.map Prod.fst:=by
 induction l with
 | nil=>rfl
 | cons t l ih =>
  show signsOf 0 ([rwd t]++l.map rwd)=[t.1]++l.map Prod.fst
  rw [signsOf_app,ih]; rfl
theorem words_len (Y:List PM.St):(words Y).length≤2 * Y.length+1:=by
 unfold words
 rw [List.length_append]
 have:(wds Y).length≤2 * Y.length:=by
  induction Y with
  | nil=>exact Nat.le_refl _
  | cons s l ih =>
   rw [wds_cons,List.length_append,List.length_cons]
   have:(wd s).length≤2:=by unfold wd; split <;> simp
   omega
 simp; omega
def WdOk (A B:List Nat) (t:Wd):Prop:=t.1<2∧PI.Has (if t.1=0 then A else B) t.2.1∧t.2.2.2<2 ^ t.2.2.1∧t.2.2.1≤13
theorem words_ok {A B:List Nat} {Y:List PM.St} {n:Nat} (hY:PM.mays Y n) (hA:∀ s ∈ PI.symsOf (toks Y),s<286→PI.Has A s) (hB:∀ s ∈ PI.farsOf (toks Y),s<30→PI.Has B s):∀ t ∈ words Y,WdOk A B t:=by
 have key:∀ (Y:List PM.St) (n:Nat),PM.mays Y n→∀ t ∈ wds Y,t.1<2∧t.2.2.2<2 ^ t.2.2.1∧t.2.2.1≤13∧(t.1=0→t.2.1<286)∧(t.1=1→t.2.1<30):=by
  intro Y
  induction Y with
  | nil=>intro n _ t ht; cases ht
  | cons s l ih =>
   intro n h t ht
   rw [wds_cons] at ht
   rcases List.mem_append.1 ht with ht | ht
   ·unfold wd at ht
    split at ht
    ·rw [List.mem_singleton.1 ht]
     have:=s.2.2.toNat_lt
     exact ⟨by show 0<2; decide,by show 0<2 ^ 0; decide,by show 0≤13; decide,fun _=>by show s.2.2.toNat<286; omega,fun h=>by cases h⟩
    ·rename_i hne
     rcases h.1 with h1 | h1
     ·exact absurd h1.1 hne
     ·obtain ⟨g1,g2,g3⟩:=PI.longS_lt s.1 h1.1 h1.2.1
      obtain ⟨k1,k2,k3⟩:=PI.farS_lt s.2.1 h1.2.2.1 h1.2.2.2.1
      simp only [List.mem_cons,List.not_mem_nil,or_false] at ht
      rcases ht with rfl | rfl
      ·exact ⟨by show 0<2; decide,g2,by show (PI.longS s.1).2.1≤13; omega,fun _=>by show 257+(PI.longS s.1).1<286; omega,fun h=>by cases h⟩
      ·exact ⟨by show 1<2; decide,k2,k3,fun h=>absurd (show (1:Nat)=0 from h) (by decide),fun _=>by show (PI.farS s.2.1).1<30; omega⟩
   ·exact ih _ h.2 t ht
 intro t ht
 have hm:∀ b,t.1=b→t.2.1 ∈ signsOf b (words Y):=fun b hb=>by
  unfold signsOf
  exact List.mem_map.2 ⟨t,List.mem_filter.2 ⟨ht,by simp [hb]⟩,rfl⟩
 have h0:t.1<2∧t.2.2.2<2 ^ t.2.2.1∧t.2.2.1≤13∧(t.1=0→t.2.1<286)∧(t.1=1→t.2.1<30):=by
  unfold words at ht
  rcases List.mem_append.1 ht with h | h
  ·exact key Y n hY t h
  ·rw [List.mem_singleton.1 h]
   exact ⟨by show 0<2; decide,by show 0<2 ^ 0; decide,by show 0≤13; decide,fun _=>by show 256<286; decide,fun h=>by cases h⟩
 obtain ⟨a1,a2,a3,a4,a5⟩:=h0
 refine ⟨a1,?_,a2,a3⟩
 by_cases e:t.1=0
 ·rw [if_pos e]
  have:=hm 0 e
  rw [signs0] at this
  exact hA _ this (a4 e)
 ·have e1:t.1=1:=by omega
  rw [if_neg e]
  have:=hm 1 e1
  rw [signs1] at this
  exact hB _ this (a5 e1)
end PD
end Go.Proofs.YtloijdbkikccgaaDoor

