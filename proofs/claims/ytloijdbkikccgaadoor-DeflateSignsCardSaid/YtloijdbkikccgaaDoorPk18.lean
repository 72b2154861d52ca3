/- A pack of texts: MatchN. -/
import Derived.StillTailTactics
import Derived.Test.YtloijdbkikccgaaDoorPk15
import Derived.Test.YtloijdbkikccgaaDoorPk17
namespace Go.Proofs.YtloijdbkikccgaaDoor
open Go.RowKit
theorem infoIM:(Tryd.prog.info? 3).map (fun i=>(i.zero,i.size,i.bytes))=some (some (.int .i64 0),1,8):=by kernel_rfl
theorem at3_cells {w:World} {ad:Addr} {l c:Nat} {B:List UInt8} (h:Byt w (.slice (some ad) l c) B) (j:Nat) (hj:j+3<=B.length) :
  w.cell? (ad.add j)=some (.int .u8 ((PM.at3 B j).1.toNat:Int))/\w.cell? ⟨(ad.add j).block,(ad.add j).off+1,none⟩=some (.int .u8 ((PM.at3 B j).2.1.toNat:Int))/\w.cell? ⟨(ad.add j).block,(ad.add j).off+2,none⟩=some (.int .u8 ((PM.at3 B j).2.2.toNat:Int)):=by
 obtain⟨_,_,e,hr,_,_⟩:=h
 have key:∀i (hi:i<B.length),w.cell? (ad.add i)=some (.int .u8 ((B.getD i 0).toNat:Int)):=fun i hi=>by
  obtain⟨ad2,e2,hc⟩:=hr.at8 hi
  injection e with e
  rw [<- e] at e2
  injection e2 with e2
  rw [List.getD_eq_getElem?_getD,List.getElem?_eq_getElem hi,e2]
  exact hc
 rw [field_addr ad j 1 (by omega),field_addr ad j 2 (by omega)]
 exact⟨key j (by omega),key (j+1) (by omega),key (j+2) (by omega)⟩
section
variable {P:Program}
theorem wp_mapEntry {o:Oper} {a:Act} {w:World} {K:Act->World->Prop} {Q:Exit->Act->World->Prop} (t:TypeId) (m k:Operand) (ho:o.op=.mapEntry t m k) (vm vk:Value) (hm:a.eval m=vm) (hk:a.eval k=vk) {v:Value} {w' : World}
  (hr:(Instr.mapEntry t vm vk).run P w=.ok v w') (h:K (a.put o.dst v) w'):o.wp P a w K Q:=by
 unfold Oper.wp execOp
 simp only [ho,Sem.run_bind,Sem.run_pure,Result.andThen_ok,hm,hk,hr]
 exact h
theorem wp_entryStore {o:Oper} {a:Act} {w:World} {K:Act->World->Prop} {Q:Exit->Act->World->Prop} (t:TypeId) (m i x:Operand) (ho:o.op=.entryStore t m i x) (hd:o.dst=none) (vm vi vx:Value) (hm:a.eval m=vm) (hi:a.eval i=vi) (hx:a.eval x=vx) {w' : World}
  (hr:(Instr.entryStore t vm vi vx).run P w=.ok () w') (h:K a w'):o.wp P a w K Q:=by
 unfold Oper.wp execOp
 simp only [ho,Sem.run_bind,Sem.run_pure,Result.andThen_ok,hm,hi,hx,hr]
 unfold Oper.upon
 simp only [hd]
 exact h
end
set_option maxRecDepth 100000 in
set_option maxHeartbeats 4000000 in
theorem note_ok (g at_ n l:Nat) (A0:Option Addr) (c:Nat) (B:List UInt8) (d:Int) {w0 w:World} {L:List Pr} (H:Sp w0 (Fd g (.slice A0 l c) B d n::L) w) (hl:l=B.length) (hb:Ent L (fun w=>Byt w (.slice A0 l c) B)) (hat:at_<=1000000000) (hlm:l<=1000000000) :
  Calls Tryd.prog 74 #[.pointer (some ⟨g,0,none⟩),.int .i64 (at_:Int)] w fun e w'=>e=.returned (.tuple #[])/\Sp w0 (Fd g (.slice A0 l c) B d (max n (min at_ (l - 2)))::L) w':=by
 obtain⟨i0,hi,hz0,hz1,hz2⟩:=info_parts infoIM
 have h169:Tryd.prog.underlying 156=some (.array 3 5):=by kernel_rfl
 have H169:=Lib.hid h169
 clear h169
 obtain⟨_,_,_,_,_⟩:=fd_open H
 obtain⟨hlc,hcm⟩:l<=c/\c<=maxLen:=by
  obtain⟨_,_,e,_,h1,h2⟩:=hb _ _ H.tail
  injection e with e1 e2 e3
  rw [e3,e2]
  exact⟨h1,h2⟩
 unfold maxLen at hcm
 have HL:=Lib.hid hl
 have HB:=Lib.hid hb
 clear hl hb
 go_enter Tryd.func74,Tryd.ntmps74
 go_wp2
 go_loopw [] (fun wr=>∃j,n<=j/\j<=max n (min at_ (l - 2))/\Sp w0 (Fd g (.slice A0 l c) B d j::L) wr) (fun wr=>match wr.cell? ⟨g,3,none⟩ with | some (.int _ x)=>((at_:Int) - x).toNat | _=>0)
 case atStart=>exact⟨n,Nat.le_refl _,by omega,H⟩
 case round =>
  obtain⟨j,hj1,hj2,H1⟩:=hrel
  obtain⟨mb,es,clock,hok,H2⟩:=fd_open H1
  have c3:wr.cell? ⟨g,3,none⟩=some (.int .i64 (j:Int)):=H2.cell 0 rfl 3
  have C3:=Lib.hid c3
  clear c3
  by_cases hja:j<at_
  ·have k1:(j:Int)<at_:=by omega
   by_cases hjl:j+3<=l
   ·have k2:(j:Int)+3<=l:=by omega
    go_wp2_with fail
    refine wp_region_sc (L:=FdB g (.slice A0 l c) d mb j::Is mb (.map es clock)::Rows (PM.places B j) es.toList::L) [some (.pointer (some ⟨g,0,none⟩)),some (.pointer (some ⟨g,0,none⟩)),some (.pointer (some ⟨g,3,none⟩)),some (.int .i64 (j:Int)),some (.int .i64 (at_:Int)),some (.bool true),some (.bool true),some (.pointer (some ⟨g,0,none⟩)),some (.pointer (some ⟨g,0,none⟩)),some (.pointer (some ⟨g,3,none⟩)),some (.int .i64 (j:Int)),some (.int .i64 ((j:Int)+3)),some (.pointer (some ⟨g,0,none⟩)),some (.pointer (some ⟨g,0,none⟩)),some (.pointer (some ⟨g,0,none⟩)),some (.slice A0 l c),some (.int .i64 (l:Int)),some (.bool true),some (.bool true)] (fun _ _=>True) (fun _ _=>[]) (fun _=>[]) 19 56
     [some 5,some 6,some 7,some 8,some 9,some 10,some 11,some 12,some 13,some 14,some 15,some 16,some 17,some 18,some 19,some 20,some 21,some 22,some 23]
     [[],[0],[1],[2],[],[3,4],[5],[6],[7,6],[8,6],[9,6],[10,6],[6],[12,6],[13,6],[14,6],[15,6],[11,16,6],[6,17]]
     [[],[0],[0,1],[0,1,2],[],[0,1,2,3,4],[0,1,2,3,4,5],[0,1,2,3,4,5,6],[0,1,2,3,4,5,6,7],[0,1,2,3,4,5,6,7,8],[0,1,2,3,4,5,6,7,8,9],[0,1,2,3,4,5,6,7,8,9,10],[0,1,2,3,4,5,6],[0,1,2,3,4,5,6,12],[0,1,2,3,4,5,6,12,13],[0,1,2,3,4,5,6,12,13,14],[0,1,2,3,4,5,6,12,13,14,15],[0,1,2,3,4,5,6,7,8,9,10,11,12,13,14,15,16],[0,1,2,3,4,5,6,7,8,9,10,11,12,13,14,15,16,17]]
     [[],[],[],[],[],[],[],[],[],[],[],[],[],[],[],[],[],[],[]] [[],[],[],[],[],[],[],[],[],[],[],[],[],[],[],[],[],[],[]] [(0,.pointer (some ⟨g,0,none⟩)),(1,.int .i64 (at_:Int))]
     (by kernel_rfl) rfl (by decide) (by rfl) (by decide +kernel) rfl rfl (by simp) (H2) ?hstep ?hend
    case hstep =>
     refine⟨?p0,⟨?p1,⟨?p2,⟨?p3,⟨?p4,⟨?p5,⟨?p6,⟨?p7,⟨?p8,⟨?p9,⟨?p10,⟨?p11,⟨?p12,⟨?p13,⟨?p14,⟨?p15,⟨?p16,⟨?p17,⟨?p18,trivial⟩⟩⟩⟩⟩⟩⟩⟩⟩⟩⟩⟩⟩⟩⟩⟩⟩⟩⟩
     case p0 | p1 | p2 | p4 | p5 | p6 | p18 =>
      intro x wx A rest hDf hF hS hE H K hK
      replace hK:=Lib.hid hK
      clear hS hE hDf
      repeat (obtain⟨_,hF⟩:=hF)
      change Oper.wp _ _ A wx K _
      go_step
      exact hK.out _ _ rfl H
     case p3 =>
      intro x wx A rest hDf hF hS hE H K hK0
      replace hDf:=Lib.hid hDf
      have e7:A.tmps[7]?.getD undef=.pointer (some ⟨g,3,none⟩):=((hS 2 (by decide)).2 7 rfl).trans (hS 2 (by decide)).1
      replace H:Sp w0 (rest) wx:=H
      have hK:Hid (∀(v:Value) (w' : World),v=.int .i64 (j:Int)->Sp w0 (rest) w'->K (A.put (some 8) v) w'):=Lib.hid hK0
      clear hK0 hF hS
      have c3:wx.cell? ⟨g,3,none⟩=some (.int .i64 (j:Int)):=hE (fun w=>w.cell? ⟨g,3,none⟩=some (.int .i64 (j:Int))) (fun _ _ H=>H.cell 0 rfl 3) _ _ H
      change Oper.wp _ _ A wx K _
      go_step
      exact hK.out _ _ rfl (H)
     case p7 =>
      intro x wx A rest hDf hF hS hE H K hK0
      replace hDf:=Lib.hid hDf
      have e0:A.tmps[0]?.getD undef=.pointer (some ⟨g,0,none⟩):=factsE_get hF (0,.pointer (some ⟨g,0,none⟩)) (by simp) (by rfl)
      have pg:=(hS 6 (by decide)).1
      replace H:Sp w0 (rest) wx:=H
      have hK:Hid (∀(v:Value) (w' : World),v=.pointer (some ⟨g,0,none⟩)->Sp w0 (rest) w'->K (A.put (some 12) v) w'):=Lib.hid hK0
      clear hK0 hF hS hE
      refine⟨some true,by rw [pg]; rfl,?_⟩
      rw [if_pos rfl]
      change Oper.wp _ _ A wx K _
      go_step
      exact hK.out _ _ rfl (H)
     case p8 =>
      intro x wx A rest hDf hF hS hE H K hK0
      replace hDf:=Lib.hid hDf
      have e12:A.tmps[12]?.getD undef=.pointer (some ⟨g,0,none⟩):=((hS 7 (by decide)).2 12 rfl).trans (hS 7 (by decide)).1
      have pg:=(hS 6 (by decide)).1
      replace H:Sp w0 (rest) wx:=H
      have hK:Hid (∀(v:Value) (w' : World),v=.pointer (some ⟨g,0,none⟩)->Sp w0 (rest) w'->K (A.put (some 13) v) w'):=Lib.hid hK0
      clear hK0 hF hS hE
      refine⟨some true,by rw [pg]; rfl,?_⟩
      rw [if_pos rfl]
      change Oper.wp _ _ A wx K _
      go_step
      exact hK.out _ _ rfl (H)
     case p9 =>
      intro x wx A rest hDf hF hS hE H K hK0
      replace hDf:=Lib.hid hDf
      have e13:A.tmps[13]?.getD undef=.pointer (some ⟨g,0,none⟩):=((hS 8 (by decide)).2 13 rfl).trans (hS 8 (by decide)).1
      have pg:=(hS 6 (by decide)).1
      replace H:Sp w0 (rest) wx:=H
      have hK:Hid (∀(v:Value) (w' : World),v=.pointer (some ⟨g,3,none⟩)->Sp w0 (rest) w'->K (A.put (some 14) v) w'):=Lib.hid hK0
      clear hK0 hF hS hE
      refine⟨some true,by rw [pg]; rfl,?_⟩
      rw [if_pos rfl]
      change Oper.wp _ _ A wx K _
      go_step
      exact hK.out _ _ rfl (H)
     case p10 =>
      intro x wx A rest hDf hF hS hE H K hK0
      replace hDf:=Lib.hid hDf
      have e14:A.tmps[14]?.getD undef=.pointer (some ⟨g,3,none⟩):=((hS 9 (by decide)).2 14 rfl).trans (hS 9 (by decide)).1
      have pg:=(hS 6 (by decide)).1
      replace H:Sp w0 (rest) wx:=H
      have hK:Hid (∀(v:Value) (w' : World),v=.int .i64 (j:Int)->Sp w0 (rest) w'->K (A.put (some 15) v) w'):=Lib.hid hK0
      clear hK0 hF hS
      have c3:wx.cell? ⟨g,3,none⟩=some (.int .i64 (j:Int)):=hE (fun w=>w.cell? ⟨g,3,none⟩=some (.int .i64 (j:Int))) (fun _ _ H=>H.cell 0 rfl 3) _ _ H
      refine⟨some true,by rw [pg]; rfl,?_⟩
      rw [if_pos rfl]
      change Oper.wp _ _ A wx K _
      go_step
      exact hK.out _ _ rfl (H)
     case p11 =>
      intro x wx A rest hDf hF hS hE H K hK0
      replace hDf:=Lib.hid hDf
      have e15:A.tmps[15]?.getD undef=.int .i64 (j:Int):=((hS 10 (by decide)).2 15 rfl).trans (hS 10 (by decide)).1
      have pg:=(hS 6 (by decide)).1
      replace H:Sp w0 (rest) wx:=H
      have hK:Hid (∀(v:Value) (w' : World),v=.int .i64 ((j:Int)+3)->Sp w0 (rest) w'->K (A.put (some 16) v) w'):=Lib.hid hK0
      clear hK0 hF hS hE
      refine⟨some true,by rw [pg]; rfl,?_⟩
      rw [if_pos rfl]
      change Oper.wp _ _ A wx K _
      go_step
      exact hK.out _ _ rfl (H)
     case p12 =>
      intro x wx A rest hDf hF hS hE H K hK0
      replace hDf:=Lib.hid hDf
      have e0:A.tmps[0]?.getD undef=.pointer (some ⟨g,0,none⟩):=factsE_get hF (0,.pointer (some ⟨g,0,none⟩)) (by simp) (by rfl)
      have pg:=(hS 6 (by decide)).1
      replace H:Sp w0 (rest) wx:=H
      have hK:Hid (∀(v:Value) (w' : World),v=.pointer (some ⟨g,0,none⟩)->Sp w0 (rest) w'->K (A.put (some 17) v) w'):=Lib.hid hK0
      clear hK0 hF hS hE
      refine⟨some true,by rw [pg]; rfl,?_⟩
      rw [if_pos rfl]
      change Oper.wp _ _ A wx K _
      go_step
      exact hK.out _ _ rfl (H)
     case p13 =>
      intro x wx A rest hDf hF hS hE H K hK0
      replace hDf:=Lib.hid hDf
      have e17:A.tmps[17]?.getD undef=.pointer (some ⟨g,0,none⟩):=((hS 12 (by decide)).2 17 rfl).trans (hS 12 (by decide)).1
      have pg:=(hS 6 (by decide)).1
      replace H:Sp w0 (rest) wx:=H
      have hK:Hid (∀(v:Value) (w' : World),v=.pointer (some ⟨g,0,none⟩)->Sp w0 (rest) w'->K (A.put (some 18) v) w'):=Lib.hid hK0
      clear hK0 hF hS hE
      refine⟨some true,by rw [pg]; rfl,?_⟩
      rw [if_pos rfl]
      change Oper.wp _ _ A wx K _
      go_step
      exact hK.out _ _ rfl (H)
     case p14 =>
      intro x wx A rest hDf hF hS hE H K hK0
      replace hDf:=Lib.hid hDf
      have e18:A.tmps[18]?.getD undef=.pointer (some ⟨g,0,none⟩):=((hS 13 (by decide)).2 18 rfl).trans (hS 13 (by decide)).1
      have pg:=(hS 6 (by decide)).1
      replace H:Sp w0 (rest) wx:=H
      have hK:Hid (∀(v:Value) (w' : World),v=.pointer (some ⟨g,0,none⟩)->Sp w0 (rest) w'->K (A.put (some 19) v) w'):=Lib.hid hK0
      clear hK0 hF hS hE
      refine⟨some true,by rw [pg]; rfl,?_⟩
      rw [if_pos rfl]
      change Oper.wp _ _ A wx K _
      go_step
      exact hK.out _ _ rfl (H)
     case p15 =>
      intro x wx A rest hDf hF hS hE H K hK0
      replace hDf:=Lib.hid hDf
      have e19:A.tmps[19]?.getD undef=.pointer (some ⟨g,0,none⟩):=((hS 14 (by decide)).2 19 rfl).trans (hS 14 (by decide)).1
      have pg:=(hS 6 (by decide)).1
      replace H:Sp w0 (rest) wx:=H
      have hK:Hid (∀(v:Value) (w' : World),v=.slice A0 l c->Sp w0 (rest) w'->K (A.put (some 20) v) w'):=Lib.hid hK0
      clear hK0 hF hS
      have c0:wx.cell? ⟨g,0,none⟩=some (.slice A0 l c):=hE (fun w=>w.cell? ⟨g,0,none⟩=some (.slice A0 l c)) (fun _ _ H=>H.cell 0 rfl 0) _ _ H
      refine⟨some true,by rw [pg]; rfl,?_⟩
      rw [if_pos rfl]
      change Oper.wp _ _ A wx K _
      go_step
      exact hK.out _ _ rfl (H)
     case p16 =>
      intro x wx A rest hDf hF hS hE H K hK0
      replace hDf:=Lib.hid hDf
      have e20:A.tmps[20]?.getD undef=.slice A0 l c:=((hS 15 (by decide)).2 20 rfl).trans (hS 15 (by decide)).1
      have pg:=(hS 6 (by decide)).1
      replace H:Sp w0 (rest) wx:=H
      have hK:Hid (∀(v:Value) (w' : World),v=.int .i64 (l:Int)->Sp w0 (rest) w'->K (A.put (some 21) v) w'):=Lib.hid hK0
      clear hK0 hF hS hE
      refine⟨some true,by rw [pg]; rfl,?_⟩
      rw [if_pos rfl]
      change Oper.wp _ _ A wx K _
      go_step
      exact hK.out _ _ rfl (H)
     case p17 =>
      intro x wx A rest hDf hF hS hE H K hK0
      replace hDf:=Lib.hid hDf
      have e16:A.tmps[16]?.getD undef=.int .i64 ((j:Int)+3):=((hS 11 (by decide)).2 16 rfl).trans (hS 11 (by decide)).1
      have e21:A.tmps[21]?.getD undef=.int .i64 (l:Int):=((hS 16 (by decide)).2 21 rfl).trans (hS 16 (by decide)).1
      have pg:=(hS 6 (by decide)).1
      replace H:Sp w0 (rest) wx:=H
      have hK:Hid (∀(v:Value) (w' : World),v=.bool true->Sp w0 (rest) w'->K (A.put (some 22) v) w'):=Lib.hid hK0
      clear hK0 hF hS hE
      refine⟨some true,by rw [pg]; rfl,?_⟩
      rw [if_pos rfl]
      change Oper.wp _ _ A wx K _
      go_step
      exact hK.out _ _ rfl (H)
    case hend =>
     intro x wx A hA hS H
     replace H:Sp w0 (FdB g (.slice A0 l c) d mb j::Is mb (.map es clock)::Rows (PM.places B j) es.toList::L) wx:=H
     have y18:x 18=.bool true:=hS 18 (by decide)
     clear hS
     simp only [putAll,Act.put,List.setIfInBounds_toArray,List.set_cons_succ,List.set_cons_zero,Nat.reduceAdd] at hA
     subst hA
     rw [y18]
     clear y18 k1
     obtain⟨ad,rfl⟩:∃ad,A0=some ad:=by
      obtain⟨_,_,e,hr,_,_⟩:=HB.out _ _ (H.pick 3 [])
      obtain⟨ad,e2,_⟩:=hr.at8 (k:=j) (by rw [<- HL.out]; omega)
      injection e with e
      exact⟨ad,e.trans e2⟩
     obtain⟨k,hk⟩:∃k,PM.at3 B j=k:=⟨_,rfl⟩
     have hcel:Ent L (fun w=>w.cell? (ad.add j)=some (.int .u8 (k.1.toNat:Int))/\w.cell? ⟨(ad.add j).block,(ad.add j).off+1,none⟩=some (.int .u8 (k.2.1.toNat:Int))/\w.cell? ⟨(ad.add j).block,(ad.add j).off+2,none⟩=some (.int .u8 (k.2.2.toNat:Int))):=HB.out.mono fun w' hw=>by
      rw [<- hk]
      exact at3_cells hw j (by rw [<- HL.out]; omega)
     have HCE:=Lib.hid hcel
     have HK:=Lib.hid hk
     clear hcel hk
     have k3:(j:Int)<c:=by omega
     have k4:3<=l - j:=by omega
     have k5:j<=l:=by omega
     have k6:¬ c=j:=by omega
     go_wp2_with fail
     refine wp_region_sd (L:=FdB g (.slice (some ad) l c) d mb j::Is mb (.map es clock)::Rows (PM.places B j) es.toList::L) [some (.pointer (some ⟨g,0,none⟩)),some (.pointer (some ⟨g,0,none⟩)),some (.pointer (some ⟨g,0,none⟩)),some (.slice (some ad) l c),some (.pointer (some ⟨g,0,none⟩)),some (.pointer (some ⟨g,0,none⟩)),some (.pointer (some ⟨g,3,none⟩)),some (.int .i64 (j:Int)),some (.slice (some (ad.add j)) (l - j) (c - j)),some (.pointer (some (ad.add j))),some (key3 k),none,none] (fun ix ux vx=>match ix with | 11=>(fun v=>v=.pointer (some ⟨blkOf v,0,none⟩)) vx | _=>True) (fun ix ux vx=>match ix with | 11=>(fun v=>[Bk (blkOf v) 156 [.int .u8 0,.int .u8 0,.int .u8 0]]) vx | 12=>(fun _=>[Bk (blkOf ux) 156 (cells3 k)]) vx | _=>[]) (fun _=>[]) 13 56
      [some 31,some 32,some 33,some 34,some 35,some 36,some 37,some 38,some 39,some 40,some 41,some 4,none]
      [[],[0],[1],[2],[],[4],[5],[6],[3,7],[8],[9],[],[11,10,0,1,2,3,4,5,6,7,8,9,10,11]]
      [[],[0],[0,1],[0,1,2],[],[4],[4,5],[4,5,6],[0,1,2,3,4,5,6,7],[0,1,2,3,4,5,6,7,8],[0,1,2,3,4,5,6,7,8,9],[],[0,1,2,3,4,5,6,7,8,9,10,11]]
      [[],[],[],[],[],[],[],[],[],[],[],[],[11]] [[],[],[],[],[],[],[],[],[],[],[],[],[]] [none,none,none,none,none,none,none,none,none,none,none,none,some 11] [(0,.pointer (some ⟨g,0,none⟩))]
      (by kernel_rfl) rfl (by decide) (by rfl) (by decide +kernel) rfl (by simp) (by rfl) (H) ?hstep ?hend
     case hstep =>
      refine⟨?p0,⟨?p1,⟨?p2,⟨?p3,⟨?p4,⟨?p5,⟨?p6,⟨?p7,⟨?p8,⟨?p9,⟨?p10,⟨?p11,⟨?p12,trivial⟩⟩⟩⟩⟩⟩⟩⟩⟩⟩⟩⟩⟩
      case p0 | p1 | p2 | p4 | p5 | p6 | p8 =>
       intro x wx A rest hF hS hE H K hK
       replace hK:=Lib.hid hK
       clear hS hE
       repeat (obtain⟨_,hF⟩:=hF)
       change Oper.wp _ _ A wx K _
       go_step
       exact hK.out _ _ rfl H
      case p3 =>
       intro x wx A rest hF hS hE H K hK0
       have e33:A.tmps[33]?.getD undef=.pointer (some ⟨g,0,none⟩):=((hS 2 (by decide)).2 33 rfl).trans (hS 2 (by decide)).1
       replace H:Sp w0 (rest) wx:=H
       have hK:Hid (∀(v:Value) (w' : World),v=.slice (some ad) l c->Sp w0 (rest) w'->K (A.put (some 34) v) w'):=Lib.hid hK0
       clear hK0 hF hS
       have c0:wx.cell? ⟨g,0,none⟩=some (.slice (some ad) l c):=hE (fun w=>w.cell? ⟨g,0,none⟩=some (.slice (some ad) l c)) (fun _ _ H=>H.cell 0 rfl 0) _ _ H
       change Oper.wp _ _ A wx K _
       go_step
       exact hK.out _ _ rfl (H)
      case p7 =>
       intro x wx A rest hF hS hE H K hK0
       have e37:A.tmps[37]?.getD undef=.pointer (some ⟨g,3,none⟩):=((hS 6 (by decide)).2 37 rfl).trans (hS 6 (by decide)).1
       replace H:Sp w0 (rest) wx:=H
       have hK:Hid (∀(v:Value) (w' : World),v=.int .i64 (j:Int)->Sp w0 (rest) w'->K (A.put (some 38) v) w'):=Lib.hid hK0
       clear hK0 hF hS
       have c3:wx.cell? ⟨g,3,none⟩=some (.int .i64 (j:Int)):=hE (fun w=>w.cell? ⟨g,3,none⟩=some (.int .i64 (j:Int))) (fun _ _ H=>H.cell 0 rfl 3) _ _ H
       change Oper.wp _ _ A wx K _
       go_step
       exact hK.out _ _ rfl (H)
      case p9 =>
       intro x wx A rest hF hS hE H K hK0
       have e39:A.tmps[39]?.getD undef=.slice (some (ad.add j)) (l - j) (c - j):=((hS 8 (by decide)).2 39 rfl).trans (hS 8 (by decide)).1
       replace H:Sp w0 (rest) wx:=H
       have hK:Hid (∀(v:Value) (w' : World),v=.pointer (some (ad.add j))->Sp w0 (rest) w'->K (A.put (some 40) v) w'):=Lib.hid hK0
       clear hK0 hF hS hE
       have ha:=run_arrayAt (P:=Tryd.prog) wx 156 _ 3 (some (ad.add j)) (l - j) (c - j) H169.out k4
       change Oper.wp _ _ A wx K _
       go_step
       exact hK.out _ _ rfl (H)
      case p10 =>
       intro x wx A rest hF hS hE H K hK0
       have e40:A.tmps[40]?.getD undef=.pointer (some (ad.add j)):=((hS 9 (by decide)).2 40 rfl).trans (hS 9 (by decide)).1
       replace H:Sp w0 (rest) wx:=H
       have hK:Hid (∀(v:Value) (w' : World),v=key3 k->Sp w0 (rest) w'->K (A.put (some 41) v) w'):=Lib.hid hK0
       clear hK0 hF hS
       obtain⟨d0,d1,d2⟩:=hE _ (Ent.cons _ (Ent.cons _ (Ent.cons _ HCE.out))) _ _ H
       change Oper.wp _ _ A wx K _
       go_step
       exact hK.out _ _ rfl (H)
      case p11 =>
       intro x wx A rest hF hS hE H K hK0
       replace H:Sp w0 (rest) wx:=H
       have hK:Hid (∀(v:Value) (w' : World),v=.pointer (some ⟨blkOf v,0,none⟩)->Sp w0 ((Bk (blkOf v) 156 [.int .u8 0,.int .u8 0,.int .u8 0])::rest) w'->K (A.put (some 4) v) w'):=Lib.hid hK0
       clear hK0 hF hS hE
       change Oper.wp _ _ A wx K _
       go_step
       exact hK.out _ _ rfl (H.newBk _ _)
      case p12 =>
       intro x wx A rest hF hS hE H K hK0
       have q4:(x 11)=.pointer (some ⟨blkOf (x 11),0,none⟩):=(hS 11 (by decide)).1
       have e4:A.tmps[4]?.getD undef=x 11:=(hS 11 (by decide)).2 4 rfl
       have e41:A.tmps[41]?.getD undef=key3 k:=((hS 10 (by decide)).2 41 rfl).trans (hS 10 (by decide)).1
       replace H:Sp w0 ((Bk (blkOf (x 11)) 156 [.int .u8 0,.int .u8 0,.int .u8 0])::rest) wx:=H
       have hK:Hid (∀(v:Value) (w' : World),True->Sp w0 ((Bk (blkOf (x 11)) 156 (cells3 k))::rest) w'->K (A.put none v) w'):=Lib.hid hK0
       clear hK0 hF hS hE
       obtain⟨g9,e9⟩:∃g9,blkOf (x 11)=g9:=⟨_,rfl⟩
       have q:x 11=.pointer (some ⟨blkOf (x 11),0,none⟩):=q4
       rw [e9] at q H
       rw [q] at e4
       clear q q4
       have z0:wx.frozen? ⟨g9,0,none⟩=false:=H.frozen 0 rfl 0
       have z1:wx.frozen? ⟨g9,1,none⟩=false:=H.frozen 0 rfl 1
       have z2:wx.frozen? ⟨g9,2,none⟩=false:=H.frozen 0 rfl 2
       have z3:wx.cell? ⟨g9,0,none⟩=some (.int .u8 0):=H.cell 0 rfl 0
       have z4:wx.cell? ⟨g9,1,none⟩=some (.int .u8 0):=H.cell 0 rfl 1
       have z5:wx.cell? ⟨g9,2,none⟩=some (.int .u8 0):=H.cell 0 rfl 2
       unfold key3 at e41
       change Oper.wp _ _ A wx K _
       go_step
       refine hK.out (x 11) _ trivial ?_
       rw [e9]
       exact((H.set 0 _).set 1 _).set 2 _
     case hend =>
      intro x wx A hA hS H
      replace H:Sp w0 ((Bk (blkOf (x 11)) 156 (cells3 k))::FdB g (.slice (some ad) l c) d mb j::Is mb (.map es clock)::Rows (PM.places B j) es.toList::L) wx:=H
      have y11:(x 11)=.pointer (some ⟨blkOf (x 11),0,none⟩):=hS 11 (by decide)
      clear hS
      simp only [putAll,Act.put,List.setIfInBounds_toArray,List.set_cons_succ,List.set_cons_zero,Nat.reduceAdd] at hA
      subst hA
      obtain⟨g1,hg1⟩:∃g1,blkOf (x 11)=g1:=⟨_,rfl⟩
      rw [hg1] at y11 H
      rw [y11]
      clear hg1 y11
      obtain⟨v0,st,m,es1,clock1,E2,rl,ys,hm,H3,hme,hes,hok2,hfin⟩:=fd_step hok (H.pick 4 [2,3,0,1])
      have HME:=Lib.hid hme
      have HES:=Lib.hid hes
      have HOK2:=Lib.hid hok2
      have HFIN:=Lib.hid hfin
      obtain⟨V0,c0,rfl,hmc,_⟩:=Row.form H3 1 rfl
      clear hme hes hok2 hfin hok H2 H1
      rw [HK.out] at HME
      go_wp2_with fail
      refine wp_region_sd (L:=Rows (PM.places B j) rl::Bk g1 156 (cells3 k)::FdB g (.slice (some ad) l c) d mb j::L) [some (.pointer (some ⟨g,0,none⟩)),some (.pointer (some ⟨g,0,none⟩)),some (.pointer (some ⟨g,2,none⟩)),some (.map (some mb)),some (key3 k),some (.pointer (some ⟨g,0,none⟩)),some (.pointer (some ⟨g,0,none⟩)),some (.pointer (some ⟨g,3,none⟩)),some (.int .i64 (j:Int)),none,some (.tuple #[.slice V0 m c0,.int .i64 (st:Int)]),some (.slice V0 m c0),none,some (.int .i64 (st:Int)),none] (fun ix ux vx=>match ix with | 9=>(fun v=>v=.slice (some ⟨v.ownBlock.getD 0,0,none⟩) 1 1) vx | 12=>(fun _=>True) vx | _=>True) (fun ix ux vx=>match ix with | 9=>(fun v=>[Bk (v.ownBlock.getD 0) 3 [.int .i64 (j:Int)]]) vx | 10=>(fun _=>[Is mb (.map es1 clock1)]) vx | 12=>(fun v=>[Row 3 1 v (m+1) (ys++[.int .i64 (j:Int)])]) vx | 14=>(fun _=>[Is mb (.map (E2 ux) clock1)]) vx | _=>[]) (fun ix=>match ix with | 10=>[Is mb (.map es clock)] | 12=>[Row 3 1 (.slice V0 m c0) m ys] | _=>[]) 15 56
       [some 42,some 43,some 44,some 45,some 46,some 48,some 49,some 50,some 51,some 52,some 53,some 47,some 54,some 55,none]
       [[],[0],[1],[2],[],[],[5],[6],[7],[8],[3,4,0,1,2,3,4,5,6,7,8,9],[10],[11,9,10],[10],[3,13,12,12,0,1,2,3,4,5,6,7,8,9,10,11,12,13]]
       [[],[0],[0,1],[0,1,2],[],[],[5],[5,6],[5,6,7],[5,6,7,8],[0,1,2,3,4,5,6,7,8,9],[0,1,2,3,4,5,6,7,8,9,10],[0,1,2,3,4,5,6,7,8,9,10,11],[0,1,2,3,4,5,6,7,8,9,10],[0,1,2,3,4,5,6,7,8,9,10,11,12,13]]
       [[],[],[],[],[],[],[],[],[],[],[],[],[9],[],[10]] [[],[],[],[],[],[],[],[],[],[],[],[],[],[],[]] [none,none,none,none,none,none,none,none,none,none,none,none,none,none,some 12] [(0,.pointer (some ⟨g,0,none⟩)),(4,.pointer (some ⟨g1,0,none⟩))]
       (by kernel_rfl) rfl (by decide) (by rfl) (by decide +kernel) rfl (by simp) (by rfl) (H3.pick 5 [0,1,2,3,4]) ?hstep ?hend
      case hstep =>
       refine⟨?p0,⟨?p1,⟨?p2,⟨?p3,⟨?p4,⟨?p5,⟨?p6,⟨?p7,⟨?p8,⟨?p9,⟨?p10,⟨?p11,⟨?p12,⟨?p13,⟨?p14,trivial⟩⟩⟩⟩⟩⟩⟩⟩⟩⟩⟩⟩⟩⟩⟩
       case p0 | p1 | p2 | p5 | p6 | p7 | p11 | p13 =>
        intro x wx A rest hF hS hE H K hK
        replace hK:=Lib.hid hK
        clear hS hE
        repeat (obtain⟨_,hF⟩:=hF)
        change Oper.wp _ _ A wx K _
        go_step
        exact hK.out _ _ rfl H
       case p3 =>
        intro x wx A rest hF hS hE H K hK0
        have e44:A.tmps[44]?.getD undef=.pointer (some ⟨g,2,none⟩):=((hS 2 (by decide)).2 44 rfl).trans (hS 2 (by decide)).1
        replace H:Sp w0 (rest) wx:=H
        have hK:Hid (∀(v:Value) (w' : World),v=.map (some mb)->Sp w0 (rest) w'->K (A.put (some 45) v) w'):=Lib.hid hK0
        clear hK0 hF hS
        have c2:wx.cell? ⟨g,2,none⟩=some (.map (some mb)):=hE (fun w=>w.cell? ⟨g,2,none⟩=some (.map (some mb))) (fun _ _ H=>H.cell 2 rfl 2) _ _ H
        change Oper.wp _ _ A wx K _
        go_step
        exact hK.out _ _ rfl (H)
       case p4 =>
        intro x wx A rest hF hS hE H K hK0
        have e4:A.tmps[4]?.getD undef=.pointer (some ⟨g1,0,none⟩):=factsN_get hF (4,.pointer (some ⟨g1,0,none⟩)) (by simp)
        replace H:Sp w0 (rest) wx:=H
        have hK:Hid (∀(v:Value) (w' : World),v=key3 k->Sp w0 (rest) w'->K (A.put (some 46) v) w'):=Lib.hid hK0
        clear hK0 hF hS
        have d0:wx.cell? ⟨g1,0,none⟩=some (.int .u8 (k.1.toNat:Int)):=hE (fun w=>w.cell? ⟨g1,0,none⟩=some (.int .u8 (k.1.toNat:Int))) (fun _ _ H=>H.cell 1 rfl 0) _ _ H
        have d1:wx.cell? ⟨g1,1,none⟩=some (.int .u8 (k.2.1.toNat:Int)):=hE (fun w=>w.cell? ⟨g1,1,none⟩=some (.int .u8 (k.2.1.toNat:Int))) (fun _ _ H=>H.cell 1 rfl 1) _ _ H
        have d2:wx.cell? ⟨g1,2,none⟩=some (.int .u8 (k.2.2.toNat:Int)):=hE (fun w=>w.cell? ⟨g1,2,none⟩=some (.int .u8 (k.2.2.toNat:Int))) (fun _ _ H=>H.cell 1 rfl 2) _ _ H
        change Oper.wp _ _ A wx K _
        go_step
        exact hK.out _ _ rfl (H)
       case p8 =>
        intro x wx A rest hF hS hE H K hK0
        have e50:A.tmps[50]?.getD undef=.pointer (some ⟨g,3,none⟩):=((hS 7 (by decide)).2 50 rfl).trans (hS 7 (by decide)).1
        replace H:Sp w0 (rest) wx:=H
        have hK:Hid (∀(v:Value) (w' : World),v=.int .i64 (j:Int)->Sp w0 (rest) w'->K (A.put (some 51) v) w'):=Lib.hid hK0
        clear hK0 hF hS
        have c3:wx.cell? ⟨g,3,none⟩=some (.int .i64 (j:Int)):=hE (fun w=>w.cell? ⟨g,3,none⟩=some (.int .i64 (j:Int))) (fun _ _ H=>H.cell 2 rfl 3) _ _ H
        change Oper.wp _ _ A wx K _
        go_step
        exact hK.out _ _ rfl (H)
       case p9 =>
        intro x wx A rest hF hS hE H K hK0
        have e51:A.tmps[51]?.getD undef=.int .i64 (j:Int):=((hS 8 (by decide)).2 51 rfl).trans (hS 8 (by decide)).1
        replace H:Sp w0 (rest) wx:=H
        have hK:Hid (∀(v:Value) (w' : World),v=.slice (some ⟨v.ownBlock.getD 0,0,none⟩) 1 1->Sp w0 ((Bk (v.ownBlock.getD 0) 3 [.int .i64 (j:Int)])::rest) w'->K (A.put (some 52) v) w'):=Lib.hid hK0
        clear hK0 hF hS hE
        change Oper.wp _ _ A wx K _
        go_step
        exact hK.out _ _ rfl (H.newBk _ _)
       case p10 =>
        intro x wx A rest hF hS hE H K hK0
        have e45:A.tmps[45]?.getD undef=.map (some mb):=((hS 3 (by decide)).2 45 rfl).trans (hS 3 (by decide)).1
        have e46:A.tmps[46]?.getD undef=key3 k:=((hS 4 (by decide)).2 46 rfl).trans (hS 4 (by decide)).1
        replace H:Sp w0 ((Is mb (.map es clock))::rest) wx:=H
        have hK:Hid (∀(v:Value) (w' : World),v=.tuple #[.slice V0 m c0,.int .i64 (st:Int)]->Sp w0 ((Is mb (.map es1 clock1))::rest) w'->K (A.put (some 53) v) w'):=Lib.hid hK0
        clear hK0 hF hS hE
        change Oper.wp _ _ A wx K _
        exact wp_mapEntry _ _ _ rfl _ _ (ev e45) (ev e46) (HME.out wx (H.is_ 0 rfl)) (hK.out _ _ rfl (H.put _))
       case p12 =>
        intro x wx A rest hF hS hE H K hK0
        have e47:A.tmps[47]?.getD undef=.slice V0 m c0:=((hS 11 (by decide)).2 47 rfl).trans (hS 11 (by decide)).1
        have q52:(x 9)=.slice (some ⟨(x 9).ownBlock.getD 0,0,none⟩) 1 1:=(hS 9 (by decide)).1
        have e52:A.tmps[52]?.getD undef=x 9:=(hS 9 (by decide)).2 52 rfl
        replace H:Sp w0 ((Row 3 1 (.slice V0 m c0) m ys)::(Bk ((x 9).ownBlock.getD 0) 3 [.int .i64 (j:Int)])::rest) wx:=H
        have hK:Hid (∀(v:Value) (w' : World),True->Sp w0 ((Row 3 1 v (m+1) (ys++[.int .i64 (j:Int)]))::rest) w'->K (A.put (some 54) v) w'):=Lib.hid hK0
        clear hK0 hF hS hE
        obtain⟨g9,e9⟩:∃g9,(x 9).ownBlock.getD 0=g9:=⟨_,rfl⟩
        rw [q52] at e52
        rw [e9] at e52 H
        change Oper.wp _ _ A wx K _
        refine wp_append_sp _ _ 58 rfl 3 i0 (.int .i64 0) 1 8 Tryd.underlying58 hi hz0 hz1 hz2 rfl (by decide) (.slice V0 m c0) m ys (ev e47) H (some ⟨g9,0,none⟩) 1 1 [.int .i64 (j:Int)] (ev e52) rfl (Rd.of_blk (H.blk 1 rfl)) (by intro u hu; rw [List.mem_singleton.1 hu]; rfl) (by simp only [maxLen]; omega) (by omega) ?_
        intro v1 w2 H2 _
        exact hK.out _ _ trivial H2.swap.tail
       case p14 =>
        intro x wx A rest hF hS hE H K hK0
        have e45:A.tmps[45]?.getD undef=.map (some mb):=((hS 3 (by decide)).2 45 rfl).trans (hS 3 (by decide)).1
        have e55:A.tmps[55]?.getD undef=.int .i64 (st:Int):=((hS 13 (by decide)).2 55 rfl).trans (hS 13 (by decide)).1
        have q54:True:=(hS 12 (by decide)).1
        have e54:A.tmps[54]?.getD undef=x 12:=(hS 12 (by decide)).2 54 rfl
        replace H:Sp w0 ((Is mb (.map es1 clock1))::rest) wx:=H
        have hK:Hid (∀(v:Value) (w' : World),True->Sp w0 ((Is mb (.map (E2 (x 12)) clock1))::rest) w'->K (A.put none v) w'):=Lib.hid hK0
        clear hK0 hF hS hE
        change Oper.wp _ _ A wx K _
        exact wp_entryStore _ _ _ _ rfl rfl _ _ _ (ev e45) (ev e55) (ev e54) (HES.out _ wx (H.is_ 0 rfl)) (hK.out (x 12) _ trivial (H.put _))
      case hend =>
       intro x wx A hA hS H
       replace H:Sp w0 ((Row 3 1 (x 12) (m+1) (ys++[.int .i64 (j:Int)]))::(Is mb (.map (E2 (x 12)) clock1))::Rows (PM.places B j) rl::Bk g1 156 (cells3 k)::FdB g (.slice (some ad) l c) d mb j::L) wx:=H
       clear hS
       simp only [putAll,Act.put,List.setIfInBounds_toArray,List.set_cons_succ,List.set_cons_zero,Nat.reduceAdd] at hA
       subst hA
       have H4:=HFIN.out _ _ _ _ (H.pick 5 [0,2,1,3,4])
       have H5:=H4.pick 4 [3,1,0]
       have HOK:=HOK2.out (x 12)
       clear HFIN HOK2 H4 H H3
       have c3:wx.cell? ⟨g,3,none⟩=some (.int .i64 (j:Int)):=H5.cell 0 rfl 3
       have z3:wx.frozen? ⟨g,3,none⟩=false:=H5.frozen 0 rfl 3
       go_wp2
       go_roundw
       case rel=>exact⟨j+1,by omega,by omega,fd_shut HOK (H5.set 3 _)⟩
       case measure =>
        have c9:(wx.setCell ⟨g,3,none⟩ (.int .i64 ((j:Int)+1))).cell? ⟨g,3,none⟩=some (.int .i64 ((j:Int)+1)):=(H5.set 3 _).cell 0 rfl 3
        rw [c9,C3.out]
        simp only []
        omega
   ·have k2:decide ((j:Int)+3<=l)=false:=decide_eq_false (by omega)
    go_wp2_with fail
    refine wp_region_sc (L:=FdB g (.slice A0 l c) d mb j::Is mb (.map es clock)::Rows (PM.places B j) es.toList::L) [some (.pointer (some ⟨g,0,none⟩)),some (.pointer (some ⟨g,0,none⟩)),some (.pointer (some ⟨g,3,none⟩)),some (.int .i64 (j:Int)),some (.int .i64 (at_:Int)),some (.bool true),some (.bool true),some (.pointer (some ⟨g,0,none⟩)),some (.pointer (some ⟨g,0,none⟩)),some (.pointer (some ⟨g,3,none⟩)),some (.int .i64 (j:Int)),some (.int .i64 ((j:Int)+3)),some (.pointer (some ⟨g,0,none⟩)),some (.pointer (some ⟨g,0,none⟩)),some (.pointer (some ⟨g,0,none⟩)),some (.slice A0 l c),some (.int .i64 (l:Int)),some (.bool false),some (.bool false)] (fun _ _=>True) (fun _ _=>[]) (fun _=>[]) 19 56
     [some 5,some 6,some 7,some 8,some 9,some 10,some 11,some 12,some 13,some 14,some 15,some 16,some 17,some 18,some 19,some 20,some 21,some 22,some 23]
     [[],[0],[1],[2],[],[3,4],[5],[6],[7,6],[8,6],[9,6],[10,6],[6],[12,6],[13,6],[14,6],[15,6],[11,16,6],[6,17]]
     [[],[0],[0,1],[0,1,2],[],[0,1,2,3,4],[0,1,2,3,4,5],[0,1,2,3,4,5,6],[0,1,2,3,4,5,6,7],[0,1,2,3,4,5,6,7,8],[0,1,2,3,4,5,6,7,8,9],[0,1,2,3,4,5,6,7,8,9,10],[0,1,2,3,4,5,6],[0,1,2,3,4,5,6,12],[0,1,2,3,4,5,6,12,13],[0,1,2,3,4,5,6,12,13,14],[0,1,2,3,4,5,6,12,13,14,15],[0,1,2,3,4,5,6,7,8,9,10,11,12,13,14,15,16],[0,1,2,3,4,5,6,7,8,9,10,11,12,13,14,15,16,17]]
     [[],[],[],[],[],[],[],[],[],[],[],[],[],[],[],[],[],[],[]] [[],[],[],[],[],[],[],[],[],[],[],[],[],[],[],[],[],[],[]] [(0,.pointer (some ⟨g,0,none⟩)),(1,.int .i64 (at_:Int))]
     (by kernel_rfl) rfl (by decide) (by rfl) (by decide +kernel) rfl rfl (by simp) (H2) ?hstep ?hend
    case hstep =>
     refine⟨?p0,⟨?p1,⟨?p2,⟨?p3,⟨?p4,⟨?p5,⟨?p6,⟨?p7,⟨?p8,⟨?p9,⟨?p10,⟨?p11,⟨?p12,⟨?p13,⟨?p14,⟨?p15,⟨?p16,⟨?p17,⟨?p18,trivial⟩⟩⟩⟩⟩⟩⟩⟩⟩⟩⟩⟩⟩⟩⟩⟩⟩⟩⟩
     case p0 | p1 | p2 | p4 | p5 | p6 | p18 =>
      intro x wx A rest hDf hF hS hE H K hK
      replace hK:=Lib.hid hK
      clear hS hE hDf
      repeat (obtain⟨_,hF⟩:=hF)
      change Oper.wp _ _ A wx K _
      go_step
      exact hK.out _ _ rfl H
     case p3 =>
      intro x wx A rest hDf hF hS hE H K hK0
      replace hDf:=Lib.hid hDf
      have e7:A.tmps[7]?.getD undef=.pointer (some ⟨g,3,none⟩):=((hS 2 (by decide)).2 7 rfl).trans (hS 2 (by decide)).1
      replace H:Sp w0 (rest) wx:=H
      have hK:Hid (∀(v:Value) (w' : World),v=.int .i64 (j:Int)->Sp w0 (rest) w'->K (A.put (some 8) v) w'):=Lib.hid hK0
      clear hK0 hF hS
      have c3:wx.cell? ⟨g,3,none⟩=some (.int .i64 (j:Int)):=hE (fun w=>w.cell? ⟨g,3,none⟩=some (.int .i64 (j:Int))) (fun _ _ H=>H.cell 0 rfl 3) _ _ H
      change Oper.wp _ _ A wx K _
      go_step
      exact hK.out _ _ rfl (H)
     case p7 =>
      intro x wx A rest hDf hF hS hE H K hK0
      replace hDf:=Lib.hid hDf
      have e0:A.tmps[0]?.getD undef=.pointer (some ⟨g,0,none⟩):=factsE_get hF (0,.pointer (some ⟨g,0,none⟩)) (by simp) (by rfl)
      have pg:=(hS 6 (by decide)).1
      replace H:Sp w0 (rest) wx:=H
      have hK:Hid (∀(v:Value) (w' : World),v=.pointer (some ⟨g,0,none⟩)->Sp w0 (rest) w'->K (A.put (some 12) v) w'):=Lib.hid hK0
      clear hK0 hF hS hE
      refine⟨some true,by rw [pg]; rfl,?_⟩
      rw [if_pos rfl]
      change Oper.wp _ _ A wx K _
      go_step
      exact hK.out _ _ rfl (H)
     case p8 =>
      intro x wx A rest hDf hF hS hE H K hK0
      replace hDf:=Lib.hid hDf
      have e12:A.tmps[12]?.getD undef=.pointer (some ⟨g,0,none⟩):=((hS 7 (by decide)).2 12 rfl).trans (hS 7 (by decide)).1
      have pg:=(hS 6 (by decide)).1
      replace H:Sp w0 (rest) wx:=H
      have hK:Hid (∀(v:Value) (w' : World),v=.pointer (some ⟨g,0,none⟩)->Sp w0 (rest) w'->K (A.put (some 13) v) w'):=Lib.hid hK0
      clear hK0 hF hS hE
      refine⟨some true,by rw [pg]; rfl,?_⟩
      rw [if_pos rfl]
      change Oper.wp _ _ A wx K _
      go_step
      exact hK.out _ _ rfl (H)
     case p9 =>
      intro x wx A rest hDf hF hS hE H K hK0
      replace hDf:=Lib.hid hDf
      have e13:A.tmps[13]?.getD undef=.pointer (some ⟨g,0,none⟩):=((hS 8 (by decide)).2 13 rfl).trans (hS 8 (by decide)).1
      have pg:=(hS 6 (by decide)).1
      replace H:Sp w0 (rest) wx:=H
      have hK:Hid (∀(v:Value) (w' : World),v=.pointer (some ⟨g,3,none⟩)->Sp w0 (rest) w'->K (A.put (some 14) v) w'):=Lib.hid hK0
      clear hK0 hF hS hE
      refine⟨some true,by rw [pg]; rfl,?_⟩
      rw [if_pos rfl]
      change Oper.wp _ _ A wx K _
      go_step
      exact hK.out _ _ rfl (H)
     case p10 =>
      intro x wx A rest hDf hF hS hE H K hK0
      replace hDf:=Lib.hid hDf
      have e14:A.tmps[14]?.getD undef=.pointer (some ⟨g,3,none⟩):=((hS 9 (by decide)).2 14 rfl).trans (hS 9 (by decide)).1
      have pg:=(hS 6 (by decide)).1
      replace H:Sp w0 (rest) wx:=H
      have hK:Hid (∀(v:Value) (w' : World),v=.int .i64 (j:Int)->Sp w0 (rest) w'->K (A.put (some 15) v) w'):=Lib.hid hK0
      clear hK0 hF hS
      have c3:wx.cell? ⟨g,3,none⟩=some (.int .i64 (j:Int)):=hE (fun w=>w.cell? ⟨g,3,none⟩=some (.int .i64 (j:Int))) (fun _ _ H=>H.cell 0 rfl 3) _ _ H
      refine⟨some true,by rw [pg]; rfl,?_⟩
      rw [if_pos rfl]
      change Oper.wp _ _ A wx K _
      go_step
      exact hK.out _ _ rfl (H)
     case p11 =>
      intro x wx A rest hDf hF hS hE H K hK0
      replace hDf:=Lib.hid hDf
      have e15:A.tmps[15]?.getD undef=.int .i64 (j:Int):=((hS 10 (by decide)).2 15 rfl).trans (hS 10 (by decide)).1
      have pg:=(hS 6 (by decide)).1
      replace H:Sp w0 (rest) wx:=H
      have hK:Hid (∀(v:Value) (w' : World),v=.int .i64 ((j:Int)+3)->Sp w0 (rest) w'->K (A.put (some 16) v) w'):=Lib.hid hK0
      clear hK0 hF hS hE
      refine⟨some true,by rw [pg]; rfl,?_⟩
      rw [if_pos rfl]
      change Oper.wp _ _ A wx K _
      go_step
      exact hK.out _ _ rfl (H)
     case p12 =>
      intro x wx A rest hDf hF hS hE H K hK0
      replace hDf:=Lib.hid hDf
      have e0:A.tmps[0]?.getD undef=.pointer (some ⟨g,0,none⟩):=factsE_get hF (0,.pointer (some ⟨g,0,none⟩)) (by simp) (by rfl)
      have pg:=(hS 6 (by decide)).1
      replace H:Sp w0 (rest) wx:=H
      have hK:Hid (∀(v:Value) (w' : World),v=.pointer (some ⟨g,0,none⟩)->Sp w0 (rest) w'->K (A.put (some 17) v) w'):=Lib.hid hK0
      clear hK0 hF hS hE
      refine⟨some true,by rw [pg]; rfl,?_⟩
      rw [if_pos rfl]
      change Oper.wp _ _ A wx K _
      go_step
      exact hK.out _ _ rfl (H)
     case p13 =>
      intro x wx A rest hDf hF hS hE H K hK0
      replace hDf:=Lib.hid hDf
      have e17:A.tmps[17]?.getD undef=.pointer (some ⟨g,0,none⟩):=((hS 12 (by decide)).2 17 rfl).trans (hS 12 (by decide)).1
      have pg:=(hS 6 (by decide)).1
      replace H:Sp w0 (rest) wx:=H
      have hK:Hid (∀(v:Value) (w' : World),v=.pointer (some ⟨g,0,none⟩)->Sp w0 (rest) w'->K (A.put (some 18) v) w'):=Lib.hid hK0
      clear hK0 hF hS hE
      refine⟨some true,by rw [pg]; rfl,?_⟩
      rw [if_pos rfl]
      change Oper.wp _ _ A wx K _
      go_step
      exact hK.out _ _ rfl (H)
     case p14 =>
      intro x wx A rest hDf hF hS hE H K hK0
      replace hDf:=Lib.hid hDf
      have e18:A.tmps[18]?.getD undef=.pointer (some ⟨g,0,none⟩):=((hS 13 (by decide)).2 18 rfl).trans (hS 13 (by decide)).1
      have pg:=(hS 6 (by decide)).1
      replace H:Sp w0 (rest) wx:=H
      have hK:Hid (∀(v:Value) (w' : World),v=.pointer (some ⟨g,0,none⟩)->Sp w0 (rest) w'->K (A.put (some 19) v) w'):=Lib.hid hK0
      clear hK0 hF hS hE
      refine⟨some true,by rw [pg]; rfl,?_⟩
      rw [if_pos rfl]
      change Oper.wp _ _ A wx K _
      go_step
      exact hK.out _ _ rfl (H)
     case p15 =>
      intro x wx A rest hDf hF hS hE H K hK0
      replace hDf:=Lib.hid hDf
      have e19:A.tmps[19]?.getD undef=.pointer (some ⟨g,0,none⟩):=((hS 14 (by decide)).2 19 rfl).trans (hS 14 (by decide)).1
      have pg:=(hS 6 (by decide)).1
      replace H:Sp w0 (rest) wx:=H
      have hK:Hid (∀(v:Value) (w' : World),v=.slice A0 l c->Sp w0 (rest) w'->K (A.put (some 20) v) w'):=Lib.hid hK0
      clear hK0 hF hS
      have c0:wx.cell? ⟨g,0,none⟩=some (.slice A0 l c):=hE (fun w=>w.cell? ⟨g,0,none⟩=some (.slice A0 l c)) (fun _ _ H=>H.cell 0 rfl 0) _ _ H
      refine⟨some true,by rw [pg]; rfl,?_⟩
      rw [if_pos rfl]
      change Oper.wp _ _ A wx K _
      go_step
      exact hK.out _ _ rfl (H)
     case p16 =>
      intro x wx A rest hDf hF hS hE H K hK0
      replace hDf:=Lib.hid hDf
      have e20:A.tmps[20]?.getD undef=.slice A0 l c:=((hS 15 (by decide)).2 20 rfl).trans (hS 15 (by decide)).1
      have pg:=(hS 6 (by decide)).1
      replace H:Sp w0 (rest) wx:=H
      have hK:Hid (∀(v:Value) (w' : World),v=.int .i64 (l:Int)->Sp w0 (rest) w'->K (A.put (some 21) v) w'):=Lib.hid hK0
      clear hK0 hF hS hE
      refine⟨some true,by rw [pg]; rfl,?_⟩
      rw [if_pos rfl]
      change Oper.wp _ _ A wx K _
      go_step
      exact hK.out _ _ rfl (H)
     case p17 =>
      intro x wx A rest hDf hF hS hE H K hK0
      replace hDf:=Lib.hid hDf
      have e16:A.tmps[16]?.getD undef=.int .i64 ((j:Int)+3):=((hS 11 (by decide)).2 16 rfl).trans (hS 11 (by decide)).1
      have e21:A.tmps[21]?.getD undef=.int .i64 (l:Int):=((hS 16 (by decide)).2 21 rfl).trans (hS 16 (by decide)).1
      have pg:=(hS 6 (by decide)).1
      replace H:Sp w0 (rest) wx:=H
      have hK:Hid (∀(v:Value) (w' : World),v=.bool false->Sp w0 (rest) w'->K (A.put (some 22) v) w'):=Lib.hid hK0
      clear hK0 hF hS hE
      refine⟨some true,by rw [pg]; rfl,?_⟩
      rw [if_pos rfl]
      change Oper.wp _ _ A wx K _
      go_step
      exact hK.out _ _ rfl (H)
    case hend =>
     intro x wx A hA hS H
     replace H:Sp w0 (FdB g (.slice A0 l c) d mb j::Is mb (.map es clock)::Rows (PM.places B j) es.toList::L) wx:=H
     have y18:x 18=.bool false:=hS 18 (by decide)
     clear hS
     simp only [putAll,Act.put,List.setIfInBounds_toArray,List.set_cons_succ,List.set_cons_zero,Nat.reduceAdd] at hA
     subst hA
     rw [y18]
     clear y18
     go_wp2
     go_end0
     rw [show max n (min at_ (l - 2))=j by omega]
     exact⟨rfl,fd_shut hok H⟩
  ·have k1:¬ (j:Int)<at_:=by omega
   go_wp2_with fail
   refine wp_region_sc (L:=FdB g (.slice A0 l c) d mb j::Is mb (.map es clock)::Rows (PM.places B j) es.toList::L) [some (.pointer (some ⟨g,0,none⟩)),some (.pointer (some ⟨g,0,none⟩)),some (.pointer (some ⟨g,3,none⟩)),some (.int .i64 (j:Int)),some (.int .i64 (at_:Int)),some (.bool false),some (.bool false),some (undef),some (undef),some (undef),some (undef),some (undef),some (undef),some (undef),some (undef),some (undef),some (undef),some (undef),some (.bool false)] (fun _ _=>True) (fun _ _=>[]) (fun _=>[]) 19 56
    [some 5,some 6,some 7,some 8,some 9,some 10,some 11,some 12,some 13,some 14,some 15,some 16,some 17,some 18,some 19,some 20,some 21,some 22,some 23]
    [[],[0],[1],[2],[],[3,4],[5],[6],[7,6],[8,6],[9,6],[10,6],[6],[12,6],[13,6],[14,6],[15,6],[11,16,6],[6,17]]
    [[],[0],[0,1],[0,1,2],[],[0,1,2,3,4],[0,1,2,3,4,5],[0,1,2,3,4,5,6],[0,1,2,3,4,5,6,7],[0,1,2,3,4,5,6,7,8],[0,1,2,3,4,5,6,7,8,9],[0,1,2,3,4,5,6,7,8,9,10],[0,1,2,3,4,5,6],[0,1,2,3,4,5,6,12],[0,1,2,3,4,5,6,12,13],[0,1,2,3,4,5,6,12,13,14],[0,1,2,3,4,5,6,12,13,14,15],[0,1,2,3,4,5,6,7,8,9,10,11,12,13,14,15,16],[0,1,2,3,4,5,6,7,8,9,10,11,12,13,14,15,16,17]]
    [[],[],[],[],[],[],[],[],[],[],[],[],[],[],[],[],[],[],[]] [[],[],[],[],[],[],[],[],[],[],[],[],[],[],[],[],[],[],[]] [(0,.pointer (some ⟨g,0,none⟩)),(1,.int .i64 (at_:Int))]
    (by kernel_rfl) rfl (by decide) (by rfl) (by decide +kernel) rfl rfl (by simp) (H2) ?hstep ?hend
   case hstep =>
    refine⟨?p0,⟨?p1,⟨?p2,⟨?p3,⟨?p4,⟨?p5,⟨?p6,⟨?p7,⟨?p8,⟨?p9,⟨?p10,⟨?p11,⟨?p12,⟨?p13,⟨?p14,⟨?p15,⟨?p16,⟨?p17,⟨?p18,trivial⟩⟩⟩⟩⟩⟩⟩⟩⟩⟩⟩⟩⟩⟩⟩⟩⟩⟩⟩
    case p0 | p1 | p2 | p4 | p5 | p6 | p18 =>
     intro x wx A rest hDf hF hS hE H K hK
     replace hK:=Lib.hid hK
     clear hS hE hDf
     repeat (obtain⟨_,hF⟩:=hF)
     change Oper.wp _ _ A wx K _
     go_step
     exact hK.out _ _ rfl H
    case p3 =>
     intro x wx A rest hDf hF hS hE H K hK0
     replace hDf:=Lib.hid hDf
     have e7:A.tmps[7]?.getD undef=.pointer (some ⟨g,3,none⟩):=((hS 2 (by decide)).2 7 rfl).trans (hS 2 (by decide)).1
     replace H:Sp w0 (rest) wx:=H
     have hK:Hid (∀(v:Value) (w' : World),v=.int .i64 (j:Int)->Sp w0 (rest) w'->K (A.put (some 8) v) w'):=Lib.hid hK0
     clear hK0 hF hS
     have c3:wx.cell? ⟨g,3,none⟩=some (.int .i64 (j:Int)):=hE (fun w=>w.cell? ⟨g,3,none⟩=some (.int .i64 (j:Int))) (fun _ _ H=>H.cell 0 rfl 3) _ _ H
     change Oper.wp _ _ A wx K _
     go_step
     exact hK.out _ _ rfl (H)
    case p7 =>
     intro x wx A rest hDf hF hS hE H K hK0
     replace hDf:=Lib.hid hDf
     have e0:A.tmps[0]?.getD undef=.pointer (some ⟨g,0,none⟩):=factsE_get hF (0,.pointer (some ⟨g,0,none⟩)) (by simp) (by rfl)
     have pg:=(hS 6 (by decide)).1
     replace H:Sp w0 (rest) wx:=H
     have hK:Hid (∀(v:Value) (w' : World),v=undef->Sp w0 (rest) w'->K (A.put (some 12) v) w'):=Lib.hid hK0
     clear hK0 hF hS hE
     refine⟨some false,by rw [pg]; rfl,?_⟩
     rw [if_neg (by decide)]
     exact hK.out _ _ rfl (H)
    case p8 =>
     intro x wx A rest hDf hF hS hE H K hK0
     replace hDf:=Lib.hid hDf
     have e12:A.tmps[12]?.getD undef=undef:=((hS 7 (by decide)).2 12 rfl).trans (hS 7 (by decide)).1
     have pg:=(hS 6 (by decide)).1
     replace H:Sp w0 (rest) wx:=H
     have hK:Hid (∀(v:Value) (w' : World),v=undef->Sp w0 (rest) w'->K (A.put (some 13) v) w'):=Lib.hid hK0
     clear hK0 hF hS hE
     refine⟨some false,by rw [pg]; rfl,?_⟩
     rw [if_neg (by decide)]
     exact hK.out _ _ rfl (H)
    case p9 =>
     intro x wx A rest hDf hF hS hE H K hK0
     replace hDf:=Lib.hid hDf
     have e13:A.tmps[13]?.getD undef=undef:=((hS 8 (by decide)).2 13 rfl).trans (hS 8 (by decide)).1
     have pg:=(hS 6 (by decide)).1
     replace H:Sp w0 (rest) wx:=H
     have hK:Hid (∀(v:Value) (w' : World),v=undef->Sp w0 (rest) w'->K (A.put (some 14) v) w'):=Lib.hid hK0
     clear hK0 hF hS hE
     refine⟨some false,by rw [pg]; rfl,?_⟩
     rw [if_neg (by decide)]
     exact hK.out _ _ rfl (H)
    case p10 =>
     intro x wx A rest hDf hF hS hE H K hK0
     replace hDf:=Lib.hid hDf
     have e14:A.tmps[14]?.getD undef=undef:=((hS 9 (by decide)).2 14 rfl).trans (hS 9 (by decide)).1
     have pg:=(hS 6 (by decide)).1
     replace H:Sp w0 (rest) wx:=H
     have hK:Hid (∀(v:Value) (w' : World),v=undef->Sp w0 (rest) w'->K (A.put (some 15) v) w'):=Lib.hid hK0
     clear hK0 hF hS
     refine⟨some false,by rw [pg]; rfl,?_⟩
     rw [if_neg (by decide)]
     exact hK.out _ _ rfl (H)
    case p11 =>
     intro x wx A rest hDf hF hS hE H K hK0
     replace hDf:=Lib.hid hDf
     have e15:A.tmps[15]?.getD undef=undef:=((hS 10 (by decide)).2 15 rfl).trans (hS 10 (by decide)).1
     have pg:=(hS 6 (by decide)).1
     replace H:Sp w0 (rest) wx:=H
     have hK:Hid (∀(v:Value) (w' : World),v=undef->Sp w0 (rest) w'->K (A.put (some 16) v) w'):=Lib.hid hK0
     clear hK0 hF hS hE
     refine⟨some false,by rw [pg]; rfl,?_⟩
     rw [if_neg (by decide)]
     exact hK.out _ _ rfl (H)
    case p12 =>
     intro x wx A rest hDf hF hS hE H K hK0
     replace hDf:=Lib.hid hDf
     have e0:A.tmps[0]?.getD undef=.pointer (some ⟨g,0,none⟩):=factsE_get hF (0,.pointer (some ⟨g,0,none⟩)) (by simp) (by rfl)
     have pg:=(hS 6 (by decide)).1
     replace H:Sp w0 (rest) wx:=H
     have hK:Hid (∀(v:Value) (w' : World),v=undef->Sp w0 (rest) w'->K (A.put (some 17) v) w'):=Lib.hid hK0
     clear hK0 hF hS hE
     refine⟨some false,by rw [pg]; rfl,?_⟩
     rw [if_neg (by decide)]
     exact hK.out _ _ rfl (H)
    case p13 =>
     intro x wx A rest hDf hF hS hE H K hK0
     replace hDf:=Lib.hid hDf
     have e17:A.tmps[17]?.getD undef=undef:=((hS 12 (by decide)).2 17 rfl).trans (hS 12 (by decide)).1
     have pg:=(hS 6 (by decide)).1
     replace H:Sp w0 (rest) wx:=H
     have hK:Hid (∀(v:Value) (w' : World),v=undef->Sp w0 (rest) w'->K (A.put (some 18) v) w'):=Lib.hid hK0
     clear hK0 hF hS hE
     refine⟨some false,by rw [pg]; rfl,?_⟩
     rw [if_neg (by decide)]
     exact hK.out _ _ rfl (H)
    case p14 =>
     intro x wx A rest hDf hF hS hE H K hK0
     replace hDf:=Lib.hid hDf
     have e18:A.tmps[18]?.getD undef=undef:=((hS 13 (by decide)).2 18 rfl).trans (hS 13 (by decide)).1
     have pg:=(hS 6 (by decide)).1
     replace H:Sp w0 (rest) wx:=H
     have hK:Hid (∀(v:Value) (w' : World),v=undef->Sp w0 (rest) w'->K (A.put (some 19) v) w'):=Lib.hid hK0
     clear hK0 hF hS hE
     refine⟨some false,by rw [pg]; rfl,?_⟩
     rw [if_neg (by decide)]
     exact hK.out _ _ rfl (H)
    case p15 =>
     intro x wx A rest hDf hF hS hE H K hK0
     replace hDf:=Lib.hid hDf
     have e19:A.tmps[19]?.getD undef=undef:=((hS 14 (by decide)).2 19 rfl).trans (hS 14 (by decide)).1
     have pg:=(hS 6 (by decide)).1
     replace H:Sp w0 (rest) wx:=H
     have hK:Hid (∀(v:Value) (w' : World),v=undef->Sp w0 (rest) w'->K (A.put (some 20) v) w'):=Lib.hid hK0
     clear hK0 hF hS
     refine⟨some false,by rw [pg]; rfl,?_⟩
     rw [if_neg (by decide)]
     exact hK.out _ _ rfl (H)
    case p16 =>
     intro x wx A rest hDf hF hS hE H K hK0
     replace hDf:=Lib.hid hDf
     have e20:A.tmps[20]?.getD undef=undef:=((hS 15 (by decide)).2 20 rfl).trans (hS 15 (by decide)).1
     have pg:=(hS 6 (by decide)).1
     replace H:Sp w0 (rest) wx:=H
     have hK:Hid (∀(v:Value) (w' : World),v=undef->Sp w0 (rest) w'->K (A.put (some 21) v) w'):=Lib.hid hK0
     clear hK0 hF hS hE
     refine⟨some false,by rw [pg]; rfl,?_⟩
     rw [if_neg (by decide)]
     exact hK.out _ _ rfl (H)
    case p17 =>
     intro x wx A rest hDf hF hS hE H K hK0
     replace hDf:=Lib.hid hDf
     have e16:A.tmps[16]?.getD undef=undef:=((hS 11 (by decide)).2 16 rfl).trans (hS 11 (by decide)).1
     have e21:A.tmps[21]?.getD undef=undef:=((hS 16 (by decide)).2 21 rfl).trans (hS 16 (by decide)).1
     have pg:=(hS 6 (by decide)).1
     replace H:Sp w0 (rest) wx:=H
     have hK:Hid (∀(v:Value) (w' : World),v=undef->Sp w0 (rest) w'->K (A.put (some 22) v) w'):=Lib.hid hK0
     clear hK0 hF hS hE
     refine⟨some false,by rw [pg]; rfl,?_⟩
     rw [if_neg (by decide)]
     exact hK.out _ _ rfl (H)
   case hend =>
    intro x wx A hA hS H
    replace H:Sp w0 (FdB g (.slice A0 l c) d mb j::Is mb (.map es clock)::Rows (PM.places B j) es.toList::L) wx:=H
    have y18:x 18=.bool false:=hS 18 (by decide)
    clear hS
    simp only [putAll,Act.put,List.setIfInBounds_toArray,List.set_cons_succ,List.set_cons_zero,Nat.reduceAdd] at hA
    subst hA
    rw [y18]
    clear y18
    go_wp2
    go_end0
    rw [show max n (min at_ (l - 2))=j by omega]
    exact⟨rfl,fd_shut hok H⟩
end Go.Proofs.YtloijdbkikccgaaDoor

