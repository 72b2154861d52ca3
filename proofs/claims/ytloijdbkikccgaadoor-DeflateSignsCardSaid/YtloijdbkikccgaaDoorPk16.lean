/- A pack of texts: MatchF. -/
import Derived.Laws.Cover3
import Derived.Test.YtloijdbkikccgaaDoorPk02
import Derived.Test.YtloijdbkikccgaaDoorPk13
namespace Go.Proofs.YtloijdbkikccgaaDoor
open Go.RowKit
def FdB (g:Nat) (bv:Value) (d:Int) (mb n:Nat):Pr:=Bk g 154 [bv,.int .i64 d,.map (some mb),.int .i64 (n:Int)]
set_option maxRecDepth 100000 in
set_option maxHeartbeats 1000000 in
theorem long_ok (g p q n:Nat) (A0:Option Addr) (c:Nat) (B:List UInt8) {w0 w:World} {L:List Pr} (H:Sp w0 L w) (hn:n=B.length) (hc0:Ent L (fun w=>w.cell? ⟨g,0,none⟩=some (.slice A0 n c))) (hb:Ent L (fun w=>Byt w (.slice A0 n c) B)) (hpq:p<q) (hq:q<=1000000000) (hl:n<=1000000000) :
  Calls Tryd.prog 75 #[.pointer (some ⟨g,0,none⟩),.int .i64 (p:Int),.int .i64 (q:Int)] w fun e w'=>e=.returned (.int .i64 (PM.mlen B p q:Nat))/\Sp w0 L w':=by
 have HN:=Lib.hid hn
 have HC0:=Lib.hid hc0
 have HB:=Lib.hid hb
 clear hn hc0 hb
 go_enter Tryd.func75,Tryd.ntmps75
 go_wp2
 go_loopw [7] (fun i wr=>∃j:Nat,i=.int .i64 (j:Int)/\j<=258/\(∀i,i<j->q+i<B.length/\B.getD (p+i) 0=B.getD (q+i) 0)/\Sp w0 L wr) (fun i _=>258 - (intOf i).toNat)
 case atStart=>exact⟨0,rfl,by omega,fun i h=>absurd h (Nat.not_lt_zero _),H⟩
 case round =>
  obtain⟨j,rfl,hj,hs,H⟩:=hrel
  have HS:=Lib.hid hs
  clear hs
  by_cases h258:j<258
  ·have k1:(j:Int)<258:=by omega
   obtain⟨pj,hpj⟩:∃pj,p+j=pj:=⟨_,rfl⟩
   obtain⟨qj,hqj⟩:∃qj,q+j=qj:=⟨_,rfl⟩
   have y1:(q:Int)+(j:Int)=(qj:Int):=by omega
   have y2:(p:Int)+(j:Int)=(pj:Int):=by omega
   have y3:pj<qj:=by omega
   have y4:qj<=1000001000:=by omega
   have HPJ:=Lib.hid hpj
   have HQJ:=Lib.hid hqj
   clear hpj hqj
   by_cases hqn:qj<n
   ·have k2:(qj:Int)<n:=by omega
    have k3:(pj:Int)<n:=by omega
    have hqb:qj<B.length:=by rw [<- HN.out]; exact hqn
    have hpb:pj<B.length:=by omega
    obtain⟨ad,rfl⟩:∃ad,A0=some ad:=by
     obtain⟨_,_,e,hr,_,_⟩:=HB.out _ _ H
     obtain⟨ad,e2,_⟩:=hr.at8 hqb
     injection e with e
     exact⟨ad,e.trans e2⟩
    have hcell:∀i (h:i<B.length),Ent L (fun w=>w.cell? (ad.add i)=some (.int .u8 ((B[i]).toNat:Int))):=fun i h=>HB.out.mono fun w' hw=>by
     obtain⟨_,_,e,hr,_,_⟩:=hw
     obtain⟨ad2,e2,hc⟩:=hr.at8 h
     injection e with e
     rw [<- e] at e2
     injection e2 with e2
     rw [e2]; exact hc
    have X1:=Lib.hid (hcell pj hpb)
    have X2:=Lib.hid (hcell qj hqb)
    clear hcell
    obtain⟨xb,hxb⟩:∃xb,(B[pj]).toNat=xb:=⟨_,rfl⟩
    obtain⟨yb,hyb⟩:∃yb,(B[qj]).toNat=yb:=⟨_,rfl⟩
    have hbe:B.getD (p+j) 0=B.getD (q+j) 0↔xb=yb:=by
     rw [HPJ.out,HQJ.out,List.getD_eq_getElem?_getD,List.getD_eq_getElem?_getD,List.getElem?_eq_getElem hpb,List.getElem?_eq_getElem hqb,<- hxb,<- hyb]
     exact UInt8.toNat_inj.symm
    rw [hxb] at X1
    rw [hyb] at X2
    have HBE:=Lib.hid hbe
    obtain⟨be,hbe2⟩:∃be,((xb:Int) == (yb:Int))=be:=⟨_,rfl⟩
    have hbe3:be=true↔xb=yb:=by rw [<- hbe2,beq_iff_eq]; omega
    have HBE3:=Lib.hid hbe3
    clear hxb hyb hbe hbe3
    go_wp2_with fail
    refine wp_region_sp (L:=L) (fun ix vx=>([(·=.int .i64 (j:Int)),(·=.bool true),(·=.bool true),(·=.int .i64 (q:Int)),(·=.int .i64 (j:Int)),(·=.int .i64 (qj:Int)),(·=.pointer (some ⟨g,0,none⟩)),(·=.pointer (some ⟨g,0,none⟩)),(·=.pointer (some ⟨g,0,none⟩)),(·=.slice (some ad) n c),(·=.int .i64 (n:Int)),(·=.bool true),(·=.bool true),(·=.bool true),(·=.pointer (some ⟨g,0,none⟩)),(·=.pointer (some ⟨g,0,none⟩)),(·=.pointer (some ⟨g,0,none⟩)),(·=.slice (some ad) n c),(·=.int .i64 (p:Int)),(·=.int .i64 (j:Int)),(·=.int .i64 (pj:Int)),(·=.pointer (some (ad.add pj))),(·=.int .u8 (xb:Int)),(·=.pointer (some ⟨g,0,none⟩)),(·=.pointer (some ⟨g,0,none⟩)),(·=.pointer (some ⟨g,0,none⟩)),(·=.slice (some ad) n c),(·=.int .i64 (q:Int)),(·=.int .i64 (j:Int)),(·=.int .i64 (qj:Int)),(·=.pointer (some (ad.add qj))),(·=.int .u8 (yb:Int)),(·=.bool be),(·=.bool be)]:List (Value->Prop)).getD ix (fun _=>True) vx)
     (fun ix vx=>([fun _=>[],fun _=>[],fun _=>[],fun _=>[],fun _=>[],fun _=>[],fun _=>[],fun _=>[],fun _=>[],fun _=>[],fun _=>[],fun _=>[],fun _=>[],fun _=>[],fun _=>[],fun _=>[],fun _=>[],fun _=>[],fun _=>[],fun _=>[],fun _=>[],fun _=>[],fun _=>[],fun _=>[],fun _=>[],fun _=>[],fun _=>[],fun _=>[],fun _=>[],fun _=>[],fun _=>[],fun _=>[],fun _=>[],fun _=>[]]:List (Value->List Pr)).getD ix (fun _=>[]) vx) (fun ix=>([[],[],[],[],[],[],[],[],[],[],[],[],[],[],[],[],[],[],[],[],[],[],[],[],[],[],[],[],[],[],[],[],[],[]]:List (List Pr)).getD ix []) 34 45
     [some 8,some 9,some 10,some 11,some 12,some 13,some 14,some 15,some 16,some 17,some 18,some 19,some 20,some 21,some 22,some 23,some 24,some 25,some 26,some 27,some 28,some 29,some 30,some 31,some 32,some 33,some 34,some 35,some 36,some 37,some 38,some 39,some 40,some 41]
     [[],[0],[1],[2],[2],[3,4,2],[2],[6,2],[7,2],[8,2],[9,2],[5,10,2],[2,11],[12,2],[13],[14,13],[15,13],[16,13],[13],[13],[18,19,13],[17,20,13],[21,13],[13],[23,13],[24,13],[25,13],[13],[13],[27,28,13],[26,29,13],[30,13],[22,31,13],[13,32]]
     [[],[0],[0,1],[0,1,2],[0,1,2],[0,1,2,3,4],[0,1,2],[0,1,2,6],[0,1,2,6,7],[0,1,2,6,7,8],[0,1,2,6,7,8,9],[0,1,2,3,4,5,6,7,8,9,10],[0,1,2,3,4,5,6,7,8,9,10,11],[0,1,2,3,4,5,6,7,8,9,10,11,12],[0,1,2,3,4,5,6,7,8,9,10,11,12,13],[0,1,2,3,4,5,6,7,8,9,10,11,12,13,14],[0,1,2,3,4,5,6,7,8,9,10,11,12,13,14,15],[0,1,2,3,4,5,6,7,8,9,10,11,12,13,14,15,16],[0,1,2,3,4,5,6,7,8,9,10,11,12,13],[0,1,2,3,4,5,6,7,8,9,10,11,12,13],[0,1,2,3,4,5,6,7,8,9,10,11,12,13,18,19],[0,1,2,3,4,5,6,7,8,9,10,11,12,13,14,15,16,17,18,19,20],[0,1,2,3,4,5,6,7,8,9,10,11,12,13,14,15,16,17,18,19,20,21],[0,1,2,3,4,5,6,7,8,9,10,11,12,13],[0,1,2,3,4,5,6,7,8,9,10,11,12,13,23],[0,1,2,3,4,5,6,7,8,9,10,11,12,13,23,24],[0,1,2,3,4,5,6,7,8,9,10,11,12,13,23,24,25],[0,1,2,3,4,5,6,7,8,9,10,11,12,13],[0,1,2,3,4,5,6,7,8,9,10,11,12,13],[0,1,2,3,4,5,6,7,8,9,10,11,12,13,27,28],[0,1,2,3,4,5,6,7,8,9,10,11,12,13,23,24,25,26,27,28,29],[0,1,2,3,4,5,6,7,8,9,10,11,12,13,23,24,25,26,27,28,29,30],[0,1,2,3,4,5,6,7,8,9,10,11,12,13,14,15,16,17,18,19,20,21,22,23,24,25,26,27,28,29,30,31],[0,1,2,3,4,5,6,7,8,9,10,11,12,13,14,15,16,17,18,19,20,21,22,23,24,25,26,27,28,29,30,31,32]]
     [[],[],[],[],[],[],[],[],[],[],[],[],[],[],[],[],[],[],[],[],[],[],[],[],[],[],[],[],[],[],[],[],[],[]]
     [[],[],[],[],[],[],[],[],[],[],[],[],[],[],[],[],[],[],[],[],[],[],[],[],[],[],[],[],[],[],[],[],[],[]]
     [(0,.pointer (some ⟨g,0,none⟩)),(1,.int .i64 (p:Int)),(2,.int .i64 (q:Int)),(7,.int .i64 (j:Int))]
     (by kernel_rfl) rfl (by decide) (by rfl) rfl (by decide +kernel) (by decide +kernel) (by rfl) rfl rfl (by decide) (by simp) (by rfl) (H) ?hstep ?hend
    case hstep =>
     refine⟨?_,⟨?_,⟨?_,⟨?_,⟨?_,⟨?_,⟨?_,⟨?_,⟨?_,⟨?_,⟨?_,⟨?_,⟨?_,⟨?_,⟨?_,⟨?_,⟨?_,⟨?_,⟨?_,⟨?_,⟨?_,⟨?_,⟨?_,⟨?_,⟨?_,⟨?_,⟨?_,⟨?_,⟨?_,⟨?_,⟨?_,⟨?_,⟨?_,⟨?_,trivial⟩⟩⟩⟩⟩⟩⟩⟩⟩⟩⟩⟩⟩⟩⟩⟩⟩⟩⟩⟩⟩⟩⟩⟩⟩⟩⟩⟩⟩⟩⟩⟩⟩⟩
     ·intro x wx A rest hN hS hE H K hK0
      have e7:A.tmps[7]?.getD undef=.int .i64 (j:Int):=hN (7,.int .i64 (j:Int)) (by simp)
      replace H:Sp w0 (rest) wx:=H
      have hK:Hid (∀(v:Value) (w' : World),v=.int .i64 (j:Int)->Sp w0 (rest) w'->K (A.put (some 8) v) w'):=Lib.hid hK0
      clear hK0 hN hS hE
      change Oper.wp _ _ A wx K _
      go_step
      exact hK.out _ _ rfl (H)
     ·intro x wx A rest hN hS hE H K hK0
      have e8:A.tmps[8]?.getD undef=.int .i64 (j:Int):=((hS 0 (by decide)).2 8 rfl).trans (hS 0 (by decide)).1
      replace H:Sp w0 (rest) wx:=H
      have hK:Hid (∀(v:Value) (w' : World),v=.bool true->Sp w0 (rest) w'->K (A.put (some 9) v) w'):=Lib.hid hK0
      clear hK0 hN hS hE
      change Oper.wp _ _ A wx K _
      go_step
      exact hK.out _ _ rfl (H)
     ·intro x wx A rest hN hS hE H K hK0
      have e9:A.tmps[9]?.getD undef=.bool true:=((hS 1 (by decide)).2 9 rfl).trans (hS 1 (by decide)).1
      replace H:Sp w0 (rest) wx:=H
      have hK:Hid (∀(v:Value) (w' : World),v=.bool true->Sp w0 (rest) w'->K (A.put (some 10) v) w'):=Lib.hid hK0
      clear hK0 hN hS hE
      change Oper.wp _ _ A wx K _
      go_step
      exact hK.out _ _ rfl (H)
     ·intro x wx A rest hN hS hE H K hK0
      have e2:A.tmps[2]?.getD undef=.int .i64 (q:Int):=hN (2,.int .i64 (q:Int)) (by simp)
      have pg:=(hS 2 (by decide)).1
      replace H:Sp w0 (rest) wx:=H
      have hK:Hid (∀(v:Value) (w' : World),v=.int .i64 (q:Int)->Sp w0 (rest) w'->K (A.put (some 11) v) w'):=Lib.hid hK0
      clear hK0 hN hS hE
      refine⟨some true,by rw [pg]; rfl,?_⟩
      rw [if_pos rfl]
      change Oper.wp _ _ A wx K _
      go_step
      exact hK.out _ _ rfl (H)
     ·intro x wx A rest hN hS hE H K hK0
      have e7:A.tmps[7]?.getD undef=.int .i64 (j:Int):=hN (7,.int .i64 (j:Int)) (by simp)
      have pg:=(hS 2 (by decide)).1
      replace H:Sp w0 (rest) wx:=H
      have hK:Hid (∀(v:Value) (w' : World),v=.int .i64 (j:Int)->Sp w0 (rest) w'->K (A.put (some 12) v) w'):=Lib.hid hK0
      clear hK0 hN hS hE
      refine⟨some true,by rw [pg]; rfl,?_⟩
      rw [if_pos rfl]
      change Oper.wp _ _ A wx K _
      go_step
      exact hK.out _ _ rfl (H)
     ·intro x wx A rest hN hS hE H K hK0
      have e11:A.tmps[11]?.getD undef=.int .i64 (q:Int):=((hS 3 (by decide)).2 11 rfl).trans (hS 3 (by decide)).1
      have e12:A.tmps[12]?.getD undef=.int .i64 (j:Int):=((hS 4 (by decide)).2 12 rfl).trans (hS 4 (by decide)).1
      have pg:=(hS 2 (by decide)).1
      replace H:Sp w0 (rest) wx:=H
      have hK:Hid (∀(v:Value) (w' : World),v=.int .i64 (qj:Int)->Sp w0 (rest) w'->K (A.put (some 13) v) w'):=Lib.hid hK0
      clear hK0 hN hS hE
      refine⟨some true,by rw [pg]; rfl,?_⟩
      rw [if_pos rfl]
      change Oper.wp _ _ A wx K _
      go_step
      exact hK.out _ _ rfl (H)
     ·intro x wx A rest hN hS hE H K hK0
      have e0:A.tmps[0]?.getD undef=.pointer (some ⟨g,0,none⟩):=hN (0,.pointer (some ⟨g,0,none⟩)) (by simp)
      have pg:=(hS 2 (by decide)).1
      replace H:Sp w0 (rest) wx:=H
      have hK:Hid (∀(v:Value) (w' : World),v=.pointer (some ⟨g,0,none⟩)->Sp w0 (rest) w'->K (A.put (some 14) v) w'):=Lib.hid hK0
      clear hK0 hN hS hE
      refine⟨some true,by rw [pg]; rfl,?_⟩
      rw [if_pos rfl]
      change Oper.wp _ _ A wx K _
      go_step
      exact hK.out _ _ rfl (H)
     ·intro x wx A rest hN hS hE H K hK0
      have e14:A.tmps[14]?.getD undef=.pointer (some ⟨g,0,none⟩):=((hS 6 (by decide)).2 14 rfl).trans (hS 6 (by decide)).1
      have pg:=(hS 2 (by decide)).1
      replace H:Sp w0 (rest) wx:=H
      have hK:Hid (∀(v:Value) (w' : World),v=.pointer (some ⟨g,0,none⟩)->Sp w0 (rest) w'->K (A.put (some 15) v) w'):=Lib.hid hK0
      clear hK0 hN hS hE
      refine⟨some true,by rw [pg]; rfl,?_⟩
      rw [if_pos rfl]
      change Oper.wp _ _ A wx K _
      go_step
      exact hK.out _ _ rfl (H)
     ·intro x wx A rest hN hS hE H K hK0
      have e15:A.tmps[15]?.getD undef=.pointer (some ⟨g,0,none⟩):=((hS 7 (by decide)).2 15 rfl).trans (hS 7 (by decide)).1
      have pg:=(hS 2 (by decide)).1
      replace H:Sp w0 (rest) wx:=H
      have hK:Hid (∀(v:Value) (w' : World),v=.pointer (some ⟨g,0,none⟩)->Sp w0 (rest) w'->K (A.put (some 16) v) w'):=Lib.hid hK0
      clear hK0 hN hS hE
      refine⟨some true,by rw [pg]; rfl,?_⟩
      rw [if_pos rfl]
      change Oper.wp _ _ A wx K _
      go_step
      exact hK.out _ _ rfl (H)
     ·intro x wx A rest hN hS hE H K hK0
      have e16:A.tmps[16]?.getD undef=.pointer (some ⟨g,0,none⟩):=((hS 8 (by decide)).2 16 rfl).trans (hS 8 (by decide)).1
      have pg:=(hS 2 (by decide)).1
      replace H:Sp w0 (rest) wx:=H
      have hK:Hid (∀(v:Value) (w' : World),v=.slice (some ad) n c->Sp w0 (rest) w'->K (A.put (some 17) v) w'):=Lib.hid hK0
      clear hK0 hN hS
      have c0:wx.cell? ⟨g,0,none⟩=some (.slice (some ad) n c):=hE _ HC0.out _ _ H
      refine⟨some true,by rw [pg]; rfl,?_⟩
      rw [if_pos rfl]
      change Oper.wp _ _ A wx K _
      go_step
      exact hK.out _ _ rfl (H)
     ·intro x wx A rest hN hS hE H K hK0
      have e17:A.tmps[17]?.getD undef=.slice (some ad) n c:=((hS 9 (by decide)).2 17 rfl).trans (hS 9 (by decide)).1
      have pg:=(hS 2 (by decide)).1
      replace H:Sp w0 (rest) wx:=H
      have hK:Hid (∀(v:Value) (w' : World),v=.int .i64 (n:Int)->Sp w0 (rest) w'->K (A.put (some 18) v) w'):=Lib.hid hK0
      clear hK0 hN hS hE
      refine⟨some true,by rw [pg]; rfl,?_⟩
      rw [if_pos rfl]
      change Oper.wp _ _ A wx K _
      go_step
      exact hK.out _ _ rfl (H)
     ·intro x wx A rest hN hS hE H K hK0
      have e13:A.tmps[13]?.getD undef=.int .i64 (qj:Int):=((hS 5 (by decide)).2 13 rfl).trans (hS 5 (by decide)).1
      have e18:A.tmps[18]?.getD undef=.int .i64 (n:Int):=((hS 10 (by decide)).2 18 rfl).trans (hS 10 (by decide)).1
      have pg:=(hS 2 (by decide)).1
      replace H:Sp w0 (rest) wx:=H
      have hK:Hid (∀(v:Value) (w' : World),v=.bool true->Sp w0 (rest) w'->K (A.put (some 19) v) w'):=Lib.hid hK0
      clear hK0 hN hS hE
      refine⟨some true,by rw [pg]; rfl,?_⟩
      rw [if_pos rfl]
      change Oper.wp _ _ A wx K _
      go_step
      exact hK.out _ _ rfl (H)
     ·intro x wx A rest hN hS hE H K hK0
      have e10:A.tmps[10]?.getD undef=.bool true:=((hS 2 (by decide)).2 10 rfl).trans (hS 2 (by decide)).1
      have e19:A.tmps[19]?.getD undef=.bool true:=((hS 11 (by decide)).2 19 rfl).trans (hS 11 (by decide)).1
      replace H:Sp w0 (rest) wx:=H
      have hK:Hid (∀(v:Value) (w' : World),v=.bool true->Sp w0 (rest) w'->K (A.put (some 20) v) w'):=Lib.hid hK0
      clear hK0 hN hS hE
      change Oper.wp _ _ A wx K _
      go_step
      exact hK.out _ _ rfl (H)
     ·intro x wx A rest hN hS hE H K hK0
      have e20:A.tmps[20]?.getD undef=.bool true:=((hS 12 (by decide)).2 20 rfl).trans (hS 12 (by decide)).1
      replace H:Sp w0 (rest) wx:=H
      have hK:Hid (∀(v:Value) (w' : World),v=.bool true->Sp w0 (rest) w'->K (A.put (some 21) v) w'):=Lib.hid hK0
      clear hK0 hN hS hE
      change Oper.wp _ _ A wx K _
      go_step
      exact hK.out _ _ rfl (H)
     ·intro x wx A rest hN hS hE H K hK0
      have e0:A.tmps[0]?.getD undef=.pointer (some ⟨g,0,none⟩):=hN (0,.pointer (some ⟨g,0,none⟩)) (by simp)
      have pg:=(hS 13 (by decide)).1
      replace H:Sp w0 (rest) wx:=H
      have hK:Hid (∀(v:Value) (w' : World),v=.pointer (some ⟨g,0,none⟩)->Sp w0 (rest) w'->K (A.put (some 22) v) w'):=Lib.hid hK0
      clear hK0 hN hS hE
      refine⟨some true,by rw [pg]; rfl,?_⟩
      rw [if_pos rfl]
      change Oper.wp _ _ A wx K _
      go_step
      exact hK.out _ _ rfl (H)
     ·intro x wx A rest hN hS hE H K hK0
      have e22:A.tmps[22]?.getD undef=.pointer (some ⟨g,0,none⟩):=((hS 14 (by decide)).2 22 rfl).trans (hS 14 (by decide)).1
      have pg:=(hS 13 (by decide)).1
      replace H:Sp w0 (rest) wx:=H
      have hK:Hid (∀(v:Value) (w' : World),v=.pointer (some ⟨g,0,none⟩)->Sp w0 (rest) w'->K (A.put (some 23) v) w'):=Lib.hid hK0
      clear hK0 hN hS hE
      refine⟨some true,by rw [pg]; rfl,?_⟩
      rw [if_pos rfl]
      change Oper.wp _ _ A wx K _
      go_step
      exact hK.out _ _ rfl (H)
     ·intro x wx A rest hN hS hE H K hK0
      have e23:A.tmps[23]?.getD undef=.pointer (some ⟨g,0,none⟩):=((hS 15 (by decide)).2 23 rfl).trans (hS 15 (by decide)).1
      have pg:=(hS 13 (by decide)).1
      replace H:Sp w0 (rest) wx:=H
      have hK:Hid (∀(v:Value) (w' : World),v=.pointer (some ⟨g,0,none⟩)->Sp w0 (rest) w'->K (A.put (some 24) v) w'):=Lib.hid hK0
      clear hK0 hN hS hE
      refine⟨some true,by rw [pg]; rfl,?_⟩
      rw [if_pos rfl]
      change Oper.wp _ _ A wx K _
      go_step
      exact hK.out _ _ rfl (H)
     ·intro x wx A rest hN hS hE H K hK0
      have e24:A.tmps[24]?.getD undef=.pointer (some ⟨g,0,none⟩):=((hS 16 (by decide)).2 24 rfl).trans (hS 16 (by decide)).1
      have pg:=(hS 13 (by decide)).1
      replace H:Sp w0 (rest) wx:=H
      have hK:Hid (∀(v:Value) (w' : World),v=.slice (some ad) n c->Sp w0 (rest) w'->K (A.put (some 25) v) w'):=Lib.hid hK0
      clear hK0 hN hS
      have c0:wx.cell? ⟨g,0,none⟩=some (.slice (some ad) n c):=hE _ HC0.out _ _ H
      refine⟨some true,by rw [pg]; rfl,?_⟩
      rw [if_pos rfl]
      change Oper.wp _ _ A wx K _
      go_step
      exact hK.out _ _ rfl (H)
     ·intro x wx A rest hN hS hE H K hK0
      have e1:A.tmps[1]?.getD undef=.int .i64 (p:Int):=hN (1,.int .i64 (p:Int)) (by simp)
      have pg:=(hS 13 (by decide)).1
      replace H:Sp w0 (rest) wx:=H
      have hK:Hid (∀(v:Value) (w' : World),v=.int .i64 (p:Int)->Sp w0 (rest) w'->K (A.put (some 26) v) w'):=Lib.hid hK0
      clear hK0 hN hS hE
      refine⟨some true,by rw [pg]; rfl,?_⟩
      rw [if_pos rfl]
      change Oper.wp _ _ A wx K _
      go_step
      exact hK.out _ _ rfl (H)
     ·intro x wx A rest hN hS hE H K hK0
      have e7:A.tmps[7]?.getD undef=.int .i64 (j:Int):=hN (7,.int .i64 (j:Int)) (by simp)
      have pg:=(hS 13 (by decide)).1
      replace H:Sp w0 (rest) wx:=H
      have hK:Hid (∀(v:Value) (w' : World),v=.int .i64 (j:Int)->Sp w0 (rest) w'->K (A.put (some 27) v) w'):=Lib.hid hK0
      clear hK0 hN hS hE
      refine⟨some true,by rw [pg]; rfl,?_⟩
      rw [if_pos rfl]
      change Oper.wp _ _ A wx K _
      go_step
      exact hK.out _ _ rfl (H)
     ·intro x wx A rest hN hS hE H K hK0
      have e26:A.tmps[26]?.getD undef=.int .i64 (p:Int):=((hS 18 (by decide)).2 26 rfl).trans (hS 18 (by decide)).1
      have e27:A.tmps[27]?.getD undef=.int .i64 (j:Int):=((hS 19 (by decide)).2 27 rfl).trans (hS 19 (by decide)).1
      have pg:=(hS 13 (by decide)).1
      replace H:Sp w0 (rest) wx:=H
      have hK:Hid (∀(v:Value) (w' : World),v=.int .i64 (pj:Int)->Sp w0 (rest) w'->K (A.put (some 28) v) w'):=Lib.hid hK0
      clear hK0 hN hS hE
      refine⟨some true,by rw [pg]; rfl,?_⟩
      rw [if_pos rfl]
      change Oper.wp _ _ A wx K _
      go_step
      exact hK.out _ _ rfl (H)
     ·intro x wx A rest hN hS hE H K hK0
      have e25:A.tmps[25]?.getD undef=.slice (some ad) n c:=((hS 17 (by decide)).2 25 rfl).trans (hS 17 (by decide)).1
      have e28:A.tmps[28]?.getD undef=.int .i64 (pj:Int):=((hS 20 (by decide)).2 28 rfl).trans (hS 20 (by decide)).1
      have pg:=(hS 13 (by decide)).1
      replace H:Sp w0 (rest) wx:=H
      have hK:Hid (∀(v:Value) (w' : World),v=.pointer (some (ad.add pj))->Sp w0 (rest) w'->K (A.put (some 29) v) w'):=Lib.hid hK0
      clear hK0 hN hS hE
      refine⟨some true,by rw [pg]; rfl,?_⟩
      rw [if_pos rfl]
      change Oper.wp _ _ A wx K _
      go_step
      exact hK.out _ _ rfl (H)
     ·intro x wx A rest hN hS hE H K hK0
      have e29:A.tmps[29]?.getD undef=.pointer (some (ad.add pj)):=((hS 21 (by decide)).2 29 rfl).trans (hS 21 (by decide)).1
      have pg:=(hS 13 (by decide)).1
      replace H:Sp w0 (rest) wx:=H
      have hK:Hid (∀(v:Value) (w' : World),v=.int .u8 (xb:Int)->Sp w0 (rest) w'->K (A.put (some 30) v) w'):=Lib.hid hK0
      clear hK0 hN hS
      have c1:wx.cell? (ad.add pj)=some (.int .u8 (xb:Int)):=hE _ X1.out _ _ H
      refine⟨some true,by rw [pg]; rfl,?_⟩
      rw [if_pos rfl]
      change Oper.wp _ _ A wx K _
      go_step
      exact hK.out _ _ rfl (H)
     ·intro x wx A rest hN hS hE H K hK0
      have e0:A.tmps[0]?.getD undef=.pointer (some ⟨g,0,none⟩):=hN (0,.pointer (some ⟨g,0,none⟩)) (by simp)
      have pg:=(hS 13 (by decide)).1
      replace H:Sp w0 (rest) wx:=H
      have hK:Hid (∀(v:Value) (w' : World),v=.pointer (some ⟨g,0,none⟩)->Sp w0 (rest) w'->K (A.put (some 31) v) w'):=Lib.hid hK0
      clear hK0 hN hS hE
      refine⟨some true,by rw [pg]; rfl,?_⟩
      rw [if_pos rfl]
      change Oper.wp _ _ A wx K _
      go_step
      exact hK.out _ _ rfl (H)
     ·intro x wx A rest hN hS hE H K hK0
      have e31:A.tmps[31]?.getD undef=.pointer (some ⟨g,0,none⟩):=((hS 23 (by decide)).2 31 rfl).trans (hS 23 (by decide)).1
      have pg:=(hS 13 (by decide)).1
      replace H:Sp w0 (rest) wx:=H
      have hK:Hid (∀(v:Value) (w' : World),v=.pointer (some ⟨g,0,none⟩)->Sp w0 (rest) w'->K (A.put (some 32) v) w'):=Lib.hid hK0
      clear hK0 hN hS hE
      refine⟨some true,by rw [pg]; rfl,?_⟩
      rw [if_pos rfl]
      change Oper.wp _ _ A wx K _
      go_step
      exact hK.out _ _ rfl (H)
     ·intro x wx A rest hN hS hE H K hK0
      have e32:A.tmps[32]?.getD undef=.pointer (some ⟨g,0,none⟩):=((hS 24 (by decide)).2 32 rfl).trans (hS 24 (by decide)).1
      have pg:=(hS 13 (by decide)).1
      replace H:Sp w0 (rest) wx:=H
      have hK:Hid (∀(v:Value) (w' : World),v=.pointer (some ⟨g,0,none⟩)->Sp w0 (rest) w'->K (A.put (some 33) v) w'):=Lib.hid hK0
      clear hK0 hN hS hE
      refine⟨some true,by rw [pg]; rfl,?_⟩
      rw [if_pos rfl]
      change Oper.wp _ _ A wx K _
      go_step
      exact hK.out _ _ rfl (H)
     ·intro x wx A rest hN hS hE H K hK0
      have e33:A.tmps[33]?.getD undef=.pointer (some ⟨g,0,none⟩):=((hS 25 (by decide)).2 33 rfl).trans (hS 25 (by decide)).1
      have pg:=(hS 13 (by decide)).1
      replace H:Sp w0 (rest) wx:=H
      have hK:Hid (∀(v:Value) (w' : World),v=.slice (some ad) n c->Sp w0 (rest) w'->K (A.put (some 34) v) w'):=Lib.hid hK0
      clear hK0 hN hS
      have c0:wx.cell? ⟨g,0,none⟩=some (.slice (some ad) n c):=hE _ HC0.out _ _ H
      refine⟨some true,by rw [pg]; rfl,?_⟩
      rw [if_pos rfl]
      change Oper.wp _ _ A wx K _
      go_step
      exact hK.out _ _ rfl (H)
     ·intro x wx A rest hN hS hE H K hK0
      have e2:A.tmps[2]?.getD undef=.int .i64 (q:Int):=hN (2,.int .i64 (q:Int)) (by simp)
      have pg:=(hS 13 (by decide)).1
      replace H:Sp w0 (rest) wx:=H
      have hK:Hid (∀(v:Value) (w' : World),v=.int .i64 (q:Int)->Sp w0 (rest) w'->K (A.put (some 35) v) w'):=Lib.hid hK0
      clear hK0 hN hS hE
      refine⟨some true,by rw [pg]; rfl,?_⟩
      rw [if_pos rfl]
      change Oper.wp _ _ A wx K _
      go_step
      exact hK.out _ _ rfl (H)
     ·intro x wx A rest hN hS hE H K hK0
      have e7:A.tmps[7]?.getD undef=.int .i64 (j:Int):=hN (7,.int .i64 (j:Int)) (by simp)
      have pg:=(hS 13 (by decide)).1
      replace H:Sp w0 (rest) wx:=H
      have hK:Hid (∀(v:Value) (w' : World),v=.int .i64 (j:Int)->Sp w0 (rest) w'->K (A.put (some 36) v) w'):=Lib.hid hK0
      clear hK0 hN hS hE
      refine⟨some true,by rw [pg]; rfl,?_⟩
      rw [if_pos rfl]
      change Oper.wp _ _ A wx K _
      go_step
      exact hK.out _ _ rfl (H)
     ·intro x wx A rest hN hS hE H K hK0
      have e35:A.tmps[35]?.getD undef=.int .i64 (q:Int):=((hS 27 (by decide)).2 35 rfl).trans (hS 27 (by decide)).1
      have e36:A.tmps[36]?.getD undef=.int .i64 (j:Int):=((hS 28 (by decide)).2 36 rfl).trans (hS 28 (by decide)).1
      have pg:=(hS 13 (by decide)).1
      replace H:Sp w0 (rest) wx:=H
      have hK:Hid (∀(v:Value) (w' : World),v=.int .i64 (qj:Int)->Sp w0 (rest) w'->K (A.put (some 37) v) w'):=Lib.hid hK0
      clear hK0 hN hS hE
      refine⟨some true,by rw [pg]; rfl,?_⟩
      rw [if_pos rfl]
      change Oper.wp _ _ A wx K _
      go_step
      exact hK.out _ _ rfl (H)
     ·intro x wx A rest hN hS hE H K hK0
      have e34:A.tmps[34]?.getD undef=.slice (some ad) n c:=((hS 26 (by decide)).2 34 rfl).trans (hS 26 (by decide)).1
      have e37:A.tmps[37]?.getD undef=.int .i64 (qj:Int):=((hS 29 (by decide)).2 37 rfl).trans (hS 29 (by decide)).1
      have pg:=(hS 13 (by decide)).1
      replace H:Sp w0 (rest) wx:=H
      have hK:Hid (∀(v:Value) (w' : World),v=.pointer (some (ad.add qj))->Sp w0 (rest) w'->K (A.put (some 38) v) w'):=Lib.hid hK0
      clear hK0 hN hS hE
      refine⟨some true,by rw [pg]; rfl,?_⟩
      rw [if_pos rfl]
      change Oper.wp _ _ A wx K _
      go_step
      exact hK.out _ _ rfl (H)
     ·intro x wx A rest hN hS hE H K hK0
      have e38:A.tmps[38]?.getD undef=.pointer (some (ad.add qj)):=((hS 30 (by decide)).2 38 rfl).trans (hS 30 (by decide)).1
      have pg:=(hS 13 (by decide)).1
      replace H:Sp w0 (rest) wx:=H
      have hK:Hid (∀(v:Value) (w' : World),v=.int .u8 (yb:Int)->Sp w0 (rest) w'->K (A.put (some 39) v) w'):=Lib.hid hK0
      clear hK0 hN hS
      have c1:wx.cell? (ad.add qj)=some (.int .u8 (yb:Int)):=hE _ X2.out _ _ H
      refine⟨some true,by rw [pg]; rfl,?_⟩
      rw [if_pos rfl]
      change Oper.wp _ _ A wx K _
      go_step
      exact hK.out _ _ rfl (H)
     ·intro x wx A rest hN hS hE H K hK0
      have e30:A.tmps[30]?.getD undef=.int .u8 (xb:Int):=((hS 22 (by decide)).2 30 rfl).trans (hS 22 (by decide)).1
      have e39:A.tmps[39]?.getD undef=.int .u8 (yb:Int):=((hS 31 (by decide)).2 39 rfl).trans (hS 31 (by decide)).1
      have pg:=(hS 13 (by decide)).1
      replace H:Sp w0 (rest) wx:=H
      have hK:Hid (∀(v:Value) (w' : World),v=.bool be->Sp w0 (rest) w'->K (A.put (some 40) v) w'):=Lib.hid hK0
      clear hK0 hN hS hE
      refine⟨some true,by rw [pg]; rfl,?_⟩
      rw [if_pos rfl]
      change Oper.wp _ _ A wx K _
      go_step
      exact hK.out _ _ rfl (H)
     ·intro x wx A rest hN hS hE H K hK0
      have e21:A.tmps[21]?.getD undef=.bool true:=((hS 13 (by decide)).2 21 rfl).trans (hS 13 (by decide)).1
      have e40:A.tmps[40]?.getD undef=.bool be:=((hS 32 (by decide)).2 40 rfl).trans (hS 32 (by decide)).1
      replace H:Sp w0 (rest) wx:=H
      have hK:Hid (∀(v:Value) (w' : World),v=.bool be->Sp w0 (rest) w'->K (A.put (some 41) v) w'):=Lib.hid hK0
      clear hK0 hN hS hE
      change Oper.wp _ _ A wx K _
      go_step
      exact hK.out _ _ rfl (H)
    case hend =>
     intro x wx A hA hS H
     replace H:Sp w0 (L) wx:=H
     have y33:x 33=.bool be:=hS 33 (by decide)
     clear hS
     simp only [putAll,Act.put,List.setIfInBounds_toArray,List.set_cons_succ,List.set_cons_zero,Nat.reduceAdd] at hA
     subst hA
     cases hbv:be
     ·rw [hbv] at y33
      rw [y33]
      clear y33
      go_wp2
      go_ret
      refine⟨?_,H⟩
      have hne:¬ B.getD (p+j) 0=B.getD (q+j) 0:=fun h=>by
       have:=HBE3.out.2 (HBE.out.1 h)
       rw [hbv] at this
       cases this
      rw [PM.mlen_of B p q j hj HS.out (.inr fun h=>hne h.2)]
      rfl
     ·rw [hbv] at y33
      rw [y33]
      clear y33
      go_wp2
      go_roundw
      case rel =>
       refine⟨j+1,by go_num,by omega,fun i hi=>?_,H⟩
       by_cases hij:i=j
       ·subst hij
        exact⟨by rw [HQJ.out]; exact hqb,HBE.out.2 (HBE3.out.1 hbv)⟩
       ·exact HS.out i (by omega)
      case measure=>simp [intOf]; omega
   ·have k2:¬ (qj:Int)<n:=by omega
    go_wp2_with fail
    refine wp_region_sp (L:=L) (fun ix vx=>([(·=.int .i64 (j:Int)),(·=.bool true),(·=.bool true),(·=.int .i64 (q:Int)),(·=.int .i64 (j:Int)),(·=.int .i64 (qj:Int)),(·=.pointer (some ⟨g,0,none⟩)),(·=.pointer (some ⟨g,0,none⟩)),(·=.pointer (some ⟨g,0,none⟩)),(·=.slice A0 n c),(·=.int .i64 (n:Int)),(·=.bool false),(·=.bool false),(·=.bool false),(·=undef),(·=undef),(·=undef),(·=undef),(·=undef),(·=undef),(·=undef),(·=undef),(·=undef),(·=undef),(·=undef),(·=undef),(·=undef),(·=undef),(·=undef),(·=undef),(·=undef),(·=undef),(·=undef),(·=.bool false)]:List (Value->Prop)).getD ix (fun _=>True) vx)
     (fun ix vx=>([fun _=>[],fun _=>[],fun _=>[],fun _=>[],fun _=>[],fun _=>[],fun _=>[],fun _=>[],fun _=>[],fun _=>[],fun _=>[],fun _=>[],fun _=>[],fun _=>[],fun _=>[],fun _=>[],fun _=>[],fun _=>[],fun _=>[],fun _=>[],fun _=>[],fun _=>[],fun _=>[],fun _=>[],fun _=>[],fun _=>[],fun _=>[],fun _=>[],fun _=>[],fun _=>[],fun _=>[],fun _=>[],fun _=>[],fun _=>[]]:List (Value->List Pr)).getD ix (fun _=>[]) vx) (fun ix=>([[],[],[],[],[],[],[],[],[],[],[],[],[],[],[],[],[],[],[],[],[],[],[],[],[],[],[],[],[],[],[],[],[],[]]:List (List Pr)).getD ix []) 34 45
     [some 8,some 9,some 10,some 11,some 12,some 13,some 14,some 15,some 16,some 17,some 18,some 19,some 20,some 21,some 22,some 23,some 24,some 25,some 26,some 27,some 28,some 29,some 30,some 31,some 32,some 33,some 34,some 35,some 36,some 37,some 38,some 39,some 40,some 41]
     [[],[0],[1],[2],[2],[3,4,2],[2],[6,2],[7,2],[8,2],[9,2],[5,10,2],[2,11],[12,2],[13],[14,13],[15,13],[16,13],[13],[13],[18,19,13],[17,20,13],[21,13],[13],[23,13],[24,13],[25,13],[13],[13],[27,28,13],[26,29,13],[30,13],[22,31,13],[13,32]]
     [[],[0],[0,1],[0,1,2],[0,1,2],[0,1,2,3,4],[0,1,2],[0,1,2,6],[0,1,2,6,7],[0,1,2,6,7,8],[0,1,2,6,7,8,9],[0,1,2,3,4,5,6,7,8,9,10],[0,1,2,3,4,5,6,7,8,9,10,11],[0,1,2,3,4,5,6,7,8,9,10,11,12],[0,1,2,3,4,5,6,7,8,9,10,11,12,13],[0,1,2,3,4,5,6,7,8,9,10,11,12,13,14],[0,1,2,3,4,5,6,7,8,9,10,11,12,13,14,15],[0,1,2,3,4,5,6,7,8,9,10,11,12,13,14,15,16],[0,1,2,3,4,5,6,7,8,9,10,11,12,13],[0,1,2,3,4,5,6,7,8,9,10,11,12,13],[0,1,2,3,4,5,6,7,8,9,10,11,12,13,18,19],[0,1,2,3,4,5,6,7,8,9,10,11,12,13,14,15,16,17,18,19,20],[0,1,2,3,4,5,6,7,8,9,10,11,12,13,14,15,16,17,18,19,20,21],[0,1,2,3,4,5,6,7,8,9,10,11,12,13],[0,1,2,3,4,5,6,7,8,9,10,11,12,13,23],[0,1,2,3,4,5,6,7,8,9,10,11,12,13,23,24],[0,1,2,3,4,5,6,7,8,9,10,11,12,13,23,24,25],[0,1,2,3,4,5,6,7,8,9,10,11,12,13],[0,1,2,3,4,5,6,7,8,9,10,11,12,13],[0,1,2,3,4,5,6,7,8,9,10,11,12,13,27,28],[0,1,2,3,4,5,6,7,8,9,10,11,12,13,23,24,25,26,27,28,29],[0,1,2,3,4,5,6,7,8,9,10,11,12,13,23,24,25,26,27,28,29,30],[0,1,2,3,4,5,6,7,8,9,10,11,12,13,14,15,16,17,18,19,20,21,22,23,24,25,26,27,28,29,30,31],[0,1,2,3,4,5,6,7,8,9,10,11,12,13,14,15,16,17,18,19,20,21,22,23,24,25,26,27,28,29,30,31,32]]
     [[],[],[],[],[],[],[],[],[],[],[],[],[],[],[],[],[],[],[],[],[],[],[],[],[],[],[],[],[],[],[],[],[],[]]
     [[],[],[],[],[],[],[],[],[],[],[],[],[],[],[],[],[],[],[],[],[],[],[],[],[],[],[],[],[],[],[],[],[],[]]
     [(0,.pointer (some ⟨g,0,none⟩)),(1,.int .i64 (p:Int)),(2,.int .i64 (q:Int)),(7,.int .i64 (j:Int))]
     (by kernel_rfl) rfl (by decide) (by rfl) rfl (by decide +kernel) (by decide +kernel) (by rfl) rfl rfl (by decide) (by simp) (by rfl) (H) ?hstep ?hend
    case hstep =>
     refine⟨?_,⟨?_,⟨?_,⟨?_,⟨?_,⟨?_,⟨?_,⟨?_,⟨?_,⟨?_,⟨?_,⟨?_,⟨?_,⟨?_,⟨?_,⟨?_,⟨?_,⟨?_,⟨?_,⟨?_,⟨?_,⟨?_,⟨?_,⟨?_,⟨?_,⟨?_,⟨?_,⟨?_,⟨?_,⟨?_,⟨?_,⟨?_,⟨?_,⟨?_,trivial⟩⟩⟩⟩⟩⟩⟩⟩⟩⟩⟩⟩⟩⟩⟩⟩⟩⟩⟩⟩⟩⟩⟩⟩⟩⟩⟩⟩⟩⟩⟩⟩⟩⟩
     ·intro x wx A rest hN hS hE H K hK0
      have e7:A.tmps[7]?.getD undef=.int .i64 (j:Int):=hN (7,.int .i64 (j:Int)) (by simp)
      replace H:Sp w0 (rest) wx:=H
      have hK:Hid (∀(v:Value) (w' : World),v=.int .i64 (j:Int)->Sp w0 (rest) w'->K (A.put (some 8) v) w'):=Lib.hid hK0
      clear hK0 hN hS hE
      change Oper.wp _ _ A wx K _
      go_step
      exact hK.out _ _ rfl (H)
     ·intro x wx A rest hN hS hE H K hK0
      have e8:A.tmps[8]?.getD undef=.int .i64 (j:Int):=((hS 0 (by decide)).2 8 rfl).trans (hS 0 (by decide)).1
      replace H:Sp w0 (rest) wx:=H
      have hK:Hid (∀(v:Value) (w' : World),v=.bool true->Sp w0 (rest) w'->K (A.put (some 9) v) w'):=Lib.hid hK0
      clear hK0 hN hS hE
      change Oper.wp _ _ A wx K _
      go_step
      exact hK.out _ _ rfl (H)
     ·intro x wx A rest hN hS hE H K hK0
      have e9:A.tmps[9]?.getD undef=.bool true:=((hS 1 (by decide)).2 9 rfl).trans (hS 1 (by decide)).1
      replace H:Sp w0 (rest) wx:=H
      have hK:Hid (∀(v:Value) (w' : World),v=.bool true->Sp w0 (rest) w'->K (A.put (some 10) v) w'):=Lib.hid hK0
      clear hK0 hN hS hE
      change Oper.wp _ _ A wx K _
      go_step
      exact hK.out _ _ rfl (H)
     ·intro x wx A rest hN hS hE H K hK0
      have e2:A.tmps[2]?.getD undef=.int .i64 (q:Int):=hN (2,.int .i64 (q:Int)) (by simp)
      have pg:=(hS 2 (by decide)).1
      replace H:Sp w0 (rest) wx:=H
      have hK:Hid (∀(v:Value) (w' : World),v=.int .i64 (q:Int)->Sp w0 (rest) w'->K (A.put (some 11) v) w'):=Lib.hid hK0
      clear hK0 hN hS hE
      refine⟨some true,by rw [pg]; rfl,?_⟩
      rw [if_pos rfl]
      change Oper.wp _ _ A wx K _
      go_step
      exact hK.out _ _ rfl (H)
     ·intro x wx A rest hN hS hE H K hK0
      have e7:A.tmps[7]?.getD undef=.int .i64 (j:Int):=hN (7,.int .i64 (j:Int)) (by simp)
      have pg:=(hS 2 (by decide)).1
      replace H:Sp w0 (rest) wx:=H
      have hK:Hid (∀(v:Value) (w' : World),v=.int .i64 (j:Int)->Sp w0 (rest) w'->K (A.put (some 12) v) w'):=Lib.hid hK0
      clear hK0 hN hS hE
      refine⟨some true,by rw [pg]; rfl,?_⟩
      rw [if_pos rfl]
      change Oper.wp _ _ A wx K _
      go_step
      exact hK.out _ _ rfl (H)
     ·intro x wx A rest hN hS hE H K hK0
      have e11:A.tmps[11]?.getD undef=.int .i64 (q:Int):=((hS 3 (by decide)).2 11 rfl).trans (hS 3 (by decide)).1
      have e12:A.tmps[12]?.getD undef=.int .i64 (j:Int):=((hS 4 (by decide)).2 12 rfl).trans (hS 4 (by decide)).1
      have pg:=(hS 2 (by decide)).1
      replace H:Sp w0 (rest) wx:=H
      have hK:Hid (∀(v:Value) (w' : World),v=.int .i64 (qj:Int)->Sp w0 (rest) w'->K (A.put (some 13) v) w'):=Lib.hid hK0
      clear hK0 hN hS hE
      refine⟨some true,by rw [pg]; rfl,?_⟩
      rw [if_pos rfl]
      change Oper.wp _ _ A wx K _
      go_step
      exact hK.out _ _ rfl (H)
     ·intro x wx A rest hN hS hE H K hK0
      have e0:A.tmps[0]?.getD undef=.pointer (some ⟨g,0,none⟩):=hN (0,.pointer (some ⟨g,0,none⟩)) (by simp)
      have pg:=(hS 2 (by decide)).1
      replace H:Sp w0 (rest) wx:=H
      have hK:Hid (∀(v:Value) (w' : World),v=.pointer (some ⟨g,0,none⟩)->Sp w0 (rest) w'->K (A.put (some 14) v) w'):=Lib.hid hK0
      clear hK0 hN hS hE
      refine⟨some true,by rw [pg]; rfl,?_⟩
      rw [if_pos rfl]
      change Oper.wp _ _ A wx K _
      go_step
      exact hK.out _ _ rfl (H)
     ·intro x wx A rest hN hS hE H K hK0
      have e14:A.tmps[14]?.getD undef=.pointer (some ⟨g,0,none⟩):=((hS 6 (by decide)).2 14 rfl).trans (hS 6 (by decide)).1
      have pg:=(hS 2 (by decide)).1
      replace H:Sp w0 (rest) wx:=H
      have hK:Hid (∀(v:Value) (w' : World),v=.pointer (some ⟨g,0,none⟩)->Sp w0 (rest) w'->K (A.put (some 15) v) w'):=Lib.hid hK0
      clear hK0 hN hS hE
      refine⟨some true,by rw [pg]; rfl,?_⟩
      rw [if_pos rfl]
      change Oper.wp _ _ A wx K _
      go_step
      exact hK.out _ _ rfl (H)
     ·intro x wx A rest hN hS hE H K hK0
      have e15:A.tmps[15]?.getD undef=.pointer (some ⟨g,0,none⟩):=((hS 7 (by decide)).2 15 rfl).trans (hS 7 (by decide)).1
      have pg:=(hS 2 (by decide)).1
      replace H:Sp w0 (rest) wx:=H
      have hK:Hid (∀(v:Value) (w' : World),v=.pointer (some ⟨g,0,none⟩)->Sp w0 (rest) w'->K (A.put (some 16) v) w'):=Lib.hid hK0
      clear hK0 hN hS hE
      refine⟨some true,by rw [pg]; rfl,?_⟩
      rw [if_pos rfl]
      change Oper.wp _ _ A wx K _
      go_step
      exact hK.out _ _ rfl (H)
     ·intro x wx A rest hN hS hE H K hK0
      have e16:A.tmps[16]?.getD undef=.pointer (some ⟨g,0,none⟩):=((hS 8 (by decide)).2 16 rfl).trans (hS 8 (by decide)).1
      have pg:=(hS 2 (by decide)).1
      replace H:Sp w0 (rest) wx:=H
      have hK:Hid (∀(v:Value) (w' : World),v=.slice A0 n c->Sp w0 (rest) w'->K (A.put (some 17) v) w'):=Lib.hid hK0
      clear hK0 hN hS
      have c0:wx.cell? ⟨g,0,none⟩=some (.slice A0 n c):=hE _ HC0.out _ _ H
      refine⟨some true,by rw [pg]; rfl,?_⟩
      rw [if_pos rfl]
      change Oper.wp _ _ A wx K _
      go_step
      exact hK.out _ _ rfl (H)
     ·intro x wx A rest hN hS hE H K hK0
      have e17:A.tmps[17]?.getD undef=.slice A0 n c:=((hS 9 (by decide)).2 17 rfl).trans (hS 9 (by decide)).1
      have pg:=(hS 2 (by decide)).1
      replace H:Sp w0 (rest) wx:=H
      have hK:Hid (∀(v:Value) (w' : World),v=.int .i64 (n:Int)->Sp w0 (rest) w'->K (A.put (some 18) v) w'):=Lib.hid hK0
      clear hK0 hN hS hE
      refine⟨some true,by rw [pg]; rfl,?_⟩
      rw [if_pos rfl]
      change Oper.wp _ _ A wx K _
      go_step
      exact hK.out _ _ rfl (H)
     ·intro x wx A rest hN hS hE H K hK0
      have e13:A.tmps[13]?.getD undef=.int .i64 (qj:Int):=((hS 5 (by decide)).2 13 rfl).trans (hS 5 (by decide)).1
      have e18:A.tmps[18]?.getD undef=.int .i64 (n:Int):=((hS 10 (by decide)).2 18 rfl).trans (hS 10 (by decide)).1
      have pg:=(hS 2 (by decide)).1
      replace H:Sp w0 (rest) wx:=H
      have hK:Hid (∀(v:Value) (w' : World),v=.bool false->Sp w0 (rest) w'->K (A.put (some 19) v) w'):=Lib.hid hK0
      clear hK0 hN hS hE
      refine⟨some true,by rw [pg]; rfl,?_⟩
      rw [if_pos rfl]
      change Oper.wp _ _ A wx K _
      go_step
      exact hK.out _ _ rfl (H)
     ·intro x wx A rest hN hS hE H K hK0
      have e10:A.tmps[10]?.getD undef=.bool true:=((hS 2 (by decide)).2 10 rfl).trans (hS 2 (by decide)).1
      have e19:A.tmps[19]?.getD undef=.bool false:=((hS 11 (by decide)).2 19 rfl).trans (hS 11 (by decide)).1
      replace H:Sp w0 (rest) wx:=H
      have hK:Hid (∀(v:Value) (w' : World),v=.bool false->Sp w0 (rest) w'->K (A.put (some 20) v) w'):=Lib.hid hK0
      clear hK0 hN hS hE
      change Oper.wp _ _ A wx K _
      go_step
      exact hK.out _ _ rfl (H)
     ·intro x wx A rest hN hS hE H K hK0
      have e20:A.tmps[20]?.getD undef=.bool false:=((hS 12 (by decide)).2 20 rfl).trans (hS 12 (by decide)).1
      replace H:Sp w0 (rest) wx:=H
      have hK:Hid (∀(v:Value) (w' : World),v=.bool false->Sp w0 (rest) w'->K (A.put (some 21) v) w'):=Lib.hid hK0
      clear hK0 hN hS hE
      change Oper.wp _ _ A wx K _
      go_step
      exact hK.out _ _ rfl (H)
     ·intro x wx A rest hN hS hE H K hK0
      have e0:A.tmps[0]?.getD undef=.pointer (some ⟨g,0,none⟩):=hN (0,.pointer (some ⟨g,0,none⟩)) (by simp)
      have pg:=(hS 13 (by decide)).1
      replace H:Sp w0 (rest) wx:=H
      have hK:Hid (∀(v:Value) (w' : World),v=undef->Sp w0 (rest) w'->K (A.put (some 22) v) w'):=Lib.hid hK0
      clear hK0 hN hS hE
      refine⟨some false,by rw [pg]; rfl,?_⟩
      rw [if_neg (by decide)]
      exact hK.out _ _ rfl (H)
     ·intro x wx A rest hN hS hE H K hK0
      have e22:A.tmps[22]?.getD undef=undef:=((hS 14 (by decide)).2 22 rfl).trans (hS 14 (by decide)).1
      have pg:=(hS 13 (by decide)).1
      replace H:Sp w0 (rest) wx:=H
      have hK:Hid (∀(v:Value) (w' : World),v=undef->Sp w0 (rest) w'->K (A.put (some 23) v) w'):=Lib.hid hK0
      clear hK0 hN hS hE
      refine⟨some false,by rw [pg]; rfl,?_⟩
      rw [if_neg (by decide)]
      exact hK.out _ _ rfl (H)
     ·intro x wx A rest hN hS hE H K hK0
      have e23:A.tmps[23]?.getD undef=undef:=((hS 15 (by decide)).2 23 rfl).trans (hS 15 (by decide)).1
      have pg:=(hS 13 (by decide)).1
      replace H:Sp w0 (rest) wx:=H
      have hK:Hid (∀(v:Value) (w' : World),v=undef->Sp w0 (rest) w'->K (A.put (some 24) v) w'):=Lib.hid hK0
      clear hK0 hN hS hE
      refine⟨some false,by rw [pg]; rfl,?_⟩
      rw [if_neg (by decide)]
      exact hK.out _ _ rfl (H)
     ·intro x wx A rest hN hS hE H K hK0
      have e24:A.tmps[24]?.getD undef=undef:=((hS 16 (by decide)).2 24 rfl).trans (hS 16 (by decide)).1
      have pg:=(hS 13 (by decide)).1
      replace H:Sp w0 (rest) wx:=H
      have hK:Hid (∀(v:Value) (w' : World),v=undef->Sp w0 (rest) w'->K (A.put (some 25) v) w'):=Lib.hid hK0
      clear hK0 hN hS
      refine⟨some false,by rw [pg]; rfl,?_⟩
      rw [if_neg (by decide)]
      exact hK.out _ _ rfl (H)
     ·intro x wx A rest hN hS hE H K hK0
      have e1:A.tmps[1]?.getD undef=.int .i64 (p:Int):=hN (1,.int .i64 (p:Int)) (by simp)
      have pg:=(hS 13 (by decide)).1
      replace H:Sp w0 (rest) wx:=H
      have hK:Hid (∀(v:Value) (w' : World),v=undef->Sp w0 (rest) w'->K (A.put (some 26) v) w'):=Lib.hid hK0
      clear hK0 hN hS hE
      refine⟨some false,by rw [pg]; rfl,?_⟩
      rw [if_neg (by decide)]
      exact hK.out _ _ rfl (H)
     ·intro x wx A rest hN hS hE H K hK0
      have e7:A.tmps[7]?.getD undef=.int .i64 (j:Int):=hN (7,.int .i64 (j:Int)) (by simp)
      have pg:=(hS 13 (by decide)).1
      replace H:Sp w0 (rest) wx:=H
      have hK:Hid (∀(v:Value) (w' : World),v=undef->Sp w0 (rest) w'->K (A.put (some 27) v) w'):=Lib.hid hK0
      clear hK0 hN hS hE
      refine⟨some false,by rw [pg]; rfl,?_⟩
      rw [if_neg (by decide)]
      exact hK.out _ _ rfl (H)
     ·intro x wx A rest hN hS hE H K hK0
      have e26:A.tmps[26]?.getD undef=undef:=((hS 18 (by decide)).2 26 rfl).trans (hS 18 (by decide)).1
      have e27:A.tmps[27]?.getD undef=undef:=((hS 19 (by decide)).2 27 rfl).trans (hS 19 (by decide)).1
      have pg:=(hS 13 (by decide)).1
      replace H:Sp w0 (rest) wx:=H
      have hK:Hid (∀(v:Value) (w' : World),v=undef->Sp w0 (rest) w'->K (A.put (some 28) v) w'):=Lib.hid hK0
      clear hK0 hN hS hE
      refine⟨some false,by rw [pg]; rfl,?_⟩
      rw [if_neg (by decide)]
      exact hK.out _ _ rfl (H)
     ·intro x wx A rest hN hS hE H K hK0
      have e25:A.tmps[25]?.getD undef=undef:=((hS 17 (by decide)).2 25 rfl).trans (hS 17 (by decide)).1
      have e28:A.tmps[28]?.getD undef=undef:=((hS 20 (by decide)).2 28 rfl).trans (hS 20 (by decide)).1
      have pg:=(hS 13 (by decide)).1
      replace H:Sp w0 (rest) wx:=H
      have hK:Hid (∀(v:Value) (w' : World),v=undef->Sp w0 (rest) w'->K (A.put (some 29) v) w'):=Lib.hid hK0
      clear hK0 hN hS hE
      refine⟨some false,by rw [pg]; rfl,?_⟩
      rw [if_neg (by decide)]
      exact hK.out _ _ rfl (H)
     ·intro x wx A rest hN hS hE H K hK0
      have e29:A.tmps[29]?.getD undef=undef:=((hS 21 (by decide)).2 29 rfl).trans (hS 21 (by decide)).1
      have pg:=(hS 13 (by decide)).1
      replace H:Sp w0 (rest) wx:=H
      have hK:Hid (∀(v:Value) (w' : World),v=undef->Sp w0 (rest) w'->K (A.put (some 30) v) w'):=Lib.hid hK0
      clear hK0 hN hS
      refine⟨some false,by rw [pg]; rfl,?_⟩
      rw [if_neg (by decide)]
      exact hK.out _ _ rfl (H)
     ·intro x wx A rest hN hS hE H K hK0
      have e0:A.tmps[0]?.getD undef=.pointer (some ⟨g,0,none⟩):=hN (0,.pointer (some ⟨g,0,none⟩)) (by simp)
      have pg:=(hS 13 (by decide)).1
      replace H:Sp w0 (rest) wx:=H
      have hK:Hid (∀(v:Value) (w' : World),v=undef->Sp w0 (rest) w'->K (A.put (some 31) v) w'):=Lib.hid hK0
      clear hK0 hN hS hE
      refine⟨some false,by rw [pg]; rfl,?_⟩
      rw [if_neg (by decide)]
      exact hK.out _ _ rfl (H)
     ·intro x wx A rest hN hS hE H K hK0
      have e31:A.tmps[31]?.getD undef=undef:=((hS 23 (by decide)).2 31 rfl).trans (hS 23 (by decide)).1
      have pg:=(hS 13 (by decide)).1
      replace H:Sp w0 (rest) wx:=H
      have hK:Hid (∀(v:Value) (w' : World),v=undef->Sp w0 (rest) w'->K (A.put (some 32) v) w'):=Lib.hid hK0
      clear hK0 hN hS hE
      refine⟨some false,by rw [pg]; rfl,?_⟩
      rw [if_neg (by decide)]
      exact hK.out _ _ rfl (H)
     ·intro x wx A rest hN hS hE H K hK0
      have e32:A.tmps[32]?.getD undef=undef:=((hS 24 (by decide)).2 32 rfl).trans (hS 24 (by decide)).1
      have pg:=(hS 13 (by decide)).1
      replace H:Sp w0 (rest) wx:=H
      have hK:Hid (∀(v:Value) (w' : World),v=undef->Sp w0 (rest) w'->K (A.put (some 33) v) w'):=Lib.hid hK0
      clear hK0 hN hS hE
      refine⟨some false,by rw [pg]; rfl,?_⟩
      rw [if_neg (by decide)]
      exact hK.out _ _ rfl (H)
     ·intro x wx A rest hN hS hE H K hK0
      have e33:A.tmps[33]?.getD undef=undef:=((hS 25 (by decide)).2 33 rfl).trans (hS 25 (by decide)).1
      have pg:=(hS 13 (by decide)).1
      replace H:Sp w0 (rest) wx:=H
      have hK:Hid (∀(v:Value) (w' : World),v=undef->Sp w0 (rest) w'->K (A.put (some 34) v) w'):=Lib.hid hK0
      clear hK0 hN hS
      refine⟨some false,by rw [pg]; rfl,?_⟩
      rw [if_neg (by decide)]
      exact hK.out _ _ rfl (H)
     ·intro x wx A rest hN hS hE H K hK0
      have e2:A.tmps[2]?.getD undef=.int .i64 (q:Int):=hN (2,.int .i64 (q:Int)) (by simp)
      have pg:=(hS 13 (by decide)).1
      replace H:Sp w0 (rest) wx:=H
      have hK:Hid (∀(v:Value) (w' : World),v=undef->Sp w0 (rest) w'->K (A.put (some 35) v) w'):=Lib.hid hK0
      clear hK0 hN hS hE
      refine⟨some false,by rw [pg]; rfl,?_⟩
      rw [if_neg (by decide)]
      exact hK.out _ _ rfl (H)
     ·intro x wx A rest hN hS hE H K hK0
      have e7:A.tmps[7]?.getD undef=.int .i64 (j:Int):=hN (7,.int .i64 (j:Int)) (by simp)
      have pg:=(hS 13 (by decide)).1
      replace H:Sp w0 (rest) wx:=H
      have hK:Hid (∀(v:Value) (w' : World),v=undef->Sp w0 (rest) w'->K (A.put (some 36) v) w'):=Lib.hid hK0
      clear hK0 hN hS hE
      refine⟨some false,by rw [pg]; rfl,?_⟩
      rw [if_neg (by decide)]
      exact hK.out _ _ rfl (H)
     ·intro x wx A rest hN hS hE H K hK0
      have e35:A.tmps[35]?.getD undef=undef:=((hS 27 (by decide)).2 35 rfl).trans (hS 27 (by decide)).1
      have e36:A.tmps[36]?.getD undef=undef:=((hS 28 (by decide)).2 36 rfl).trans (hS 28 (by decide)).1
      have pg:=(hS 13 (by decide)).1
      replace H:Sp w0 (rest) wx:=H
      have hK:Hid (∀(v:Value) (w' : World),v=undef->Sp w0 (rest) w'->K (A.put (some 37) v) w'):=Lib.hid hK0
      clear hK0 hN hS hE
      refine⟨some false,by rw [pg]; rfl,?_⟩
      rw [if_neg (by decide)]
      exact hK.out _ _ rfl (H)
     ·intro x wx A rest hN hS hE H K hK0
      have e34:A.tmps[34]?.getD undef=undef:=((hS 26 (by decide)).2 34 rfl).trans (hS 26 (by decide)).1
      have e37:A.tmps[37]?.getD undef=undef:=((hS 29 (by decide)).2 37 rfl).trans (hS 29 (by decide)).1
      have pg:=(hS 13 (by decide)).1
      replace H:Sp w0 (rest) wx:=H
      have hK:Hid (∀(v:Value) (w' : World),v=undef->Sp w0 (rest) w'->K (A.put (some 38) v) w'):=Lib.hid hK0
      clear hK0 hN hS hE
      refine⟨some false,by rw [pg]; rfl,?_⟩
      rw [if_neg (by decide)]
      exact hK.out _ _ rfl (H)
     ·intro x wx A rest hN hS hE H K hK0
      have e38:A.tmps[38]?.getD undef=undef:=((hS 30 (by decide)).2 38 rfl).trans (hS 30 (by decide)).1
      have pg:=(hS 13 (by decide)).1
      replace H:Sp w0 (rest) wx:=H
      have hK:Hid (∀(v:Value) (w' : World),v=undef->Sp w0 (rest) w'->K (A.put (some 39) v) w'):=Lib.hid hK0
      clear hK0 hN hS
      refine⟨some false,by rw [pg]; rfl,?_⟩
      rw [if_neg (by decide)]
      exact hK.out _ _ rfl (H)
     ·intro x wx A rest hN hS hE H K hK0
      have e30:A.tmps[30]?.getD undef=undef:=((hS 22 (by decide)).2 30 rfl).trans (hS 22 (by decide)).1
      have e39:A.tmps[39]?.getD undef=undef:=((hS 31 (by decide)).2 39 rfl).trans (hS 31 (by decide)).1
      have pg:=(hS 13 (by decide)).1
      replace H:Sp w0 (rest) wx:=H
      have hK:Hid (∀(v:Value) (w' : World),v=undef->Sp w0 (rest) w'->K (A.put (some 40) v) w'):=Lib.hid hK0
      clear hK0 hN hS hE
      refine⟨some false,by rw [pg]; rfl,?_⟩
      rw [if_neg (by decide)]
      exact hK.out _ _ rfl (H)
     ·intro x wx A rest hN hS hE H K hK0
      have e21:A.tmps[21]?.getD undef=.bool false:=((hS 13 (by decide)).2 21 rfl).trans (hS 13 (by decide)).1
      have e40:A.tmps[40]?.getD undef=undef:=((hS 32 (by decide)).2 40 rfl).trans (hS 32 (by decide)).1
      replace H:Sp w0 (rest) wx:=H
      have hK:Hid (∀(v:Value) (w' : World),v=.bool false->Sp w0 (rest) w'->K (A.put (some 41) v) w'):=Lib.hid hK0
      clear hK0 hN hS hE
      change Oper.wp _ _ A wx K _
      go_step
      exact hK.out _ _ rfl (H)
    case hend =>
     intro x wx A hA hS H
     replace H:Sp w0 (L) wx:=H
     have y33:x 33=.bool false:=hS 33 (by decide)
     clear hS
     simp only [putAll,Act.put,List.setIfInBounds_toArray,List.set_cons_succ,List.set_cons_zero,Nat.reduceAdd] at hA
     subst hA
     rw [y33]
     clear y33
     go_wp2
     go_ret
     refine⟨?_,H⟩
     rw [PM.mlen_of B p q j hj HS.out (.inr fun h=>hqn (by rw [HN.out,<- HQJ.out]; exact h.1))]
     rfl
  ·obtain rfl:j=258:=by omega
   go_wp2_with fail
   refine wp_region_sp (L:=L) (fun ix vx=>([(·=.int .i64 258),(·=.bool false),(·=.bool false),(·=undef),(·=undef),(·=undef),(·=undef),(·=undef),(·=undef),(·=undef),(·=undef),(·=undef),(·=.bool false),(·=.bool false),(·=undef),(·=undef),(·=undef),(·=undef),(·=undef),(·=undef),(·=undef),(·=undef),(·=undef),(·=undef),(·=undef),(·=undef),(·=undef),(·=undef),(·=undef),(·=undef),(·=undef),(·=undef),(·=undef),(·=.bool false)]:List (Value->Prop)).getD ix (fun _=>True) vx)
    (fun ix vx=>([fun _=>[],fun _=>[],fun _=>[],fun _=>[],fun _=>[],fun _=>[],fun _=>[],fun _=>[],fun _=>[],fun _=>[],fun _=>[],fun _=>[],fun _=>[],fun _=>[],fun _=>[],fun _=>[],fun _=>[],fun _=>[],fun _=>[],fun _=>[],fun _=>[],fun _=>[],fun _=>[],fun _=>[],fun _=>[],fun _=>[],fun _=>[],fun _=>[],fun _=>[],fun _=>[],fun _=>[],fun _=>[],fun _=>[],fun _=>[]]:List (Value->List Pr)).getD ix (fun _=>[]) vx) (fun ix=>([[],[],[],[],[],[],[],[],[],[],[],[],[],[],[],[],[],[],[],[],[],[],[],[],[],[],[],[],[],[],[],[],[],[]]:List (List Pr)).getD ix []) 34 45
    [some 8,some 9,some 10,some 11,some 12,some 13,some 14,some 15,some 16,some 17,some 18,some 19,some 20,some 21,some 22,some 23,some 24,some 25,some 26,some 27,some 28,some 29,some 30,some 31,some 32,some 33,some 34,some 35,some 36,some 37,some 38,some 39,some 40,some 41]
    [[],[0],[1],[2],[2],[3,4,2],[2],[6,2],[7,2],[8,2],[9,2],[5,10,2],[2,11],[12,2],[13],[14,13],[15,13],[16,13],[13],[13],[18,19,13],[17,20,13],[21,13],[13],[23,13],[24,13],[25,13],[13],[13],[27,28,13],[26,29,13],[30,13],[22,31,13],[13,32]]
    [[],[0],[0,1],[0,1,2],[0,1,2],[0,1,2,3,4],[0,1,2],[0,1,2,6],[0,1,2,6,7],[0,1,2,6,7,8],[0,1,2,6,7,8,9],[0,1,2,3,4,5,6,7,8,9,10],[0,1,2,3,4,5,6,7,8,9,10,11],[0,1,2,3,4,5,6,7,8,9,10,11,12],[0,1,2,3,4,5,6,7,8,9,10,11,12,13],[0,1,2,3,4,5,6,7,8,9,10,11,12,13,14],[0,1,2,3,4,5,6,7,8,9,10,11,12,13,14,15],[0,1,2,3,4,5,6,7,8,9,10,11,12,13,14,15,16],[0,1,2,3,4,5,6,7,8,9,10,11,12,13],[0,1,2,3,4,5,6,7,8,9,10,11,12,13],[0,1,2,3,4,5,6,7,8,9,10,11,12,13,18,19],[0,1,2,3,4,5,6,7,8,9,10,11,12,13,14,15,16,17,18,19,20],[0,1,2,3,4,5,6,7,8,9,10,11,12,13,14,15,16,17,18,19,20,21],[0,1,2,3,4,5,6,7,8,9,10,11,12,13],[0,1,2,3,4,5,6,7,8,9,10,11,12,13,23],[0,1,2,3,4,5,6,7,8,9,10,11,12,13,23,24],[0,1,2,3,4,5,6,7,8,9,10,11,12,13,23,24,25],[0,1,2,3,4,5,6,7,8,9,10,11,12,13],[0,1,2,3,4,5,6,7,8,9,10,11,12,13],[0,1,2,3,4,5,6,7,8,9,10,11,12,13,27,28],[0,1,2,3,4,5,6,7,8,9,10,11,12,13,23,24,25,26,27,28,29],[0,1,2,3,4,5,6,7,8,9,10,11,12,13,23,24,25,26,27,28,29,30],[0,1,2,3,4,5,6,7,8,9,10,11,12,13,14,15,16,17,18,19,20,21,22,23,24,25,26,27,28,29,30,31],[0,1,2,3,4,5,6,7,8,9,10,11,12,13,14,15,16,17,18,19,20,21,22,23,24,25,26,27,28,29,30,31,32]]
    [[],[],[],[],[],[],[],[],[],[],[],[],[],[],[],[],[],[],[],[],[],[],[],[],[],[],[],[],[],[],[],[],[],[]]
    [[],[],[],[],[],[],[],[],[],[],[],[],[],[],[],[],[],[],[],[],[],[],[],[],[],[],[],[],[],[],[],[],[],[]]
    [(0,.pointer (some ⟨g,0,none⟩)),(1,.int .i64 (p:Int)),(2,.int .i64 (q:Int)),(7,.int .i64 258)]
    (by kernel_rfl) rfl (by decide) (by rfl) rfl (by decide +kernel) (by decide +kernel) (by rfl) rfl rfl (by decide) (by simp) (by rfl) (H) ?hstep ?hend
   case hstep =>
    refine⟨?_,⟨?_,⟨?_,⟨?_,⟨?_,⟨?_,⟨?_,⟨?_,⟨?_,⟨?_,⟨?_,⟨?_,⟨?_,⟨?_,⟨?_,⟨?_,⟨?_,⟨?_,⟨?_,⟨?_,⟨?_,⟨?_,⟨?_,⟨?_,⟨?_,⟨?_,⟨?_,⟨?_,⟨?_,⟨?_,⟨?_,⟨?_,⟨?_,⟨?_,trivial⟩⟩⟩⟩⟩⟩⟩⟩⟩⟩⟩⟩⟩⟩⟩⟩⟩⟩⟩⟩⟩⟩⟩⟩⟩⟩⟩⟩⟩⟩⟩⟩⟩⟩
    ·intro x wx A rest hN hS hE H K hK0
     have e7:A.tmps[7]?.getD undef=.int .i64 258:=hN (7,.int .i64 258) (by simp)
     replace H:Sp w0 (rest) wx:=H
     have hK:Hid (∀(v:Value) (w' : World),v=.int .i64 258->Sp w0 (rest) w'->K (A.put (some 8) v) w'):=Lib.hid hK0
     clear hK0 hN hS hE
     change Oper.wp _ _ A wx K _
     go_step
     exact hK.out _ _ rfl (H)
    ·intro x wx A rest hN hS hE H K hK0
     have e8:A.tmps[8]?.getD undef=.int .i64 258:=((hS 0 (by decide)).2 8 rfl).trans (hS 0 (by decide)).1
     replace H:Sp w0 (rest) wx:=H
     have hK:Hid (∀(v:Value) (w' : World),v=.bool false->Sp w0 (rest) w'->K (A.put (some 9) v) w'):=Lib.hid hK0
     clear hK0 hN hS hE
     change Oper.wp _ _ A wx K _
     go_step
     exact hK.out _ _ rfl (H)
    ·intro x wx A rest hN hS hE H K hK0
     have e9:A.tmps[9]?.getD undef=.bool false:=((hS 1 (by decide)).2 9 rfl).trans (hS 1 (by decide)).1
     replace H:Sp w0 (rest) wx:=H
     have hK:Hid (∀(v:Value) (w' : World),v=.bool false->Sp w0 (rest) w'->K (A.put (some 10) v) w'):=Lib.hid hK0
     clear hK0 hN hS hE
     change Oper.wp _ _ A wx K _
     go_step
     exact hK.out _ _ rfl (H)
    ·intro x wx A rest hN hS hE H K hK0
     have e2:A.tmps[2]?.getD undef=.int .i64 (q:Int):=hN (2,.int .i64 (q:Int)) (by simp)
     have pg:=(hS 2 (by decide)).1
     replace H:Sp w0 (rest) wx:=H
     have hK:Hid (∀(v:Value) (w' : World),v=undef->Sp w0 (rest) w'->K (A.put (some 11) v) w'):=Lib.hid hK0
     clear hK0 hN hS hE
     refine⟨some false,by rw [pg]; rfl,?_⟩
     rw [if_neg (by decide)]
     exact hK.out _ _ rfl (H)
    ·intro x wx A rest hN hS hE H K hK0
     have e7:A.tmps[7]?.getD undef=.int .i64 258:=hN (7,.int .i64 258) (by simp)
     have pg:=(hS 2 (by decide)).1
     replace H:Sp w0 (rest) wx:=H
     have hK:Hid (∀(v:Value) (w' : World),v=undef->Sp w0 (rest) w'->K (A.put (some 12) v) w'):=Lib.hid hK0
     clear hK0 hN hS hE
     refine⟨some false,by rw [pg]; rfl,?_⟩
     rw [if_neg (by decide)]
     exact hK.out _ _ rfl (H)
    ·intro x wx A rest hN hS hE H K hK0
     have e11:A.tmps[11]?.getD undef=undef:=((hS 3 (by decide)).2 11 rfl).trans (hS 3 (by decide)).1
     have e12:A.tmps[12]?.getD undef=undef:=((hS 4 (by decide)).2 12 rfl).trans (hS 4 (by decide)).1
     have pg:=(hS 2 (by decide)).1
     replace H:Sp w0 (rest) wx:=H
     have hK:Hid (∀(v:Value) (w' : World),v=undef->Sp w0 (rest) w'->K (A.put (some 13) v) w'):=Lib.hid hK0
     clear hK0 hN hS hE
     refine⟨some false,by rw [pg]; rfl,?_⟩
     rw [if_neg (by decide)]
     exact hK.out _ _ rfl (H)
    ·intro x wx A rest hN hS hE H K hK0
     have e0:A.tmps[0]?.getD undef=.pointer (some ⟨g,0,none⟩):=hN (0,.pointer (some ⟨g,0,none⟩)) (by simp)
     have pg:=(hS 2 (by decide)).1
     replace H:Sp w0 (rest) wx:=H
     have hK:Hid (∀(v:Value) (w' : World),v=undef->Sp w0 (rest) w'->K (A.put (some 14) v) w'):=Lib.hid hK0
     clear hK0 hN hS hE
     refine⟨some false,by rw [pg]; rfl,?_⟩
     rw [if_neg (by decide)]
     exact hK.out _ _ rfl (H)
    ·intro x wx A rest hN hS hE H K hK0
     have e14:A.tmps[14]?.getD undef=undef:=((hS 6 (by decide)).2 14 rfl).trans (hS 6 (by decide)).1
     have pg:=(hS 2 (by decide)).1
     replace H:Sp w0 (rest) wx:=H
     have hK:Hid (∀(v:Value) (w' : World),v=undef->Sp w0 (rest) w'->K (A.put (some 15) v) w'):=Lib.hid hK0
     clear hK0 hN hS hE
     refine⟨some false,by rw [pg]; rfl,?_⟩
     rw [if_neg (by decide)]
     exact hK.out _ _ rfl (H)
    ·intro x wx A rest hN hS hE H K hK0
     have e15:A.tmps[15]?.getD undef=undef:=((hS 7 (by decide)).2 15 rfl).trans (hS 7 (by decide)).1
     have pg:=(hS 2 (by decide)).1
     replace H:Sp w0 (rest) wx:=H
     have hK:Hid (∀(v:Value) (w' : World),v=undef->Sp w0 (rest) w'->K (A.put (some 16) v) w'):=Lib.hid hK0
     clear hK0 hN hS hE
     refine⟨some false,by rw [pg]; rfl,?_⟩
     rw [if_neg (by decide)]
     exact hK.out _ _ rfl (H)
    ·intro x wx A rest hN hS hE H K hK0
     have e16:A.tmps[16]?.getD undef=undef:=((hS 8 (by decide)).2 16 rfl).trans (hS 8 (by decide)).1
     have pg:=(hS 2 (by decide)).1
     replace H:Sp w0 (rest) wx:=H
     have hK:Hid (∀(v:Value) (w' : World),v=undef->Sp w0 (rest) w'->K (A.put (some 17) v) w'):=Lib.hid hK0
     clear hK0 hN hS
     refine⟨some false,by rw [pg]; rfl,?_⟩
     rw [if_neg (by decide)]
     exact hK.out _ _ rfl (H)
    ·intro x wx A rest hN hS hE H K hK0
     have e17:A.tmps[17]?.getD undef=undef:=((hS 9 (by decide)).2 17 rfl).trans (hS 9 (by decide)).1
     have pg:=(hS 2 (by decide)).1
     replace H:Sp w0 (rest) wx:=H
     have hK:Hid (∀(v:Value) (w' : World),v=undef->Sp w0 (rest) w'->K (A.put (some 18) v) w'):=Lib.hid hK0
     clear hK0 hN hS hE
     refine⟨some false,by rw [pg]; rfl,?_⟩
     rw [if_neg (by decide)]
     exact hK.out _ _ rfl (H)
    ·intro x wx A rest hN hS hE H K hK0
     have e13:A.tmps[13]?.getD undef=undef:=((hS 5 (by decide)).2 13 rfl).trans (hS 5 (by decide)).1
     have e18:A.tmps[18]?.getD undef=undef:=((hS 10 (by decide)).2 18 rfl).trans (hS 10 (by decide)).1
     have pg:=(hS 2 (by decide)).1
     replace H:Sp w0 (rest) wx:=H
     have hK:Hid (∀(v:Value) (w' : World),v=undef->Sp w0 (rest) w'->K (A.put (some 19) v) w'):=Lib.hid hK0
     clear hK0 hN hS hE
     refine⟨some false,by rw [pg]; rfl,?_⟩
     rw [if_neg (by decide)]
     exact hK.out _ _ rfl (H)
    ·intro x wx A rest hN hS hE H K hK0
     have e10:A.tmps[10]?.getD undef=.bool false:=((hS 2 (by decide)).2 10 rfl).trans (hS 2 (by decide)).1
     have e19:A.tmps[19]?.getD undef=undef:=((hS 11 (by decide)).2 19 rfl).trans (hS 11 (by decide)).1
     replace H:Sp w0 (rest) wx:=H
     have hK:Hid (∀(v:Value) (w' : World),v=.bool false->Sp w0 (rest) w'->K (A.put (some 20) v) w'):=Lib.hid hK0
     clear hK0 hN hS hE
     change Oper.wp _ _ A wx K _
     go_step
     exact hK.out _ _ rfl (H)
    ·intro x wx A rest hN hS hE H K hK0
     have e20:A.tmps[20]?.getD undef=.bool false:=((hS 12 (by decide)).2 20 rfl).trans (hS 12 (by decide)).1
     replace H:Sp w0 (rest) wx:=H
     have hK:Hid (∀(v:Value) (w' : World),v=.bool false->Sp w0 (rest) w'->K (A.put (some 21) v) w'):=Lib.hid hK0
     clear hK0 hN hS hE
     change Oper.wp _ _ A wx K _
     go_step
     exact hK.out _ _ rfl (H)
    ·intro x wx A rest hN hS hE H K hK0
     have e0:A.tmps[0]?.getD undef=.pointer (some ⟨g,0,none⟩):=hN (0,.pointer (some ⟨g,0,none⟩)) (by simp)
     have pg:=(hS 13 (by decide)).1
     replace H:Sp w0 (rest) wx:=H
     have hK:Hid (∀(v:Value) (w' : World),v=undef->Sp w0 (rest) w'->K (A.put (some 22) v) w'):=Lib.hid hK0
     clear hK0 hN hS hE
     refine⟨some false,by rw [pg]; rfl,?_⟩
     rw [if_neg (by decide)]
     exact hK.out _ _ rfl (H)
    ·intro x wx A rest hN hS hE H K hK0
     have e22:A.tmps[22]?.getD undef=undef:=((hS 14 (by decide)).2 22 rfl).trans (hS 14 (by decide)).1
     have pg:=(hS 13 (by decide)).1
     replace H:Sp w0 (rest) wx:=H
     have hK:Hid (∀(v:Value) (w' : World),v=undef->Sp w0 (rest) w'->K (A.put (some 23) v) w'):=Lib.hid hK0
     clear hK0 hN hS hE
     refine⟨some false,by rw [pg]; rfl,?_⟩
     rw [if_neg (by decide)]
     exact hK.out _ _ rfl (H)
    ·intro x wx A rest hN hS hE H K hK0
     have e23:A.tmps[23]?.getD undef=undef:=((hS 15 (by decide)).2 23 rfl).trans (hS 15 (by decide)).1
     have pg:=(hS 13 (by decide)).1
     replace H:Sp w0 (rest) wx:=H
     have hK:Hid (∀(v:Value) (w' : World),v=undef->Sp w0 (rest) w'->K (A.put (some 24) v) w'):=Lib.hid hK0
     clear hK0 hN hS hE
     refine⟨some false,by rw [pg]; rfl,?_⟩
     rw [if_neg (by decide)]
     exact hK.out _ _ rfl (H)
    ·intro x wx A rest hN hS hE H K hK0
     have e24:A.tmps[24]?.getD undef=undef:=((hS 16 (by decide)).2 24 rfl).trans (hS 16 (by decide)).1
     have pg:=(hS 13 (by decide)).1
     replace H:Sp w0 (rest) wx:=H
     have hK:Hid (∀(v:Value) (w' : World),v=undef->Sp w0 (rest) w'->K (A.put (some 25) v) w'):=Lib.hid hK0
     clear hK0 hN hS
     refine⟨some false,by rw [pg]; rfl,?_⟩
     rw [if_neg (by decide)]
     exact hK.out _ _ rfl (H)
    ·intro x wx A rest hN hS hE H K hK0
     have e1:A.tmps[1]?.getD undef=.int .i64 (p:Int):=hN (1,.int .i64 (p:Int)) (by simp)
     have pg:=(hS 13 (by decide)).1
     replace H:Sp w0 (rest) wx:=H
     have hK:Hid (∀(v:Value) (w' : World),v=undef->Sp w0 (rest) w'->K (A.put (some 26) v) w'):=Lib.hid hK0
     clear hK0 hN hS hE
     refine⟨some false,by rw [pg]; rfl,?_⟩
     rw [if_neg (by decide)]
     exact hK.out _ _ rfl (H)
    ·intro x wx A rest hN hS hE H K hK0
     have e7:A.tmps[7]?.getD undef=.int .i64 258:=hN (7,.int .i64 258) (by simp)
     have pg:=(hS 13 (by decide)).1
     replace H:Sp w0 (rest) wx:=H
     have hK:Hid (∀(v:Value) (w' : World),v=undef->Sp w0 (rest) w'->K (A.put (some 27) v) w'):=Lib.hid hK0
     clear hK0 hN hS hE
     refine⟨some false,by rw [pg]; rfl,?_⟩
     rw [if_neg (by decide)]
     exact hK.out _ _ rfl (H)
    ·intro x wx A rest hN hS hE H K hK0
     have e26:A.tmps[26]?.getD undef=undef:=((hS 18 (by decide)).2 26 rfl).trans (hS 18 (by decide)).1
     have e27:A.tmps[27]?.getD undef=undef:=((hS 19 (by decide)).2 27 rfl).trans (hS 19 (by decide)).1
     have pg:=(hS 13 (by decide)).1
     replace H:Sp w0 (rest) wx:=H
     have hK:Hid (∀(v:Value) (w' : World),v=undef->Sp w0 (rest) w'->K (A.put (some 28) v) w'):=Lib.hid hK0
     clear hK0 hN hS hE
     refine⟨some false,by rw [pg]; rfl,?_⟩
     rw [if_neg (by decide)]
     exact hK.out _ _ rfl (H)
    ·intro x wx A rest hN hS hE H K hK0
     have e25:A.tmps[25]?.getD undef=undef:=((hS 17 (by decide)).2 25 rfl).trans (hS 17 (by decide)).1
     have e28:A.tmps[28]?.getD undef=undef:=((hS 20 (by decide)).2 28 rfl).trans (hS 20 (by decide)).1
     have pg:=(hS 13 (by decide)).1
     replace H:Sp w0 (rest) wx:=H
     have hK:Hid (∀(v:Value) (w' : World),v=undef->Sp w0 (rest) w'->K (A.put (some 29) v) w'):=Lib.hid hK0
     clear hK0 hN hS hE
     refine⟨some false,by rw [pg]; rfl,?_⟩
     rw [if_neg (by decide)]
     exact hK.out _ _ rfl (H)
    ·intro x wx A rest hN hS hE H K hK0
     have e29:A.tmps[29]?.getD undef=undef:=((hS 21 (by decide)).2 29 rfl).trans (hS 21 (by decide)).1
     have pg:=(hS 13 (by decide)).1
     replace H:Sp w0 (rest) wx:=H
     have hK:Hid (∀(v:Value) (w' : World),v=undef->Sp w0 (rest) w'->K (A.put (some 30) v) w'):=Lib.hid hK0
     clear hK0 hN hS
     refine⟨some false,by rw [pg]; rfl,?_⟩
     rw [if_neg (by decide)]
     exact hK.out _ _ rfl (H)
    ·intro x wx A rest hN hS hE H K hK0
     have e0:A.tmps[0]?.getD undef=.pointer (some ⟨g,0,none⟩):=hN (0,.pointer (some ⟨g,0,none⟩)) (by simp)
     have pg:=(hS 13 (by decide)).1
     replace H:Sp w0 (rest) wx:=H
     have hK:Hid (∀(v:Value) (w' : World),v=undef->Sp w0 (rest) w'->K (A.put (some 31) v) w'):=Lib.hid hK0
     clear hK0 hN hS hE
     refine⟨some false,by rw [pg]; rfl,?_⟩
     rw [if_neg (by decide)]
     exact hK.out _ _ rfl (H)
    ·intro x wx A rest hN hS hE H K hK0
     have e31:A.tmps[31]?.getD undef=undef:=((hS 23 (by decide)).2 31 rfl).trans (hS 23 (by decide)).1
     have pg:=(hS 13 (by decide)).1
     replace H:Sp w0 (rest) wx:=H
     have hK:Hid (∀(v:Value) (w' : World),v=undef->Sp w0 (rest) w'->K (A.put (some 32) v) w'):=Lib.hid hK0
     clear hK0 hN hS hE
     refine⟨some false,by rw [pg]; rfl,?_⟩
     rw [if_neg (by decide)]
     exact hK.out _ _ rfl (H)
    ·intro x wx A rest hN hS hE H K hK0
     have e32:A.tmps[32]?.getD undef=undef:=((hS 24 (by decide)).2 32 rfl).trans (hS 24 (by decide)).1
     have pg:=(hS 13 (by decide)).1
     replace H:Sp w0 (rest) wx:=H
     have hK:Hid (∀(v:Value) (w' : World),v=undef->Sp w0 (rest) w'->K (A.put (some 33) v) w'):=Lib.hid hK0
     clear hK0 hN hS hE
     refine⟨some false,by rw [pg]; rfl,?_⟩
     rw [if_neg (by decide)]
     exact hK.out _ _ rfl (H)
    ·intro x wx A rest hN hS hE H K hK0
     have e33:A.tmps[33]?.getD undef=undef:=((hS 25 (by decide)).2 33 rfl).trans (hS 25 (by decide)).1
     have pg:=(hS 13 (by decide)).1
     replace H:Sp w0 (rest) wx:=H
     have hK:Hid (∀(v:Value) (w' : World),v=undef->Sp w0 (rest) w'->K (A.put (some 34) v) w'):=Lib.hid hK0
     clear hK0 hN hS
     refine⟨some false,by rw [pg]; rfl,?_⟩
     rw [if_neg (by decide)]
     exact hK.out _ _ rfl (H)
    ·intro x wx A rest hN hS hE H K hK0
     have e2:A.tmps[2]?.getD undef=.int .i64 (q:Int):=hN (2,.int .i64 (q:Int)) (by simp)
     have pg:=(hS 13 (by decide)).1
     replace H:Sp w0 (rest) wx:=H
     have hK:Hid (∀(v:Value) (w' : World),v=undef->Sp w0 (rest) w'->K (A.put (some 35) v) w'):=Lib.hid hK0
     clear hK0 hN hS hE
     refine⟨some false,by rw [pg]; rfl,?_⟩
     rw [if_neg (by decide)]
     exact hK.out _ _ rfl (H)
    ·intro x wx A rest hN hS hE H K hK0
     have e7:A.tmps[7]?.getD undef=.int .i64 258:=hN (7,.int .i64 258) (by simp)
     have pg:=(hS 13 (by decide)).1
     replace H:Sp w0 (rest) wx:=H
     have hK:Hid (∀(v:Value) (w' : World),v=undef->Sp w0 (rest) w'->K (A.put (some 36) v) w'):=Lib.hid hK0
     clear hK0 hN hS hE
     refine⟨some false,by rw [pg]; rfl,?_⟩
     rw [if_neg (by decide)]
     exact hK.out _ _ rfl (H)
    ·intro x wx A rest hN hS hE H K hK0
     have e35:A.tmps[35]?.getD undef=undef:=((hS 27 (by decide)).2 35 rfl).trans (hS 27 (by decide)).1
     have e36:A.tmps[36]?.getD undef=undef:=((hS 28 (by decide)).2 36 rfl).trans (hS 28 (by decide)).1
     have pg:=(hS 13 (by decide)).1
     replace H:Sp w0 (rest) wx:=H
     have hK:Hid (∀(v:Value) (w' : World),v=undef->Sp w0 (rest) w'->K (A.put (some 37) v) w'):=Lib.hid hK0
     clear hK0 hN hS hE
     refine⟨some false,by rw [pg]; rfl,?_⟩
     rw [if_neg (by decide)]
     exact hK.out _ _ rfl (H)
    ·intro x wx A rest hN hS hE H K hK0
     have e34:A.tmps[34]?.getD undef=undef:=((hS 26 (by decide)).2 34 rfl).trans (hS 26 (by decide)).1
     have e37:A.tmps[37]?.getD undef=undef:=((hS 29 (by decide)).2 37 rfl).trans (hS 29 (by decide)).1
     have pg:=(hS 13 (by decide)).1
     replace H:Sp w0 (rest) wx:=H
     have hK:Hid (∀(v:Value) (w' : World),v=undef->Sp w0 (rest) w'->K (A.put (some 38) v) w'):=Lib.hid hK0
     clear hK0 hN hS hE
     refine⟨some false,by rw [pg]; rfl,?_⟩
     rw [if_neg (by decide)]
     exact hK.out _ _ rfl (H)
    ·intro x wx A rest hN hS hE H K hK0
     have e38:A.tmps[38]?.getD undef=undef:=((hS 30 (by decide)).2 38 rfl).trans (hS 30 (by decide)).1
     have pg:=(hS 13 (by decide)).1
     replace H:Sp w0 (rest) wx:=H
     have hK:Hid (∀(v:Value) (w' : World),v=undef->Sp w0 (rest) w'->K (A.put (some 39) v) w'):=Lib.hid hK0
     clear hK0 hN hS
     refine⟨some false,by rw [pg]; rfl,?_⟩
     rw [if_neg (by decide)]
     exact hK.out _ _ rfl (H)
    ·intro x wx A rest hN hS hE H K hK0
     have e30:A.tmps[30]?.getD undef=undef:=((hS 22 (by decide)).2 30 rfl).trans (hS 22 (by decide)).1
     have e39:A.tmps[39]?.getD undef=undef:=((hS 31 (by decide)).2 39 rfl).trans (hS 31 (by decide)).1
     have pg:=(hS 13 (by decide)).1
     replace H:Sp w0 (rest) wx:=H
     have hK:Hid (∀(v:Value) (w' : World),v=undef->Sp w0 (rest) w'->K (A.put (some 40) v) w'):=Lib.hid hK0
     clear hK0 hN hS hE
     refine⟨some false,by rw [pg]; rfl,?_⟩
     rw [if_neg (by decide)]
     exact hK.out _ _ rfl (H)
    ·intro x wx A rest hN hS hE H K hK0
     have e21:A.tmps[21]?.getD undef=.bool false:=((hS 13 (by decide)).2 21 rfl).trans (hS 13 (by decide)).1
     have e40:A.tmps[40]?.getD undef=undef:=((hS 32 (by decide)).2 40 rfl).trans (hS 32 (by decide)).1
     replace H:Sp w0 (rest) wx:=H
     have hK:Hid (∀(v:Value) (w' : World),v=.bool false->Sp w0 (rest) w'->K (A.put (some 41) v) w'):=Lib.hid hK0
     clear hK0 hN hS hE
     change Oper.wp _ _ A wx K _
     go_step
     exact hK.out _ _ rfl (H)
   case hend =>
    intro x wx A hA hS H
    replace H:Sp w0 (L) wx:=H
    have y33:x 33=.bool false:=hS 33 (by decide)
    clear hS
    simp only [putAll,Act.put,List.setIfInBounds_toArray,List.set_cons_succ,List.set_cons_zero,Nat.reduceAdd] at hA
    subst hA
    rw [y33]
    clear y33
    go_wp2
    go_ret
    refine⟨?_,H⟩
    rw [PM.mlen_of B p q 258 hj HS.out (.inl rfl)]
    rfl
end Go.Proofs.YtloijdbkikccgaaDoor

