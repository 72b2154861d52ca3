/- A pack of texts: MatchB MatchC. -/
import Derived.Carry
import Derived.Test.YtloijdbkikccgaaDoorPk02
import Derived.Test.YtloijdbkikccgaaDoorPk03
import Derived.Test.YtloijdbkikccgaaDoorPk13
import Derived.Test.YtloijdbkikccgaaDoorPk18
namespace Go.Proofs.YtloijdbkikccgaaDoor
open Go.RowKit Go.MapKept
theorem fd_look {w0 w:World} {L:List Pr} {B:List UInt8} {n mb:Nat} {es:Array MapEntry} {clock:Nat} (hok:FdOk B n es clock) (k:Three)
  (H:Sp w0 (Rows (PM.places B n) es.toList::L) w) :
  ∃(V:Option Addr) (c:Nat) (rl:List MapEntry),(PM.places B n k).length<=c /\
   Sp w0 (Row 3 1 (.slice V (PM.places B n k).length c) (PM.places B n k).length (intsV (PM.places B n k))::Rows (PM.places B n) rl::L) w /\
   (∀u:World,u.heap[mb]?=some (.map es clock)->(Instr.lookup 152 (.map (some mb)) (key3 k) false).run Tryd.prog u=.ok (.slice V (PM.places B n k).length c) u) /\
   ∀(w1 w' : World) (L' : List Pr),Sp w1 (Row 3 1 (.slice V (PM.places B n k).length c) (PM.places B n k).length (intsV (PM.places B n k))::Rows (PM.places B n) rl::L') w'->Sp w1 (Rows (PM.places B n) es.toList::L') w':=by
 rcases hok.ok.find w k with ⟨_,hk⟩ | ⟨j,e,_,hj,hk⟩
 ·have hp:=hok.none hk
  rw [hp]
  exact⟨none,0,es.toList,Nat.le_refl _,H.rowNil _ _,fun u hu=>look_new hok.ok hu hk,fun _ _ _ HH=>HH.tail⟩
 ·obtain⟨a,c,e1,_⟩:=split_at hj
  rw [e1] at H
  have H3:=rows_take a e c H
  rw [hk,unkey_key] at H3
  obtain⟨V,c0,hv,h1,_⟩:=Row.form H3 0 rfl
  refine⟨V,c0,a++c,h1,by rw [<- hv]; exact H3,fun u hu=>by rw [<- hv]; exact look_old hok.ok hu hj hk,fun _ _ _ HH=>?_⟩
  rw [e1]
  refine rows_put a e c ?_
  rw [hk,unkey_key,hv]
  exact HH
section
variable {P:Program}
theorem wp_lookup {o:Oper} {a:Act} {w:World} {K:Act->World->Prop} {Q:Exit->Act->World->Prop} (t:TypeId) (m k:Operand) (b:Bool) (ho:o.op=.lookup t m k b) (vm vk:Value) (hm:a.eval m=vm) (hk:a.eval k=vk) {v:Value} {w' : World}
  (hr:(Instr.lookup t vm vk b).run P w=.ok v w') (h:K (a.put o.dst v) w'):o.wp P a w K Q:=by
 unfold Oper.wp execOp
 simp only [ho,Sem.run_bind,Sem.run_pure,Result.andThen_ok,hm,hk,hr]
 exact h
end
def stV (s:PM.St):Value:=.agg #[.int .i64 (s.1:Int),.int .i64 (s.2.1:Int),.int .u8 (s.2.2.toNat:Int)]
set_option maxRecDepth 100000 in
set_option maxHeartbeats 4000000 in
theorem best_ok (g at_ n l d:Nat) (A0:Option Addr) (c:Nat) (B:List UInt8) {w0 w:World} {L:List Pr} (H:Sp w0 (Fd g (.slice A0 l c) B (d:Int) n::L) w) (hl:l=B.length) (hb:Ent L (fun w=>Byt w (.slice A0 l c) B)) (hat:at_<=1000000000) (hlm:l<=1000000000) (hn:n<=at_) :
  Calls Tryd.prog 50 #[.pointer (some ⟨g,0,none⟩),.int .i64 (at_:Int)] w fun e w'=>∃n',n'<=at_ /\
   e=.returned (.tuple #[stV ((PM.best B at_ d).1,(PM.best B at_ d).2,0),.bool (decide (0<(PM.best B at_ d).1))])/\Sp w0 (Fd g (.slice A0 l c) B (d:Int) n'::L) w':=by
 have h169:Tryd.prog.underlying 156=some (.array 3 5):=by kernel_rfl
 have H169:=Lib.hid h169
 clear h169
 obtain⟨hlc,hcm⟩:l<=c/\c<=maxLen:=by
  obtain⟨_,_,e,_,h1,h2⟩:=hb _ _ H.tail
  injection e with e1 e2 e3
  rw [e3,e2]
  exact⟨h1,h2⟩
 unfold maxLen at hcm
 have HL:=Lib.hid hl
 have HB:=Lib.hid hb
 clear hl hb
 by_cases hal:at_+3<=l
 ·obtain⟨mb,es,clock,hok,H2⟩:=fd_open H
  have c0:∀o,(w.alloc o).cell? ⟨g,0,none⟩=some (.slice A0 l c):=fun o=>(H2.alloc o).cell 0 rfl 0
  have k1:decide ((l:Int)<at_+3)=false:=decide_eq_false (by omega)
  go_enter Tryd.func50,Tryd.ntmps50
  go_wp2_with fail
  clear c0 k1 hok H2
  have H4:=(H.newBk [.int .i64 0,.int .i64 0,.int .u8 0] 150).swap
  generalize w.heap.size=r at H4 ⊢
  generalize w.alloc _=w1 at H4 ⊢
  refine(note_ok g at_ n l A0 c B d H4 HL.out (Ent.cons _ HB.out) hat hlm).mono ?_
  rintro _ w2 ⟨rfl,H5⟩
  rw [show max n (min at_ (l - 2))=at_ by omega] at H5
  clear H4 w1
  go_wp2_with fail
  have H6:=H5.newBk [.int .i64 0,.int .i64 0,.int .u8 0] 150
  generalize w2.heap.size=s at H6 ⊢
  generalize w2.alloc _=w3 at H6 ⊢
  clear H5 w2
  obtain⟨mb,es,clock,hok,H7⟩:=fd_open (H6.pick 3 [1,0,2])
  obtain⟨k,hk⟩:∃k,PM.at3 B at_=k:=⟨_,rfl⟩
  obtain⟨V,cV,rl,hVc,H8,hlook,hshut⟩:=fd_look (mb:=mb) hok k (H7.pick 3 [2,0,1])
  obtain⟨C,hC⟩:∃C,PM.places B at_ k=C:=⟨_,rfl⟩
  rw [hC] at H8 hlook hshut hVc
  have HLOOK:=Lib.hid hlook
  have HSHUT:=Lib.hid hshut
  obtain⟨ad,rfl⟩:∃ad,A0=some ad:=by
   obtain⟨_,_,e,hr,_,_⟩:=HB.out _ _ (H.pick 1 [])
   obtain⟨ad,e2,_⟩:=hr.at8 (k:=at_) (by rw [<- HL.out]; omega)
   injection e with e
   exact⟨ad,e.trans e2⟩
  have hcel:Ent L (fun w=>w.cell? (ad.add at_)=some (.int .u8 (k.1.toNat:Int))/\w.cell? ⟨(ad.add at_).block,(ad.add at_).off+1,none⟩=some (.int .u8 (k.2.1.toNat:Int))/\w.cell? ⟨(ad.add at_).block,(ad.add at_).off+2,none⟩=some (.int .u8 (k.2.2.toNat:Int))):=HB.out.mono fun w' hw=>by
   rw [<- hk]
   exact at3_cells hw at_ (by rw [<- HL.out]; omega)
  have HCE:=Lib.hid hcel
  have HK:=Lib.hid hk
  have HC:=Lib.hid hC
  have HOK:=Lib.hid hok
  have hVm:C.length<=at_:=by rw [<- hC]; exact PM.places_len _ _ _
  clear hcel hk hlook hshut hC hok H6 H7
  have k3:(at_:Int)<c:=by omega
  have k4:3<=l - at_:=by omega
  have k5:at_<=l:=by omega
  have k6:¬ c=at_:=by omega
  go_wp2_with fail
  refine wp_region_sc (L:=Row 3 1 (.slice V C.length cV) C.length (intsV C)::Rows (PM.places B at_) rl::FdB g (.slice (some ad) l c) (d:Int) mb at_::Is mb (.map es clock)::Bk s 150 [.int .i64 0,.int .i64 0,.int .u8 0]::Bk r 150 [.int .i64 0,.int .i64 0,.int .u8 0]::L) [some (.pointer (some ⟨g,0,none⟩)),some (.pointer (some ⟨g,0,none⟩)),some (.pointer (some ⟨g,2,none⟩)),some (.map (some mb)),some (.pointer (some ⟨g,0,none⟩)),some (.pointer (some ⟨g,0,none⟩)),some (.pointer (some ⟨g,0,none⟩)),some (.slice (some ad) l c),some (.int .i64 (at_:Int)),some (.slice (some (ad.add at_)) (l - at_) (c - at_)),some (.pointer (some (ad.add at_))),some (key3 k),some (.slice V C.length cV),some (.slice V C.length cV)] (fun _ _=>True) (fun _ _=>[]) (fun _=>[]) 14 82
   [some 24,some 25,some 26,some 27,some 28,some 29,some 30,some 31,some 32,some 33,some 34,some 35,some 36,some 7]
   [[],[0],[1],[2],[],[4],[5],[6],[],[7,8],[9],[10],[3,11],[12,0,1,2,3,4,5,6,7,8,9,10,11,12]]
   [[],[0],[0,1],[0,1,2],[],[4],[4,5],[4,5,6],[],[4,5,6,7,8],[4,5,6,7,8,9],[4,5,6,7,8,9,10],[0,1,2,3,4,5,6,7,8,9,10,11],[0,1,2,3,4,5,6,7,8,9,10,11,12]]
   [[],[],[],[],[],[],[],[],[],[],[],[],[],[]] [[],[],[],[],[],[],[],[],[],[],[],[],[],[]] [(0,.pointer (some ⟨g,0,none⟩)),(1,.int .i64 (at_:Int))]
   (by kernel_rfl) rfl (by decide) (by rfl) (by decide +kernel) rfl rfl (by simp) (H8) ?hstep ?hend
  case hstep =>
   refine⟨?p0,⟨?p1,⟨?p2,⟨?p3,⟨?p4,⟨?p5,⟨?p6,⟨?p7,⟨?p8,⟨?p9,⟨?p10,⟨?p11,⟨?p12,⟨?p13,trivial⟩⟩⟩⟩⟩⟩⟩⟩⟩⟩⟩⟩⟩⟩
   case p0 | p1 | p2 | p4 | p5 | p6 | p8 | p9 | p13 =>
    intro x wx A rest hDf hF hS hE H K hK
    replace hK:=Lib.hid hK
    clear hS hE hDf
    repeat (obtain⟨_,hF⟩:=hF)
    change Oper.wp _ _ A wx K _
    go_step
    exact hK.out _ _ rfl H
   case p3 =>
    intro x wx A rest hDf hF hS hE H K hK0
    replace hDf:=Lib.hid hDf
    have e26:A.tmps[26]?.getD undef=.pointer (some ⟨g,2,none⟩):=((hS 2 (by decide)).2 26 rfl).trans (hS 2 (by decide)).1
    replace H:Sp w0 (rest) wx:=H
    have hK:Hid (∀(v:Value) (w' : World),v=.map (some mb)->Sp w0 (rest) w'->K (A.put (some 27) v) w'):=Lib.hid hK0
    clear hK0 hF hS
    have c2:wx.cell? ⟨g,2,none⟩=some (.map (some mb)):=hE (fun w=>w.cell? ⟨g,2,none⟩=some (.map (some mb))) (fun _ _ H=>H.cell 2 rfl 2) _ _ H
    change Oper.wp _ _ A wx K _
    go_step
    exact hK.out _ _ rfl (H)
   case p7 =>
    intro x wx A rest hDf hF hS hE H K hK0
    replace hDf:=Lib.hid hDf
    have e30:A.tmps[30]?.getD undef=.pointer (some ⟨g,0,none⟩):=((hS 6 (by decide)).2 30 rfl).trans (hS 6 (by decide)).1
    replace H:Sp w0 (rest) wx:=H
    have hK:Hid (∀(v:Value) (w' : World),v=.slice (some ad) l c->Sp w0 (rest) w'->K (A.put (some 31) v) w'):=Lib.hid hK0
    clear hK0 hF hS
    have c0:wx.cell? ⟨g,0,none⟩=some (.slice (some ad) l c):=hE (fun w=>w.cell? ⟨g,0,none⟩=some (.slice (some ad) l c)) (fun _ _ H=>H.cell 2 rfl 0) _ _ H
    change Oper.wp _ _ A wx K _
    go_step
    exact hK.out _ _ rfl (H)
   case p10 =>
    intro x wx A rest hDf hF hS hE H K hK0
    replace hDf:=Lib.hid hDf
    have e33:A.tmps[33]?.getD undef=.slice (some (ad.add at_)) (l - at_) (c - at_):=((hS 9 (by decide)).2 33 rfl).trans (hS 9 (by decide)).1
    replace H:Sp w0 (rest) wx:=H
    have hK:Hid (∀(v:Value) (w' : World),v=.pointer (some (ad.add at_))->Sp w0 (rest) w'->K (A.put (some 34) v) w'):=Lib.hid hK0
    clear hK0 hF hS hE
    have ha:=run_arrayAt (P:=Tryd.prog) wx 156 _ 3 (some (ad.add at_)) (l - at_) (c - at_) H169.out k4
    change Oper.wp _ _ A wx K _
    go_step
    exact hK.out _ _ rfl (H)
   case p11 =>
    intro x wx A rest hDf hF hS hE H K hK0
    replace hDf:=Lib.hid hDf
    have e34:A.tmps[34]?.getD undef=.pointer (some (ad.add at_)):=((hS 10 (by decide)).2 34 rfl).trans (hS 10 (by decide)).1
    replace H:Sp w0 (rest) wx:=H
    have hK:Hid (∀(v:Value) (w' : World),v=key3 k->Sp w0 (rest) w'->K (A.put (some 35) v) w'):=Lib.hid hK0
    clear hK0 hF hS
    obtain⟨d0,d1,d2⟩:=hE _ (Ent.pick 6 [] HCE.out) _ _ H
    change Oper.wp _ _ A wx K _
    go_step
    exact hK.out _ _ rfl (H)
   case p12 =>
    intro x wx A rest hDf hF hS hE H K hK0
    replace hDf:=Lib.hid hDf
    have e27:A.tmps[27]?.getD undef=.map (some mb):=((hS 3 (by decide)).2 27 rfl).trans (hS 3 (by decide)).1
    have e35:A.tmps[35]?.getD undef=key3 k:=((hS 11 (by decide)).2 35 rfl).trans (hS 11 (by decide)).1
    replace H:Sp w0 (rest) wx:=H
    have hK:Hid (∀(v:Value) (w' : World),v=.slice V C.length cV->Sp w0 (rest) w'->K (A.put (some 36) v) w'):=Lib.hid hK0
    clear hK0 hF hS
    have hm9:wx.heap[mb]?=some (.map es clock):=hE (fun w=>w.heap[mb]?=some (.map es clock)) (fun _ _ H=>H.is_ 3 rfl) _ _ H
    change Oper.wp _ _ A wx K _
    exact wp_lookup _ _ _ _ rfl _ _ (ev e27) (ev e35) (HLOOK.out wx hm9) (hK.out _ _ rfl H)
  case hend =>
   intro x wx A hA hS H
   replace H:Sp w0 (Row 3 1 (.slice V C.length cV) C.length (intsV C)::Rows (PM.places B at_) rl::FdB g (.slice (some ad) l c) (d:Int) mb at_::Is mb (.map es clock)::Bk s 150 [.int .i64 0,.int .i64 0,.int .u8 0]::Bk r 150 [.int .i64 0,.int .i64 0,.int .u8 0]::L) wx:=H
   have y13:x 13=.slice V C.length cV:=hS 13 (by decide)
   clear hS
   simp only [putAll,Act.put,List.setIfInBounds_toArray,List.set_cons_succ,List.set_cons_zero,Nat.reduceAdd] at hA
   subst hA
   rw [y13]
   clear y13
   go_wp2
   have hgo0:PM.go B at_ ((C.take C.length).reverse) (d - 0) (0,0)=PM.best B at_ d:=by
    unfold PM.best
    rw [if_pos (by rw [<- HL.out]; exact hal),HK.out,HC.out,List.take_length]; rfl
   have HGO0:=Lib.hid hgo0
   clear hgo0
   have hmem:∀i (h:i<C.length),C[i] < at_:=fun i h=>PM.places_lt (B:=B) (k:=k) (by rw [HC.out]; exact List.getElem_mem h)
   have HMEM:=Lib.hid hmem
   clear hmem
   go_loopw [8,9] (fun tv iv wr=>∃(j t:Nat) (b:Nat × Nat),tv=.int .i64 (t:Int)/\iv=.int .i64 ((j:Int) - 1)/\t+j<=C.length/\PM.go B at_ ((C.take j).reverse) (d - t) b=PM.best B at_ d /\
    Sp w0 (Row 3 1 (.slice V C.length cV) C.length (intsV C)::Rows (PM.places B at_) rl::FdB g (.slice (some ad) l c) (d:Int) mb at_::Is mb (.map es clock)::Bk s 150 [.int .i64 (b.1:Int),.int .i64 (b.2:Int),.int .u8 0]::Bk r 150 [.int .i64 0,.int .i64 0,.int .u8 0]::L) wr) (fun _ iv _=>(intOf iv+1).toNat)
   case atStart=>exact⟨C.length,0,(0,0),rfl,rfl,by omega,HGO0.out,H⟩
   case round =>
    obtain⟨j,t,b,rfl,rfl,hjt,hgo,H⟩:=hrel
    obtain⟨b1,b2⟩:=b
    have HGO:=Lib.hid hgo
    clear hgo HGO0
    have d1:wr.cell? ⟨g,1,none⟩=some (.int .i64 (d:Int)):=H.cell 2 rfl 1
    cases j with
    | zero =>
     have k7:decide ((0:Int)<=((0:Nat):Int) - 1)=false:=rfl
     have hb:(b1,b2)=PM.best B at_ d:=HGO.out
     have HBE:=Lib.hid hb
     clear hb
     obtain⟨bz,hbz⟩:∃bz,decide (0<b1)=bz:=⟨_,rfl⟩
     go_wp2_with fail
     refine wp_region_sc (L:=Row 3 1 (.slice V C.length cV) C.length (intsV C)::Rows (PM.places B at_) rl::FdB g (.slice (some ad) l c) (d:Int) mb at_::Is mb (.map es clock)::Bk s 150 [.int .i64 (b1:Int),.int .i64 (b2:Int),.int .u8 0]::L) [some (.agg #[.int .i64 (b1:Int),.int .i64 (b2:Int),.int .u8 0]),some (.pointer (some ⟨s,0,none⟩)),some (.int .i64 (b1:Int)),some (.bool bz),none,some (.bool bz)] (fun _ _=>True) (fun ix vx=>match ix with | 4=>(fun _=>[Bk r 150 [.int .i64 (b1:Int),.int .i64 (b2:Int),.int .u8 0]]) vx | _=>[]) (fun ix=>match ix with | 4=>[Bk r 150 [.int .i64 0,.int .i64 0,.int .u8 0]] | _=>[]) 6 82
      [some 78,some 79,some 80,some 81,none,some 5]
      [[],[],[1],[2],[0,0],[3,4,0,1,2,3,4]]
      [[],[],[1],[1,2],[0],[0,1,2,3,4]]
      [[],[],[],[],[],[]] [[],[],[],[],[],[]] [(4,.pointer (some ⟨r,0,none⟩)),(6,.pointer (some ⟨s,0,none⟩))]
      (by kernel_rfl) rfl (by decide) (by rfl) (by decide +kernel) rfl rfl (by simp) (H.pick 6 [5,0,1,2,3,4]) ?hstep ?hend
     case hstep =>
      refine⟨?p0,⟨?p1,⟨?p2,⟨?p3,⟨?p4,⟨?p5,trivial⟩⟩⟩⟩⟩⟩
      case p1 | p3 | p5 =>
       intro x wx A rest hDf hF hS hE H K hK
       replace hK:=Lib.hid hK
       clear hS hE hDf
       repeat (obtain⟨_,hF⟩:=hF)
       change Oper.wp _ _ A wx K _
       go_step
       exact hK.out _ _ rfl H
      case p0 =>
       intro x wx A rest hDf hF hS hE H K hK0
       replace hDf:=Lib.hid hDf
       have e6:A.tmps[6]?.getD undef=.pointer (some ⟨s,0,none⟩):=factsE_get hF (6,.pointer (some ⟨s,0,none⟩)) (by simp) (by rfl)
       replace H:Sp w0 (rest) wx:=H
       have hK:Hid (∀(v:Value) (w' : World),v=.agg #[.int .i64 (b1:Int),.int .i64 (b2:Int),.int .u8 0]->Sp w0 (rest) w'->K (A.put (some 78) v) w'):=Lib.hid hK0
       clear hK0 hF hS
       have b0:wx.cell? ⟨s,0,none⟩=some (.int .i64 (b1:Int)):=hE (fun w=>w.cell? ⟨s,0,none⟩=some (.int .i64 (b1:Int))) (fun _ _ H=>H.cell 4 rfl 0) _ _ H
       have b1:wx.cell? ⟨s,1,none⟩=some (.int .i64 (b2:Int)):=hE (fun w=>w.cell? ⟨s,1,none⟩=some (.int .i64 (b2:Int))) (fun _ _ H=>H.cell 4 rfl 1) _ _ H
       have b2:wx.cell? ⟨s,2,none⟩=some (.int .u8 0):=hE (fun w=>w.cell? ⟨s,2,none⟩=some (.int .u8 0)) (fun _ _ H=>H.cell 4 rfl 2) _ _ H
       change Oper.wp _ _ A wx K _
       go_step
       exact hK.out _ _ rfl (H)
      case p2 =>
       intro x wx A rest hDf hF hS hE H K hK0
       replace hDf:=Lib.hid hDf
       have e79:A.tmps[79]?.getD undef=.pointer (some ⟨s,0,none⟩):=((hS 1 (by decide)).2 79 rfl).trans (hS 1 (by decide)).1
       replace H:Sp w0 (rest) wx:=H
       have hK:Hid (∀(v:Value) (w' : World),v=.int .i64 (b1:Int)->Sp w0 (rest) w'->K (A.put (some 80) v) w'):=Lib.hid hK0
       clear hK0 hF hS
       have b0:wx.cell? ⟨s,0,none⟩=some (.int .i64 (b1:Int)):=hE (fun w=>w.cell? ⟨s,0,none⟩=some (.int .i64 (b1:Int))) (fun _ _ H=>H.cell 4 rfl 0) _ _ H
       change Oper.wp _ _ A wx K _
       go_step
       exact hK.out _ _ rfl (H)
      case p4 =>
       intro x wx A rest hDf hF hS hE H K hK0
       replace hDf:=Lib.hid hDf
       have e4:A.tmps[4]?.getD undef=.pointer (some ⟨r,0,none⟩):=factsE_get hF (4,.pointer (some ⟨r,0,none⟩)) (by simp) (by rfl)
       have e78:A.tmps[78]?.getD undef=.agg #[.int .i64 (b1:Int),.int .i64 (b2:Int),.int .u8 0]:=((hS 0 (by decide)).2 78 rfl).trans (hS 0 (by decide)).1
       replace H:Sp w0 ((Bk r 150 [.int .i64 0,.int .i64 0,.int .u8 0])::rest) wx:=H
       have hK:Hid (∀(v:Value) (w' : World),True->Sp w0 ((Bk r 150 [.int .i64 (b1:Int),.int .i64 (b2:Int),.int .u8 0])::rest) w'->K (A.put none v) w'):=Lib.hid hK0
       clear hK0 hF hS hE
       have z0:wx.frozen? ⟨r,0,none⟩=false:=H.frozen 0 rfl 0
       have z1:wx.frozen? ⟨r,1,none⟩=false:=H.frozen 0 rfl 1
       have z2:wx.frozen? ⟨r,2,none⟩=false:=H.frozen 0 rfl 2
       have z3:wx.cell? ⟨r,0,none⟩=some (.int .i64 0):=H.cell 0 rfl 0
       have z4:wx.cell? ⟨r,1,none⟩=some (.int .i64 0):=H.cell 0 rfl 1
       have z5:wx.cell? ⟨r,2,none⟩=some (.int .u8 0):=H.cell 0 rfl 2
       change Oper.wp _ _ A wx K _
       go_step
       exact hK.out undef _ trivial (((H.set 0 _).set 1 _).set 2 _)
     case hend =>
      intro x wx A hA hS H
      replace H:Sp w0 ((Bk r 150 [.int .i64 (b1:Int),.int .i64 (b2:Int),.int .u8 0])::Row 3 1 (.slice V C.length cV) C.length (intsV C)::Rows (PM.places B at_) rl::FdB g (.slice (some ad) l c) (d:Int) mb at_::Is mb (.map es clock)::Bk s 150 [.int .i64 (b1:Int),.int .i64 (b2:Int),.int .u8 0]::L) wx:=H
      have y5:x 5=.bool bz:=hS 5 (by decide)
      clear hS
      simp only [putAll,Act.put,List.setIfInBounds_toArray,List.set_cons_succ,List.set_cons_zero,Nat.reduceAdd] at hA
      subst hA
      rw [y5]
      clear y5
      have f0:wx.cell? ⟨r,0,none⟩=some (.int .i64 (b1:Int)):=H.cell 0 rfl 0
      have f1:wx.cell? ⟨r,1,none⟩=some (.int .i64 (b2:Int)):=H.cell 0 rfl 1
      have f2:wx.cell? ⟨r,2,none⟩=some (.int .u8 0):=H.cell 0 rfl 2
      go_wp2
      refine bodyPost_ret (v:=.tuple #[.agg #[.int .i64 (b1:Int),.int .i64 (b2:Int),.int .u8 0],.bool bz]) (by simp [results,Tryd.results50,go_sem,f0,f1,f2]) rfl ?_
      have he:=HBE.out
      rw [<- he,<- hbz]
      exact⟨at_,Nat.le_refl _,rfl,fd_shut HOK.out ((HSHUT.out _ _ _ (H.pick 6 [1,2,3,4])).pick 3 [1,2,0])⟩
    | succ i =>
     have e9:((i+1:Nat):Int) - 1=(i:Int):=by omega
     rw [e9]
     have k7:decide ((0:Int)<=(i:Int))=true:=decide_eq_true (by omega)
     by_cases htd:t<d
     ·have k8:decide ((t:Int)<(d:Int))=true:=decide_eq_true (by omega)
      have hi:i<C.length:=by omega
      obtain⟨V2,c2,ev,hr,_,_⟩:=H.row_rd 0 rfl
      injection ev with ev _ e3
      subst ev
      subst e3
      obtain⟨av,rfl,hce⟩:=hr.at_ (k:=i) (by simpa [intsV] using hi)
      obtain⟨p,hp⟩:∃p,C[i]=p:=⟨_,rfl⟩
      have hpa:p<at_:=by rw [<- hp]; exact HMEM.out i hi
      have ce:wr.cell? (av.add i)=some (.int .i64 (p:Int)):=by
       rw [hce]
       simp [intsV,hp]
      have hgo2:PM.go B at_ (p::(C.take i).reverse) (d - t) (b1,b2)=PM.best B at_ d:=by
       rw [<- HGO.out,List.take_succ_eq_append_getElem hi,List.reverse_append,hp]; rfl
      have HGO2:=Lib.hid hgo2
      have k9:(i:Int)<(C.length:Int):=by omega
      have k10:decide ((at_:Int)<=(p:Int))=false:=decide_eq_false (by omega)
      clear hgo2 hr hce hp e9
      by_cases hfar:32768<at_ - p
      ·have k11:decide ((32768:Int)<(at_:Int) - (p:Int))=true:=decide_eq_true (by omega)
       have hb:(b1,b2)=PM.best B at_ d:=by
        rw [<- HGO2.out,PM.go,if_neg (by omega),if_pos hfar]
       have HBE:=Lib.hid hb
       clear hb
       obtain⟨bz,hbz⟩:∃bz,decide (0<b1)=bz:=⟨_,rfl⟩
       go_wp2_with fail
       refine wp_region_sc (L:=Row 3 1 (.slice (some av) C.length cV) C.length (intsV C)::Rows (PM.places B at_) rl::FdB g (.slice (some ad) l c) (d:Int) mb at_::Is mb (.map es clock)::Bk s 150 [.int .i64 (b1:Int),.int .i64 (b2:Int),.int .u8 0]::L) [some (.agg #[.int .i64 (b1:Int),.int .i64 (b2:Int),.int .u8 0]),some (.pointer (some ⟨s,0,none⟩)),some (.int .i64 (b1:Int)),some (.bool bz),none,some (.bool bz)] (fun _ _=>True) (fun ix vx=>match ix with | 4=>(fun _=>[Bk r 150 [.int .i64 (b1:Int),.int .i64 (b2:Int),.int .u8 0]]) vx | _=>[]) (fun ix=>match ix with | 4=>[Bk r 150 [.int .i64 0,.int .i64 0,.int .u8 0]] | _=>[]) 6 82
        [some 78,some 79,some 80,some 81,none,some 5]
        [[],[],[1],[2],[0,0],[3,4,0,1,2,3,4]]
        [[],[],[1],[1,2],[0],[0,1,2,3,4]]
        [[],[],[],[],[],[]] [[],[],[],[],[],[]] [(4,.pointer (some ⟨r,0,none⟩)),(6,.pointer (some ⟨s,0,none⟩))]
        (by kernel_rfl) rfl (by decide) (by rfl) (by decide +kernel) rfl rfl (by simp) (H.pick 6 [5,0,1,2,3,4]) ?hstep ?hend
       case hstep =>
        refine⟨?p0,⟨?p1,⟨?p2,⟨?p3,⟨?p4,⟨?p5,trivial⟩⟩⟩⟩⟩⟩
        case p1 | p3 | p5 =>
         intro x wx A rest hDf hF hS hE H K hK
         replace hK:=Lib.hid hK
         clear hS hE hDf
         repeat (obtain⟨_,hF⟩:=hF)
         change Oper.wp _ _ A wx K _
         go_step
         exact hK.out _ _ rfl H
        case p0 =>
         intro x wx A rest hDf hF hS hE H K hK0
         replace hDf:=Lib.hid hDf
         have e6:A.tmps[6]?.getD undef=.pointer (some ⟨s,0,none⟩):=factsE_get hF (6,.pointer (some ⟨s,0,none⟩)) (by simp) (by rfl)
         replace H:Sp w0 (rest) wx:=H
         have hK:Hid (∀(v:Value) (w' : World),v=.agg #[.int .i64 (b1:Int),.int .i64 (b2:Int),.int .u8 0]->Sp w0 (rest) w'->K (A.put (some 78) v) w'):=Lib.hid hK0
         clear hK0 hF hS
         have b0:wx.cell? ⟨s,0,none⟩=some (.int .i64 (b1:Int)):=hE (fun w=>w.cell? ⟨s,0,none⟩=some (.int .i64 (b1:Int))) (fun _ _ H=>H.cell 4 rfl 0) _ _ H
         have b1:wx.cell? ⟨s,1,none⟩=some (.int .i64 (b2:Int)):=hE (fun w=>w.cell? ⟨s,1,none⟩=some (.int .i64 (b2:Int))) (fun _ _ H=>H.cell 4 rfl 1) _ _ H
         have b2:wx.cell? ⟨s,2,none⟩=some (.int .u8 0):=hE (fun w=>w.cell? ⟨s,2,none⟩=some (.int .u8 0)) (fun _ _ H=>H.cell 4 rfl 2) _ _ H
         change Oper.wp _ _ A wx K _
         go_step
         exact hK.out _ _ rfl (H)
        case p2 =>
         intro x wx A rest hDf hF hS hE H K hK0
         replace hDf:=Lib.hid hDf
         have e79:A.tmps[79]?.getD undef=.pointer (some ⟨s,0,none⟩):=((hS 1 (by decide)).2 79 rfl).trans (hS 1 (by decide)).1
         replace H:Sp w0 (rest) wx:=H
         have hK:Hid (∀(v:Value) (w' : World),v=.int .i64 (b1:Int)->Sp w0 (rest) w'->K (A.put (some 80) v) w'):=Lib.hid hK0
         clear hK0 hF hS
         have b0:wx.cell? ⟨s,0,none⟩=some (.int .i64 (b1:Int)):=hE (fun w=>w.cell? ⟨s,0,none⟩=some (.int .i64 (b1:Int))) (fun _ _ H=>H.cell 4 rfl 0) _ _ H
         change Oper.wp _ _ A wx K _
         go_step
         exact hK.out _ _ rfl (H)
        case p4 =>
         intro x wx A rest hDf hF hS hE H K hK0
         replace hDf:=Lib.hid hDf
         have e4:A.tmps[4]?.getD undef=.pointer (some ⟨r,0,none⟩):=factsE_get hF (4,.pointer (some ⟨r,0,none⟩)) (by simp) (by rfl)
         have e78:A.tmps[78]?.getD undef=.agg #[.int .i64 (b1:Int),.int .i64 (b2:Int),.int .u8 0]:=((hS 0 (by decide)).2 78 rfl).trans (hS 0 (by decide)).1
         replace H:Sp w0 ((Bk r 150 [.int .i64 0,.int .i64 0,.int .u8 0])::rest) wx:=H
         have hK:Hid (∀(v:Value) (w' : World),True->Sp w0 ((Bk r 150 [.int .i64 (b1:Int),.int .i64 (b2:Int),.int .u8 0])::rest) w'->K (A.put none v) w'):=Lib.hid hK0
         clear hK0 hF hS hE
         have z0:wx.frozen? ⟨r,0,none⟩=false:=H.frozen 0 rfl 0
         have z1:wx.frozen? ⟨r,1,none⟩=false:=H.frozen 0 rfl 1
         have z2:wx.frozen? ⟨r,2,none⟩=false:=H.frozen 0 rfl 2
         have z3:wx.cell? ⟨r,0,none⟩=some (.int .i64 0):=H.cell 0 rfl 0
         have z4:wx.cell? ⟨r,1,none⟩=some (.int .i64 0):=H.cell 0 rfl 1
         have z5:wx.cell? ⟨r,2,none⟩=some (.int .u8 0):=H.cell 0 rfl 2
         change Oper.wp _ _ A wx K _
         go_step
         exact hK.out undef _ trivial (((H.set 0 _).set 1 _).set 2 _)
       case hend =>
        intro x wx A hA hS H
        replace H:Sp w0 ((Bk r 150 [.int .i64 (b1:Int),.int .i64 (b2:Int),.int .u8 0])::Row 3 1 (.slice (some av) C.length cV) C.length (intsV C)::Rows (PM.places B at_) rl::FdB g (.slice (some ad) l c) (d:Int) mb at_::Is mb (.map es clock)::Bk s 150 [.int .i64 (b1:Int),.int .i64 (b2:Int),.int .u8 0]::L) wx:=H
        have y5:x 5=.bool bz:=hS 5 (by decide)
        clear hS
        simp only [putAll,Act.put,List.setIfInBounds_toArray,List.set_cons_succ,List.set_cons_zero,Nat.reduceAdd] at hA
        subst hA
        rw [y5]
        clear y5
        have f0:wx.cell? ⟨r,0,none⟩=some (.int .i64 (b1:Int)):=H.cell 0 rfl 0
        have f1:wx.cell? ⟨r,1,none⟩=some (.int .i64 (b2:Int)):=H.cell 0 rfl 1
        have f2:wx.cell? ⟨r,2,none⟩=some (.int .u8 0):=H.cell 0 rfl 2
        go_wp2
        refine bodyPost_ret (v:=.tuple #[.agg #[.int .i64 (b1:Int),.int .i64 (b2:Int),.int .u8 0],.bool bz]) (by simp [results,Tryd.results50,go_sem,f0,f1,f2]) rfl ?_
        have he:=HBE.out
        rw [<- he,<- hbz]
        exact⟨at_,Nat.le_refl _,rfl,fd_shut HOK.out ((HSHUT.out _ _ _ (H.pick 6 [1,2,3,4])).pick 3 [1,2,0])⟩
      ·have k11:decide ((32768:Int)<(at_:Int) - (p:Int))=false:=decide_eq_false (by omega)
       go_wp2_with fail
       have hlo:=long_ok g p at_ l (some ad) c B H HL.out (Ent.pick 3 [2] (fun _ _ H=>H.cell 0 rfl 0)) (Ent.pick 6 [] HB.out) hpa hat hlm
       refine hlo.mono ?_
       rintro _ w5 ⟨rfl,H⟩
       clear hlo
       obtain⟨q,hq⟩:∃q,PM.mlen B p at_=q:=⟨_,rfl⟩
       rw [hq]
       have f0:w5.cell? ⟨s,0,none⟩=some (.int .i64 (b1:Int)):=H.cell 4 rfl 0
       have f1:w5.cell? ⟨s,1,none⟩=some (.int .i64 (b2:Int)):=H.cell 4 rfl 1
       have f2:w5.cell? ⟨s,2,none⟩=some (.int .u8 0):=H.cell 4 rfl 2
       have z0:w5.frozen? ⟨s,0,none⟩=false:=H.frozen 4 rfl 0
       have z1:w5.frozen? ⟨s,1,none⟩=false:=H.frozen 4 rfl 1
       have z2:w5.frozen? ⟨s,2,none⟩=false:=H.frozen 4 rfl 2
       have hgo3:PM.go B at_ (C.take i).reverse (d - (t+1)) (if b1<q then (q,at_ - p) else (b1,b2))=PM.best B at_ d:=by
        have e:=HGO2.out
        rw [PM.go,if_neg (by omega),if_neg hfar,hq,Nat.sub_sub] at e
        exact e
       have HGO3:=Lib.hid hgo3
       clear hgo3 hq
       by_cases hbq:b1<q
       ·have k12:decide (b1<q)=true:=decide_eq_true hbq
        go_wp2_with fail
        go_roundw
        case rel =>
         refine⟨i,t+1,(q,at_ - p),by go_num,rfl,by omega,?_,?_⟩
         ·rw [<- HGO3.out,if_pos hbq]
         ·have e:((at_ - p:Nat):Int)=(at_:Int) - (p:Int):=by omega
          show Sp w0 (_::_::_::_::Bk s _ [.int .i64 (q:Int),.int .i64 ((at_ - p:Nat):Int),.int .u8 0]::_) _
          rw [e]
          exact((((H.pick 5 [4,0,1,2,3]).set 0 _).set 1 _).set 2 _).pick 5 [1,2,3,4,0]
        case measure=>simp [intOf]
       ·have k12:decide (b1<q)=false:=decide_eq_false hbq
        go_wp2_with fail
        go_roundw
        case rel =>
         refine⟨i,t+1,(b1,b2),by go_num,rfl,by omega,?_,H⟩
         rw [<- HGO3.out,if_neg hbq]
        case measure=>simp [intOf]
     ·have k8:decide ((t:Int)<(d:Int))=false:=decide_eq_false (by omega)
      have hb:(b1,b2)=PM.best B at_ d:=by
       rw [<- HGO.out,show d - t=0 by omega,PM.go_zero]
      have HBE:=Lib.hid hb
      clear hb
      obtain⟨bz,hbz⟩:∃bz,decide (0<b1)=bz:=⟨_,rfl⟩
      go_wp2_with fail
      refine wp_region_sc (L:=Row 3 1 (.slice V C.length cV) C.length (intsV C)::Rows (PM.places B at_) rl::FdB g (.slice (some ad) l c) (d:Int) mb at_::Is mb (.map es clock)::Bk s 150 [.int .i64 (b1:Int),.int .i64 (b2:Int),.int .u8 0]::L) [some (.agg #[.int .i64 (b1:Int),.int .i64 (b2:Int),.int .u8 0]),some (.pointer (some ⟨s,0,none⟩)),some (.int .i64 (b1:Int)),some (.bool bz),none,some (.bool bz)] (fun _ _=>True) (fun ix vx=>match ix with | 4=>(fun _=>[Bk r 150 [.int .i64 (b1:Int),.int .i64 (b2:Int),.int .u8 0]]) vx | _=>[]) (fun ix=>match ix with | 4=>[Bk r 150 [.int .i64 0,.int .i64 0,.int .u8 0]] | _=>[]) 6 82
       [some 78,some 79,some 80,some 81,none,some 5]
       [[],[],[1],[2],[0,0],[3,4,0,1,2,3,4]]
       [[],[],[1],[1,2],[0],[0,1,2,3,4]]
       [[],[],[],[],[],[]] [[],[],[],[],[],[]] [(4,.pointer (some ⟨r,0,none⟩)),(6,.pointer (some ⟨s,0,none⟩))]
       (by kernel_rfl) rfl (by decide) (by rfl) (by decide +kernel) rfl rfl (by simp) (H.pick 6 [5,0,1,2,3,4]) ?hstep ?hend
      case hstep =>
       refine⟨?p0,⟨?p1,⟨?p2,⟨?p3,⟨?p4,⟨?p5,trivial⟩⟩⟩⟩⟩⟩
       case p1 | p3 | p5 =>
        intro x wx A rest hDf hF hS hE H K hK
        replace hK:=Lib.hid hK
        clear hS hE hDf
        repeat (obtain⟨_,hF⟩:=hF)
        change Oper.wp _ _ A wx K _
        go_step
        exact hK.out _ _ rfl H
       case p0 =>
        intro x wx A rest hDf hF hS hE H K hK0
        replace hDf:=Lib.hid hDf
        have e6:A.tmps[6]?.getD undef=.pointer (some ⟨s,0,none⟩):=factsE_get hF (6,.pointer (some ⟨s,0,none⟩)) (by simp) (by rfl)
        replace H:Sp w0 (rest) wx:=H
        have hK:Hid (∀(v:Value) (w' : World),v=.agg #[.int .i64 (b1:Int),.int .i64 (b2:Int),.int .u8 0]->Sp w0 (rest) w'->K (A.put (some 78) v) w'):=Lib.hid hK0
        clear hK0 hF hS
        have b0:wx.cell? ⟨s,0,none⟩=some (.int .i64 (b1:Int)):=hE (fun w=>w.cell? ⟨s,0,none⟩=some (.int .i64 (b1:Int))) (fun _ _ H=>H.cell 4 rfl 0) _ _ H
        have b1:wx.cell? ⟨s,1,none⟩=some (.int .i64 (b2:Int)):=hE (fun w=>w.cell? ⟨s,1,none⟩=some (.int .i64 (b2:Int))) (fun _ _ H=>H.cell 4 rfl 1) _ _ H
        have b2:wx.cell? ⟨s,2,none⟩=some (.int .u8 0):=hE (fun w=>w.cell? ⟨s,2,none⟩=some (.int .u8 0)) (fun _ _ H=>H.cell 4 rfl 2) _ _ H
        change Oper.wp _ _ A wx K _
        go_step
        exact hK.out _ _ rfl (H)
       case p2 =>
        intro x wx A rest hDf hF hS hE H K hK0
        replace hDf:=Lib.hid hDf
        have e79:A.tmps[79]?.getD undef=.pointer (some ⟨s,0,none⟩):=((hS 1 (by decide)).2 79 rfl).trans (hS 1 (by decide)).1
        replace H:Sp w0 (rest) wx:=H
        have hK:Hid (∀(v:Value) (w' : World),v=.int .i64 (b1:Int)->Sp w0 (rest) w'->K (A.put (some 80) v) w'):=Lib.hid hK0
        clear hK0 hF hS
        have b0:wx.cell? ⟨s,0,none⟩=some (.int .i64 (b1:Int)):=hE (fun w=>w.cell? ⟨s,0,none⟩=some (.int .i64 (b1:Int))) (fun _ _ H=>H.cell 4 rfl 0) _ _ H
        change Oper.wp _ _ A wx K _
        go_step
        exact hK.out _ _ rfl (H)
       case p4 =>
        intro x wx A rest hDf hF hS hE H K hK0
        replace hDf:=Lib.hid hDf
        have e4:A.tmps[4]?.getD undef=.pointer (some ⟨r,0,none⟩):=factsE_get hF (4,.pointer (some ⟨r,0,none⟩)) (by simp) (by rfl)
        have e78:A.tmps[78]?.getD undef=.agg #[.int .i64 (b1:Int),.int .i64 (b2:Int),.int .u8 0]:=((hS 0 (by decide)).2 78 rfl).trans (hS 0 (by decide)).1
        replace H:Sp w0 ((Bk r 150 [.int .i64 0,.int .i64 0,.int .u8 0])::rest) wx:=H
        have hK:Hid (∀(v:Value) (w' : World),True->Sp w0 ((Bk r 150 [.int .i64 (b1:Int),.int .i64 (b2:Int),.int .u8 0])::rest) w'->K (A.put none v) w'):=Lib.hid hK0
        clear hK0 hF hS hE
        have z0:wx.frozen? ⟨r,0,none⟩=false:=H.frozen 0 rfl 0
        have z1:wx.frozen? ⟨r,1,none⟩=false:=H.frozen 0 rfl 1
        have z2:wx.frozen? ⟨r,2,none⟩=false:=H.frozen 0 rfl 2
        have z3:wx.cell? ⟨r,0,none⟩=some (.int .i64 0):=H.cell 0 rfl 0
        have z4:wx.cell? ⟨r,1,none⟩=some (.int .i64 0):=H.cell 0 rfl 1
        have z5:wx.cell? ⟨r,2,none⟩=some (.int .u8 0):=H.cell 0 rfl 2
        change Oper.wp _ _ A wx K _
        go_step
        exact hK.out undef _ trivial (((H.set 0 _).set 1 _).set 2 _)
      case hend =>
       intro x wx A hA hS H
       replace H:Sp w0 ((Bk r 150 [.int .i64 (b1:Int),.int .i64 (b2:Int),.int .u8 0])::Row 3 1 (.slice V C.length cV) C.length (intsV C)::Rows (PM.places B at_) rl::FdB g (.slice (some ad) l c) (d:Int) mb at_::Is mb (.map es clock)::Bk s 150 [.int .i64 (b1:Int),.int .i64 (b2:Int),.int .u8 0]::L) wx:=H
       have y5:x 5=.bool bz:=hS 5 (by decide)
       clear hS
       simp only [putAll,Act.put,List.setIfInBounds_toArray,List.set_cons_succ,List.set_cons_zero,Nat.reduceAdd] at hA
       subst hA
       rw [y5]
       clear y5
       have f0:wx.cell? ⟨r,0,none⟩=some (.int .i64 (b1:Int)):=H.cell 0 rfl 0
       have f1:wx.cell? ⟨r,1,none⟩=some (.int .i64 (b2:Int)):=H.cell 0 rfl 1
       have f2:wx.cell? ⟨r,2,none⟩=some (.int .u8 0):=H.cell 0 rfl 2
       go_wp2
       refine bodyPost_ret (v:=.tuple #[.agg #[.int .i64 (b1:Int),.int .i64 (b2:Int),.int .u8 0],.bool bz]) (by simp [results,Tryd.results50,go_sem,f0,f1,f2]) rfl ?_
       have he:=HBE.out
       rw [<- he,<- hbz]
       exact⟨at_,Nat.le_refl _,rfl,fd_shut HOK.out ((HSHUT.out _ _ _ (H.pick 6 [1,2,3,4])).pick 3 [1,2,0])⟩
 ·obtain⟨mb,es,clock,hok,H2⟩:=fd_open H
  have c0:∀o,(w.alloc o).cell? ⟨g,0,none⟩=some (.slice A0 l c):=fun o=>(H2.alloc o).cell 0 rfl 0
  have k1:decide ((l:Int)<at_+3)=true:=decide_eq_true (by omega)
  go_enter Tryd.func50,Tryd.ntmps50
  go_wp2_with fail
  have H3:=H.newBk [.int .i64 0,.int .i64 0,.int .u8 0] 150
  have f0:=H3.cell 0 rfl 0
  have f1:=H3.cell 0 rfl 1
  have f2:=H3.cell 0 rfl 2
  refine bodyPost_ret (v:=.tuple #[.agg #[.int .i64 0,.int .i64 0,.int .u8 0],.bool false]) (by simp [results,Tryd.results50,go_sem,f0,f1,f2]) rfl ?_
  rw [PM.best_short B at_ d (by rw [<- HL.out]; omega)]
  exact⟨n,hn,rfl,H3.tail⟩
open Go.RowKit Go.MapKept
theorem Sp.emp {w0 w:World} {L:List Pr} (H:Sp w0 L w):Sp w0 (Emp::L) w:=by
 obtain⟨h1,h2,h3,own,h⟩:=H
 refine⟨h1,h2,h3,fun b=>own b+1,fun i A hi=>?_⟩
 match i with
 | 0 =>
  obtain rfl:Emp=A:=by simpa using hi
  trivial
 | i+1=>exact cast (congrArg A (cut_iff fun b=>by omega)) (h i A (by simpa using hi))
set_option maxRecDepth 100000 in
theorem finds_ok (A0:Option Addr) (l c:Nat) (d:Int) (B:List UInt8) {w0 w:World} {L:List Pr} (H:Sp w0 L w) :
  Calls Tryd.prog 49 #[.slice A0 l c,.int .i64 d] w fun e w'=>∃g,e=.returned (.pointer (some ⟨g,0,none⟩))/\Sp w0 (Fd g (.slice A0 l c) B d 0::L) w':=by
 have H1:=(H.emp.new (.map #[] 0)).newBk [.slice A0 l c,.int .i64 d,.map (some w.heap.size),.int .i64 0] 154
 have e:(w.alloc (.map #[] 0)).heap.size=w.heap.size+1:=Array.size_push _
 rw [e] at H1
 clear e
 have H2:∀w',Sp w0 (Bk (w.heap.size+1) 154 [.slice A0 l c,.int .i64 d,.map (some w.heap.size),.int .i64 0]::Is w.heap.size (.map #[] 0)::Emp::L) w'->Sp w0 (Fd (w.heap.size+1) (.slice A0 l c) B d 0::L) w':=by
  generalize w.heap.size+1=g
  generalize w.heap.size=mb
  intro w' HH
  exact fd_shut (mb:=mb) (es:=#[]) (clock:=0) ⟨MapOk.empty,fun i h=>absurd h (Nat.not_lt_zero _)⟩ HH
 have HH:=Lib.hid (H2 _ H1)
 clear H2 H1 H
 go_enter Tryd.func49,Tryd.ntmps49
 have hmk:=run_makeMap (P:=Tryd.prog) 152 w
 go_wp2
 go_ret
 exact⟨_,rfl,HH.out⟩
theorem made_ok (s:PM.St) (w:World) :
  Calls Tryd.prog 73 #[stV s] w fun e w'=>e=.returned (.int .i64 (PM.made s:Int))/\Keep w w':=by
 obtain⟨a,b,c⟩:=s
 obtain⟨m,hm⟩:∃m:Int,max (a:Int) 1=m:=⟨_,rfl⟩
 have e:((PM.made (a,b,c):Nat):Int)=m:=by
  unfold PM.made
  rw [<- hm]
  show((max a 1:Nat):Int)=_
  omega
 unfold stV
 rw [e]
 clear e
 go_enter Tryd.func73,Tryd.ntmps73
 go_wp2
 all_goals (go_ret; exact⟨ret_i64 (by omega),Keep.alloc _ _⟩)
end Go.Proofs.YtloijdbkikccgaaDoor

