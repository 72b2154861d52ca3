/- A pack of texts: InfI InfY InfLen InfZ. -/
import Derived.Deep.CutRange
import Derived.Test.YtloijdbkikccgaaGreatDoorPk02
import Derived.Test.YtloijdbkikccgaaGreatDoorPk16
import Derived.Test.YtloijdbkikccgaaGreatDoorPk28
import Derived.Test.YtloijdbkikccgaaGreatDoorPk29
namespace Go.Proofs.YtloijdbkikccgaaGreatDoor
set_option linter.unusedVariables false
set_option linter.unusedSimpArgs false
open Go.RowKit
namespace PI
theorem bok {α β:Type} (a:α) (f:α->Except Nat β):(Except.ok a:Except Nat α).bind f=f a:=rfl
theorem bno {α β:Type} (e:Nat) (f:α->Except Nat β):(Except.error e:Except Nat α).bind f=.error e:=rfl
theorem fill_len {many:Nat} {acc:List Nat} {v k a:Nat} {r:Nat × List Nat} (h:fill many acc v k a=.ok r) (ha:acc.length<=many):r.2.length<=many:=by
 unfold fill at h
 split at h
 ·cases h
 ·cases h; simp; omega
theorem lens_done {B:List Bool} {m:List Nat} {many:Nat} : ∀(f a:Nat) (acc:List Nat) (r:Nat × List Nat),acc.length<=many->lens B m many f a acc=.ok r->r.2.length=many:=by
 intro f
 induction f with
 | zero=>intro a acc r _ h; cases h
 | succ f ih =>
  intro a acc r ha h
  rw [lens] at h
  split at h
  ·obtain⟨s,hs,h⟩:=bind_ok h
   refine ih _ _ _ ?_ h
   unfold stepL at hs
   obtain⟨q,hq,hs⟩:=bind_ok hs
   split at hs
   ·split at hs
    ·cases hs
    ·obtain⟨n,hn,hs⟩:=bind_ok hs
     exact fill_len hs ha
   split at hs
   ·obtain⟨n,hn,hs⟩:=bind_ok hs
    exact fill_len hs ha
   split at hs
   ·obtain⟨n,hn,hs⟩:=bind_ok hs
    exact fill_len hs ha
   ·exact fill_len hs ha
  ·cases h
   show acc.length=many
   omega
theorem orderT_lt (j:Nat) (h:j<19):orderT.getD j 0<19:=by revert j; decide
theorem firsts_step {B:List Bool} {c j a:Nat} {f:List Nat} (h:j<c) (hc:c<=19):firsts B ((orderT.take c).drop j) a f=(number B a 3).bind fun r=>firsts B ((orderT.take c).drop (j+1)) r.1 (f.set (orderT.getD j 0) r.2):=by
 have hl:j<(orderT.take c).length:=by rw [List.length_take]; show j<min c 19; omega
 rw [List.drop_eq_getElem_cons hl,firsts]
 have e:(orderT.take c)[j]=orderT.getD j 0:=by
  rw [List.getElem_take,List.getD_eq_getElem?_getD,List.getElem?_eq_getElem (show j<orderT.length from(by show j<19; omega))]; rfl
 rw [e]
theorem dynamic_ok {B:List Bool} {a:Nat} {r:Nat × List Nat × List Nat} (h:dynamic B a=.ok r):book r.2.1=true/\book r.2.2=true/\r.2.1.length<=1000/\r.2.2.length<=1000:=by
 unfold dynamic at h
 obtain⟨l,hl,h⟩:=bind_ok h
 obtain⟨d,hd,h⟩:=bind_ok h
 obtain⟨c,hc,h⟩:=bind_ok h
 split at h
 ·cases h
 rename_i h0
 obtain⟨f,hf,h⟩:=bind_ok h
 split at h
 ·obtain⟨q,hq,h⟩:=bind_ok h
  have hlen:=lens_done _ _ _ _ (Nat.zero_le _) hq
  split at h
  ·cases h
  split at h
  ·split at h
   ·rename_i h1 h2 h3
    cases h
    refine⟨h2,h3,?_,?_⟩
    ·show(q.2.take _).length<=1000
     rw [List.length_take]; omega
    ·show(q.2.drop _).length<=1000
     rw [List.length_drop]; omega
   ·cases h
  ·cases h
 ·cases h
end PI
theorem rd_take {w:World} {A:Option Addr} {xs:List Value} (h:Rd w A xs) (k:Nat):Rd w A (xs.take k):=fun hn=>by
 obtain⟨ad,e,hc⟩:=h (by rintro rfl; simp at hn)
 refine⟨ad,e,fun j u hu=>?_⟩
 rw [List.getElem?_take] at hu
 split at hu
 ·exact hc j u hu
 ·cases hu
theorem slice_of {e:TypeId} {VA:Option Addr} {n vc:Nat} {xs:List Value} {w0 w:World} {M:List Pr} (H:Sp w0 M w) (k:Nat) (hk:M[k]?=some (Row e 1 (.slice VA n vc) n xs)) (hn:0<n) (hx:xs.length=n):∃ad,VA=some ad:=by
 obtain⟨A9,c9,e9,hr9,_,_⟩:=H.row_rd k hk
 injection e9 with e9
 subst e9
 obtain⟨ad,e,_⟩:=hr9 (by intro h; rw [h] at hx; simp at hx; omega)
 exact⟨ad,e⟩
set_option maxRecDepth 100000 in
set_option maxHeartbeats 4000000 in
theorem xdyn_ok (gx gr:Nat) (l:List UInt8) (most at_:Nat) (vo vb:Value) (TL TA:Option Addr) (cl ca:Nat) {w0 w:World} {L:List Pr} (H:Sp w0 (Rr gr l at_::XpB gx gr vo most vb::L) w) (ha:at_<=8 * l.length) (hl:l.length<=100000000) (hT:Ent L (Tabs TL TA cl ca)) :
  Calls Tryz.prog 135 #[.pointer (some ⟨gx,0,none⟩)] w
   (XPost w0 L (PI.dynamic (PBits.ofB l) at_) fun r e w'=>∃g1 g2,e=.returned (.tuple #[.pointer (some ⟨g1,0,none⟩),.pointer (some ⟨g2,0,none⟩)])/\Sp w0 (Bok g2 r.2.2::Bok g1 r.2.1::Rr gr l r.1::XpB gx gr vo most vb::L) w'):=by
 obtain⟨i0,hi,hz0,hz1,hz2⟩:=info_parts infoJ
 obtain⟨T,hTT⟩:∃T,PI.dynamic (PBits.ofB l) at_=T:=⟨_,rfl⟩
 rw [hTT]
 unfold PI.dynamic at hTT
 have HT:=Lib.hid hTT
 have HL:=Lib.hid hl
 have HTB:=Lib.hid hT
 clear hTT hT
 have HQ:=Lib.hid (xnum_ok gx gr l most at_ 5 vo vb H ha (by omega) HL.out)
 go_enter Tryz.func135,Tryz.ntmps135
 go_wp2_with fail
 refine HQ.out.mono ?_
 intro e9 wH1 h9
 cases hr:PI.number (PBits.ofB l) at_ 5 with
 | error c =>
  rw [hr] at h9
  obtain⟨rfl,H1⟩:=h9
  have HE:Hid (T=.error c):=by rw [<- HT.out,hr]; exact Lib.hid rfl
  clear hr HQ HT
  go_wp2
  exact⟨rfl,XPost.no HE.out H1⟩
 | ok r =>
  obtain⟨e1,hle1⟩:=PI.number_ok hr
  have hn5:=PI.numAt_small (PBits.ofB l) at_ 5 5 (by omega)
  subst e1
  obtain⟨n5,hx2⟩:∃x,PI.numAt (PBits.ofB l) at_ 5=x:=⟨_,rfl⟩
  rw [hr] at h9
  rw [hx2] at hr hn5 h9
  rw [PBits.ofB_length] at hle1
  obtain⟨rfl,H1⟩:=h9
  rw [hr,PI.bok] at HT
  dsimp only at HT
  clear hr HQ hx2
  obtain⟨ll,hll⟩:∃ll,n5+257=ll:=⟨_,rfl⟩
  have z1:(n5:Int)+257=(ll:Int):=by omega
  have b1:ll<=300/\257<=ll:=by omega
  have HLL:=Lib.hid hll
  clear hll
  have HQ:=Lib.hid (xnum_ok gx gr l most (at_+5) 5 vo vb H1 hle1 (by omega) HL.out)
  go_wp2_with fail
  refine HQ.out.mono ?_
  intro e9 wH2 h9
  cases hr:PI.number (PBits.ofB l) (at_+5) 5 with
  | error c =>
   rw [hr] at h9
   obtain⟨rfl,H2⟩:=h9
   have HE:Hid (T=.error c):=by rw [<- HT.out,hr]; exact Lib.hid rfl
   clear hr HQ HT
   go_wp2
   exact⟨rfl,XPost.no HE.out H2⟩
  | ok r =>
   obtain⟨e1,hle1⟩:=PI.number_ok hr
   have hd5:=PI.numAt_small (PBits.ofB l) (at_+5) 5 5 (by omega)
   subst e1
   obtain⟨d5,hx2⟩:∃x,PI.numAt (PBits.ofB l) (at_+5) 5=x:=⟨_,rfl⟩
   rw [hr] at h9
   rw [hx2] at hr hd5 h9
   rw [PBits.ofB_length] at hle1
   obtain⟨rfl,H2⟩:=h9
   rw [hr,PI.bok] at HT
   dsimp only at HT
   clear hr HQ hx2
   obtain⟨dd,hdd⟩:∃dd,d5+1=dd:=⟨_,rfl⟩
   have z2:(d5:Int)+1=(dd:Int):=by omega
   have b3:dd<=40/\1<=dd:=by omega
   have HDD:=Lib.hid hdd
   clear hdd
   have HQ:=Lib.hid (xnum_ok gx gr l most (at_+5+5) 4 vo vb H2 hle1 (by omega) HL.out)
   go_wp2_with fail
   refine HQ.out.mono ?_
   intro e9 wH3 h9
   cases hr:PI.number (PBits.ofB l) (at_+5+5) 4 with
   | error c =>
    rw [hr] at h9
    obtain⟨rfl,H3⟩:=h9
    have HE:Hid (T=.error c):=by rw [<- HT.out,hr]; exact Lib.hid rfl
    clear hr HQ HT
    go_wp2
    exact⟨rfl,XPost.no HE.out H3⟩
   | ok r =>
    obtain⟨e1,hle1⟩:=PI.number_ok hr
    have hc4:=PI.numAt_small (PBits.ofB l) (at_+5+5) 4 4 (by omega)
    subst e1
    obtain⟨c4,hx2⟩:∃x,PI.numAt (PBits.ofB l) (at_+5+5) 4=x:=⟨_,rfl⟩
    rw [hr] at h9
    rw [hx2] at hr hc4 h9
    rw [PBits.ofB_length] at hle1
    obtain⟨rfl,H3⟩:=h9
    rw [hr,PI.bok] at HT
    dsimp only at HT
    clear hr HQ hx2
    obtain⟨a3,ha3⟩:∃a3,at_+5+5+4=a3:=⟨_,rfl⟩
    rw [ha3] at HT H3 hle1
    obtain⟨cc,hcc⟩:∃cc,c4+4=cc:=⟨_,rfl⟩
    rw [HLL.out,HDD.out,hcc] at HT
    have z3:(c4:Int)+4=(cc:Int):=by omega
    obtain⟨b1,b2⟩:=b1
    obtain⟨b3,b4⟩:=b3
    have b5:cc<=19:=by omega
    clear ha3 hcc H H1 H2
    by_cases hbad:286<ll∨30<dd
    ·have HE:Hid (T=.error 20):=by rw [<- HT.out,if_pos hbad]; exact Lib.hid rfl
     clear HT
     by_cases hb1:286<ll
     ·have q1:(ll:Int) > 286:=by omega
      go_wp2
      exact⟨rfl,XPost.no HE.out H3.tail2⟩
     ·have q1:¬ (ll:Int) > 286:=by omega
      have q2:(dd:Int) > 30:=by omega
      go_wp2
      exact⟨rfl,XPost.no HE.out H3.tail2⟩
    ·have q1:¬ (ll:Int) > 286:=by omega
     have q2:¬ (dd:Int) > 30:=by omega
     replace HT:=Lib.hid (show(PI.firsts (PBits.ofB l) (PI.orderT.take cc) a3 (List.replicate 19 0)).bind _=T by rw [<- HT.out,if_neg hbad])
     have b6:ll<=286:=by omega
     have b7:dd<=30:=by omega
     clear hbad
     go_wp2_with (at_make; refine wpList_make_sp rfl _ _ _ rfl 3 i0 (.int .i64 0) Tryz.underlying147 hi hz0 hz1 rfl 19 rfl rfl (by rw [hz2]; omega) (by unfold maxLen; omega) H3 ?_)
     intro ad1 w4 H4
     obtain⟨FT,hFT⟩:∃FT,PI.firsts (PBits.ofB l) (PI.orderT.take cc) a3 (List.replicate 19 0)=FT:=⟨_,rfl⟩
     rw [hFT] at HT
     have HFT:=Lib.hid hFT
     replace H4:Sp w0 (Row 3 1 (.slice (some ad1) 19 19) 19 (cellsN (List.replicate 19 0))::Rr gr l a3::XpB gx gr vo most vb::L) w4:=H4
     have c19:(cc:Int)<=19:=by omega
     have c20:(0:Int)<=(cc:Int):=by omega
     clear hFT H3
     go_wp2_with fail
     go_loopw [31] (fun c31 wr=>∃(j a:Nat) (fj:List Nat),c31=.int .i64 (j:Int)/\j<=cc/\a<=8 * l.length/\fj.length=19/\PI.firsts (PBits.ofB l) ((PI.orderT.take cc).drop j) a fj=FT/\Sp w0 (Row 3 1 (.slice (some ad1) 19 19) 19 (cellsN fj)::Rr gr l a::XpB gx gr vo most vb::L) wr) (fun c31 _=>cc - (intOf c31).toNat)
     case atStart=>exact⟨0,a3,List.replicate 19 0,rfl,Nat.zero_le _,hle1,by simp,HFT.out,H4⟩
     case round =>
      obtain⟨j,a,fj,rfl,hj,haj,hfl,hfr,H5⟩:=hrel
      clear H4 HFT
      by_cases hlt:j<cc
      ·have k1:(j:Int)<(cc:Int):=by omega
       have hst:=PI.firsts_step (B:=PBits.ofB l) (a:=a) (f:=fj) hlt b5
       rw [hfr] at hst
       have hord:=(HTB.out _ _ (H5.pick 3 [])).order j (by omega)
       have c3:wr.cell? ((⟨5,0,none⟩:Addr).add j)=some (.int .i64 (PI.orderT.getD j 0:Nat)):=by rw [addr0]; exact hord
       have hs19:=PI.orderT_lt j (by omega)
       obtain⟨s,hs⟩:∃s,PI.orderT.getD j 0=s:=⟨_,rfl⟩
       rw [hs] at hst c3 hs19 hord
       have HST:=Lib.hid hst
       have HFL:=Lib.hid hfl
       have k2:j<cc:=hlt
       have HQ:=Lib.hid (xnum_ok gx gr l most a 3 vo vb (H5.pick 3 [1,2,0]) haj (by omega) HL.out)
       clear hst hs hfr hfl
       go_wp2_with fail
       refine HQ.out.mono ?_
       intro e9 w6 h9
       cases hr:PI.number (PBits.ofB l) a 3 with
       | error c =>
        rw [hr] at h9
        obtain⟨rfl,H6⟩:=h9
        have HE:Hid (T=.error c):=by rw [<- HT.out,HST.out,hr]; exact Lib.hid rfl
        clear hr HQ HT HST
        go_wp2
        exact⟨rfl,XPost.no HE.out H6.tail⟩
       | ok r =>
        obtain⟨e1,hle⟩:=PI.number_ok hr
        subst e1
        obtain⟨xv,hxv⟩:∃x,PI.numAt (PBits.ofB l) a 3=x:=⟨_,rfl⟩
        rw [hr] at h9
        rw [hxv] at hr h9
        rw [PBits.ofB_length] at hle
        obtain⟨rfl,H6⟩:=h9
        have HN:Hid (PI.firsts (PBits.ofB l) ((PI.orderT.take cc).drop (j+1)) (a+3) (fj.set s xv)=FT):=by
         rw [HST.out,hr]; exact Lib.hid rfl
        obtain⟨ad9,c9,e9,_,ccell,cfrz,hset⟩:=Sp.rowSet (H6.pick 3 [2,0,1]) (i:=s) (by omega)
        injection e9 with e9 e10 e11
        injection e9 with e9
        subst e9
        subst e11
        clear e10
        have hcell:∃u,w6.cell? (ad1.add s)=some u:=by
         rw [ccell]
         exact⟨_,List.getElem?_eq_getElem (by rw [cellsN,List.length_map,HFL.out]; exact hs19)⟩
        obtain⟨u,hu⟩:=hcell
        have HS:=Lib.hid (hset (.int .i64 (xv:Int)))
        clear hr HQ HST ccell hset c3 hord hxv
        go_wp2_with fail
        go_roundw
        case rel =>
         refine⟨j+1,a+3,fj.set s xv,by go_num,by omega,hle,by rw [List.length_set]; exact HFL.out,HN.out,?_⟩
         have ec:cellsN (fj.set s xv)=(cellsN fj).set s (.int .i64 (xv:Int)):=by unfold cellsN; rw [List.map_set]
         rw [ec]
         exact HS.out
        case measure=>first | (simp [intOf]; omega) | simp [intOf]
      ·have k1:¬ (j:Int)<(cc:Int):=by omega
       obtain rfl:j=cc:=by omega
       have hFT2:FT=.ok (a,fj):=by
        rw [<- hfr,List.drop_eq_nil_of_le (by rw [List.length_take]; omega)]; rfl
       rw [hFT2,PI.bok] at HT
       dsimp only at HT
       have HFL:=Lib.hid hfl
       clear hfr hFT2 hfl
       by_cases hbk:PI.book fj=true
       ·replace HT:=Lib.hid (show(PI.lens (PBits.ofB l) fj (ll+dd) (ll+dd+1) a []).bind _=T by rw [<- HT.out,if_pos hbk])
        have hsum:=PI.book_sum hbk
        have HB:=Lib.hid (xbook_yes (some ad1) 19 19 fj H5 HFL.out.symm (row_ent 0 rfl) hbk)
        clear hbk
        go_wp2_with fail
        refine HB.out.mono ?_
        rintro _ w6 ⟨gb,rfl,H6⟩
        clear HB H5
        obtain⟨mm,hmm⟩:∃mm,ll+dd=mm:=⟨_,rfl⟩
        have y4:(ll:Int)+(dd:Int)=(mm:Int):=by omega
        rw [hmm] at HT
        have hfl19:fj.length<=1000:=by rw [HFL.out]; omega
        have HQ:=Lib.hid (xlens_ok gx gr gb l most a mm vo vb fj (H6.pick 4 [2,3,0,1]) haj HL.out hsum hfl19 (by omega))
        have HMM:=Lib.hid hmm
        clear hmm
        go_wp2_with fail
        refine HQ.out.mono ?_
        intro e9 w7 h9
        cases hr:PI.lens (PBits.ofB l) fj mm (mm+1) a [] with
        | error c =>
         rw [hr] at h9
         obtain⟨rfl,H7⟩:=h9
         have HE:Hid (T=.error c):=by rw [<- HT.out,hr]; exact Lib.hid rfl
         clear hr HQ HT
         go_wp2
         exact⟨rfl,XPost.no HE.out H7.tail⟩
        | ok r =>
         obtain⟨a7,ls⟩:=r
         rw [hr] at h9 HT
         rw [PI.bok] at HT
         dsimp only at HT
         have hlen:ls.length=mm:=PI.lens_done _ _ _ _ (Nat.zero_le _) hr
         obtain⟨v7,rfl,H7⟩:=h9
         obtain⟨VA,vc,rfl,hnc,hcm⟩:=Row.form H7 0 rfl
         simp only at H7 hnc ⊢
         rw [hlen] at H7 hnc ⊢
         obtain⟨ad,rfl⟩:=slice_of H7 0 rfl (by omega) (by rw [cellsN,List.length_map]; exact hlen)
         have HLEN:=Lib.hid hlen
         have HCM:=Lib.hid hcm
         have hc256:w7.cell? (ad.add 256)=some (.int .i64 ((ls.getD 256 0:Nat):Int)):=by
          obtain⟨ad2,e2,hc2⟩:=(row_ent 0 rfl _ _ H7).at_ (k:=256) (by rw [cellsN,List.length_map,hlen]; omega)
          injection e2 with e2
          subst e2
          rw [hc2]
          have h2:256<ls.length:=by rw [hlen]; omega
          rw [List.getD_eq_getElem?_getD,List.getElem?_eq_getElem h2]
          simp [cellsN]
         obtain⟨x6,hx6⟩:∃x6,ls.getD 256 0=x6:=⟨_,rfl⟩
         rw [hx6] at hc256 HT
         have hc257:w7.cell? ⟨ad.block,ad.off+256,none⟩=some (.int .i64 (x6:Int)):=hc256
         have k3:(256:Int)<(mm:Int):=by omega
         clear hr HQ hlen hcm hx6 H6
         by_cases h6:x6=0
         ·have HE:Hid (T=.error 20):=by rw [<- HT.out,if_pos h6]; exact Lib.hid rfl
          have k4:((x6:Int) == 0)=true:=by simp [h6]
          have k5:(x6:Int)=0:=by omega
          clear HT
          go_wp2
          exact⟨rfl,XPost.no HE.out (H7.pick 5 [])⟩
         ·have k4:((x6:Int) == 0)=false:=by rw [beq_eq_false_iff_ne]; omega
          replace HT:=Lib.hid (show(if PI.book (ls.take ll)=true then _ else _)=T by rw [<- HT.out,if_neg h6])
          have j1:(ll:Int)<=(mm:Int):=by omega
          have j2:(ll:Int)<=(vc:Int):=by omega
          have j3:¬ vc=ll:=by omega
          have j5:mm - ll=dd:=by omega
          have hL0:Ent (Row 3 1 (.slice (some ad) mm vc) mm (cellsN ls)::Rr gr l a7::XpB gx gr vo most vb::Bok gb fj::Row 3 1 (.slice (some ad1) 19 19) 19 (cellsN fj)::L) fun w=>Rd w (some ad) (cellsN ls):=row_ent 0 rfl
          have hLt:Ent (Row 3 1 (.slice (some ad) mm vc) mm (cellsN ls)::Rr gr l a7::XpB gx gr vo most vb::Bok gb fj::Row 3 1 (.slice (some ad1) 19 19) 19 (cellsN fj)::L) fun w=>Rd w (some ad) (cellsN (ls.take ll)):=fun _ _ H=>by
           have:=rd_take (hL0 _ _ H) ll
           unfold cellsN at this ⊢
           rw [List.map_take]; exact this
          have hLd:Ent (Row 3 1 (.slice (some ad) mm vc) mm (cellsN ls)::Rr gr l a7::XpB gx gr vo most vb::Bok gb fj::Row 3 1 (.slice (some ad1) 19 19) 19 (cellsN fj)::L) fun w=>Rd w (some (ad.add ll)) (cellsN (ls.drop ll)):=fun _ _ H=>by
           have:=(hL0 _ _ H).part ll (ls.length - ll)
           unfold cellsN at this ⊢
           rw [List.map_drop]
           rw [List.take_of_length_le (by rw [List.length_drop,List.length_map]; omega)] at this
           exact this
          have HLT:=Lib.hid hLt
          have HLD:=Lib.hid hLd
          have ht1:ll=(ls.take ll).length:=by rw [List.length_take,HLEN.out]; omega
          have hd1:dd=(ls.drop ll).length:=by rw [List.length_drop,HLEN.out]; omega
          have HT1:=Lib.hid ht1
          have HD1:=Lib.hid hd1
          obtain⟨lt,hlt2⟩:∃lt,ls.take ll=lt:=⟨_,rfl⟩
          obtain⟨ld,hld2⟩:∃ld,ls.drop ll=ld:=⟨_,rfl⟩
          rw [hlt2] at HT HLT HT1
          rw [hld2] at HT HLD HD1
          clear hL0 hLt hLd ht1 hd1 hlt2 hld2
          by_cases hbt:PI.book lt=true
          ·replace HT:=Lib.hid (show(if PI.book ld=true then _ else _)=T by rw [<- HT.out,if_pos hbt])
           by_cases hbd:PI.book ld=true
           ·have HE:Hid (T=.ok (a7,lt,ld)):=by rw [<- HT.out,if_pos hbd]; exact Lib.hid rfl
            have HBT:=Lib.hid hbt
            have HBD:=Lib.hid hbd
            clear HT hbt hbd
            go_wp2_with fail
            refine wp_region_sc (L:=Row 3 1 (.slice (some ad) mm vc) mm (cellsN ls)::Rr gr l a7::XpB gx gr vo most vb::Bok gb fj::Row 3 1 (.slice (some ad1) 19 19) 19 (cellsN fj)::L) [some (.slice (some ad) mm vc),some (.int .i64 (ll:Int)),some (.slice (some ad) ll vc),none,some (.slice (some ad) mm vc),some (.int .i64 (ll:Int)),some (.slice (some (ad.add ll)) dd (vc - ll)),none,none,none] (fun ix vx=>match ix with | 3=>(fun u=>∃g,u=.pointer (some ⟨g,0,none⟩)) vx | 7=>(fun u=>∃g,u=.pointer (some ⟨g,0,none⟩)) vx | 8=>(fun u=>∃g,u=.pointer (some ⟨g,0,none⟩)) vx | 9=>(fun u=>∃g,u=.pointer (some ⟨g,0,none⟩)) vx | _=>True) (fun ix vx=>match ix with | 3=>(fun u=>[Bok (ptB u) lt]) vx | 7=>(fun u=>[Bok (ptB u) ld]) vx | 8=>(fun u=>[Bok (ptB u) lt]) vx | 9=>(fun u=>[Bok (ptB u) ld]) vx | _=>[]) (fun _=>[]) 10 61
             [some 53,some 54,some 55,some 56,some 57,some 58,some 59,some 60,some 2,some 3]
             [[],[],[0,1],[2],[],[],[4,5],[6,3],[3,7,0,1,2,3],[7,8,0,1,2,3,4,5,6,7,8]]
             [[],[],[0,1],[0,1,2],[],[],[4,5],[0,1,2,3,4,5,6],[0,1,2,3,4,5,6,7],[0,1,2,3,4,5,6,7,8]]
             [[],[],[],[],[],[],[],[],[3],[7]] [[],[],[],[],[],[],[],[],[],[]] [(4,.int .i64 (ll:Int)),(10,.slice (some ad) mm vc)]
             (by kernel_rfl) rfl (by decide) (by rfl) (by decide +kernel) rfl rfl (by simp) (H7) ?hstep ?hend
            case hstep =>
             refine⟨?p0,⟨?p1,⟨?p2,⟨?p3,⟨?p4,⟨?p5,⟨?p6,⟨?p7,⟨?p8,⟨?p9,trivial⟩⟩⟩⟩⟩⟩⟩⟩⟩⟩
             case p0 | p1 | p2 | p4 | p5 =>
              intro x wx A rest hDf hF hS hE H K hK
              replace hK:=Lib.hid hK
              clear hS hE hDf
              repeat (obtain⟨_,hF⟩:=hF)
              change Oper.wp _ _ A wx K _
              go_step
              exact hK.out _ _ rfl H
             case p3 =>
              intro x wx A rest hDf hF hS hE H K hK0
              replace hDf:=Lib.hid hDf
              have e55:A.tmps[55]?.getD undef=.slice (some ad) ll vc:=((hS 2 (by decide)).2 55 rfl).trans (hS 2 (by decide)).1
              replace H:Sp w0 (rest) wx:=H
              have hK:Hid (∀(v:Value) (w' : World),(∃g,v=.pointer (some ⟨g,0,none⟩))->Sp w0 ((Bok (ptB v) lt)::rest) w'->K (A.put (some 56) v) w'):=Lib.hid hK0
              clear hK0 hF hS
              change Oper.wp _ _ A wx K _
              go_wp2_with fail
              refine(xbook_yes (some ad) ll vc lt H HT1.out (hE _ HLT.out) HBT.out).mono ?_
              rintro _ w9 ⟨gq,rfl,H9⟩
              exact hK.out _ _ ⟨gq,rfl⟩ H9
             case p6 =>
              intro x wx A rest hDf hF hS hE H K hK0
              replace hDf:=Lib.hid hDf
              have e57:A.tmps[57]?.getD undef=.slice (some ad) mm vc:=((hS 4 (by decide)).2 57 rfl).trans (hS 4 (by decide)).1
              have e58:A.tmps[58]?.getD undef=.int .i64 (ll:Int):=((hS 5 (by decide)).2 58 rfl).trans (hS 5 (by decide)).1
              replace H:Sp w0 (rest) wx:=H
              have hK:Hid (∀(v:Value) (w' : World),(v=.slice (some (ad.add ll)) dd (vc - ll))->Sp w0 (rest) w'->K (A.put (some 59) v) w'):=Lib.hid hK0
              clear hK0 hF hS hE
              change Oper.wp _ _ A wx K _
              go_wp2_with fail
              exact hK.out _ _ rfl (H)
             case p7 =>
              intro x wx A rest hDf hF hS hE H K hK0
              replace hDf:=Lib.hid hDf
              have e59:A.tmps[59]?.getD undef=.slice (some (ad.add ll)) dd (vc - ll):=((hS 6 (by decide)).2 59 rfl).trans (hS 6 (by decide)).1
              replace H:Sp w0 (rest) wx:=H
              have hK:Hid (∀(v:Value) (w' : World),(∃g,v=.pointer (some ⟨g,0,none⟩))->Sp w0 ((Bok (ptB v) ld)::rest) w'->K (A.put (some 60) v) w'):=Lib.hid hK0
              clear hK0 hF hS
              change Oper.wp _ _ A wx K _
              go_wp2_with fail
              refine(xbook_yes (some (ad.add ll)) dd (vc - ll) ld H HD1.out (hE _ HLD.out) HBD.out).mono ?_
              rintro _ w9 ⟨gq,rfl,H9⟩
              exact hK.out _ _ ⟨gq,rfl⟩ H9
             case p8 =>
              intro x wx A rest hDf hF hS hE H K hK0
              replace hDf:=Lib.hid hDf
              have q56:∃g,(x 3)=.pointer (some ⟨g,0,none⟩):=(hS 3 (by decide)).1
              have e56:A.tmps[56]?.getD undef=x 3:=(hS 3 (by decide)).2 56 rfl
              replace H:Sp w0 ((Bok (ptB (x 3)) lt)::rest) wx:=H
              have hK:Hid (∀(v:Value) (w' : World),(∃g,v=.pointer (some ⟨g,0,none⟩))->Sp w0 ((Bok (ptB v) lt)::rest) w'->K (A.put (some 2) v) w'):=Lib.hid hK0
              clear hK0 hF hS hE
              obtain⟨g9,e9⟩:=q56
              rw [e9] at H e56
              change Oper.wp _ _ A wx K _
              go_step
              exact hK.out _ _ ⟨g9,rfl⟩ H
             case p9 =>
              intro x wx A rest hDf hF hS hE H K hK0
              replace hDf:=Lib.hid hDf
              have q60:∃g,(x 7)=.pointer (some ⟨g,0,none⟩):=(hS 7 (by decide)).1
              have e60:A.tmps[60]?.getD undef=x 7:=(hS 7 (by decide)).2 60 rfl
              replace H:Sp w0 ((Bok (ptB (x 7)) ld)::rest) wx:=H
              have hK:Hid (∀(v:Value) (w' : World),(∃g,v=.pointer (some ⟨g,0,none⟩))->Sp w0 ((Bok (ptB v) ld)::rest) w'->K (A.put (some 3) v) w'):=Lib.hid hK0
              clear hK0 hF hS hE
              obtain⟨g9,e9⟩:=q60
              rw [e9] at H e60
              change Oper.wp _ _ A wx K _
              go_step
              exact hK.out _ _ ⟨g9,rfl⟩ H
            case hend =>
             intro x wx A hA hS H
             replace H:Sp w0 ((Bok (ptB (x 8)) lt)::(Bok (ptB (x 9)) ld)::Row 3 1 (.slice (some ad) mm vc) mm (cellsN ls)::Rr gr l a7::XpB gx gr vo most vb::Bok gb fj::Row 3 1 (.slice (some ad1) 19 19) 19 (cellsN fj)::L) wx:=H
             have y8:∃g,(x 8)=.pointer (some ⟨g,0,none⟩):=hS 8 (by decide)
             have y9:∃g,(x 9)=.pointer (some ⟨g,0,none⟩):=hS 9 (by decide)
             clear hS
             simp only [putAll,Act.put,List.setIfInBounds_toArray,List.set_cons_succ,List.set_cons_zero,Nat.reduceAdd] at hA
             subst hA
             obtain⟨ga,ea⟩:=y8
             obtain⟨ge,eb⟩:=y9
             rw [ea,eb] at H ⊢
             clear ea eb
             go_wp2_with fail
             go_ret2
             exact XPost.yes HE.out ⟨ga,ge,rfl,H.pick 7 [1,0,3,4]⟩
           ·have HE:Hid (T=.error 20):=by rw [<- HT.out,if_neg hbd]; exact Lib.hid rfl
            have hbd' : PI.book ld=false:=by simpa using hbd
            have HBT:=Lib.hid hbt
            have HBD:=Lib.hid hbd'
            clear HT hbt hbd hbd'
            go_wp2_with fail
            refine wp_region_sc (L:=Row 3 1 (.slice (some ad) mm vc) mm (cellsN ls)::Rr gr l a7::XpB gx gr vo most vb::Bok gb fj::Row 3 1 (.slice (some ad1) 19 19) 19 (cellsN fj)::L) [some (.slice (some ad) mm vc),some (.int .i64 (ll:Int)),some (.slice (some ad) ll vc),none,some (.slice (some ad) mm vc),some (.int .i64 (ll:Int)),some (.slice (some (ad.add ll)) dd (vc - ll)),none,none,none] (fun ix vx=>match ix with | 3=>(fun u=>∃g,u=.pointer (some ⟨g,0,none⟩)) vx | 7=>(fun _=>False) vx | 8=>(fun u=>∃g,u=.pointer (some ⟨g,0,none⟩)) vx | _=>True) (fun ix vx=>match ix with | 3=>(fun u=>[Bok (ptB u) lt]) vx | _=>[]) (fun _=>[]) 10 61
             [some 53,some 54,some 55,some 56,some 57,some 58,some 59,some 60,some 2,some 3]
             [[],[],[0,1],[2],[],[],[4,5],[6,3],[3,7,0,1,2,3],[7,8,0,1,2,3,4,5,6,7,8]]
             [[],[],[0,1],[0,1,2],[],[],[4,5],[0,1,2,3,4,5,6],[0,1,2,3,4,5,6,7],[0,1,2,3,4,5,6,7,8]]
             [[],[],[],[],[],[],[],[],[],[]] [[],[],[],[],[],[],[],[],[],[]] [(4,.int .i64 (ll:Int)),(10,.slice (some ad) mm vc)]
             (by kernel_rfl) rfl (by decide) (by rfl) (by decide +kernel) rfl rfl (by simp) (H7) ?hstep ?hend
            case hstep =>
             refine⟨?p0,⟨?p1,⟨?p2,⟨?p3,⟨?p4,⟨?p5,⟨?p6,⟨?p7,⟨?p8,⟨?p9,trivial⟩⟩⟩⟩⟩⟩⟩⟩⟩⟩
             case p0 | p1 | p2 | p4 | p5 =>
              intro x wx A rest hDf hF hS hE H K hK
              replace hK:=Lib.hid hK
              clear hS hE hDf
              repeat (obtain⟨_,hF⟩:=hF)
              change Oper.wp _ _ A wx K _
              go_step
              exact hK.out _ _ rfl H
             case p3 =>
              intro x wx A rest hDf hF hS hE H K hK0
              replace hDf:=Lib.hid hDf
              have e55:A.tmps[55]?.getD undef=.slice (some ad) ll vc:=((hS 2 (by decide)).2 55 rfl).trans (hS 2 (by decide)).1
              replace H:Sp w0 (rest) wx:=H
              have hK:Hid (∀(v:Value) (w' : World),(∃g,v=.pointer (some ⟨g,0,none⟩))->Sp w0 ((Bok (ptB v) lt)::rest) w'->K (A.put (some 56) v) w'):=Lib.hid hK0
              clear hK0 hF hS
              change Oper.wp _ _ A wx K _
              go_wp2_with fail
              refine(xbook_yes (some ad) ll vc lt H HT1.out (hE _ HLT.out) HBT.out).mono ?_
              rintro _ w9 ⟨gq,rfl,H9⟩
              exact hK.out _ _ ⟨gq,rfl⟩ H9
             case p6 =>
              intro x wx A rest hDf hF hS hE H K hK0
              replace hDf:=Lib.hid hDf
              have e57:A.tmps[57]?.getD undef=.slice (some ad) mm vc:=((hS 4 (by decide)).2 57 rfl).trans (hS 4 (by decide)).1
              have e58:A.tmps[58]?.getD undef=.int .i64 (ll:Int):=((hS 5 (by decide)).2 58 rfl).trans (hS 5 (by decide)).1
              replace H:Sp w0 (rest) wx:=H
              have hK:Hid (∀(v:Value) (w' : World),(v=.slice (some (ad.add ll)) dd (vc - ll))->Sp w0 (rest) w'->K (A.put (some 59) v) w'):=Lib.hid hK0
              clear hK0 hF hS hE
              change Oper.wp _ _ A wx K _
              go_wp2_with fail
              exact hK.out _ _ rfl (H)
             case p7 =>
              intro x wx A rest hDf hF hS hE H K hK0
              replace hDf:=Lib.hid hDf
              have e59:A.tmps[59]?.getD undef=.slice (some (ad.add ll)) dd (vc - ll):=((hS 6 (by decide)).2 59 rfl).trans (hS 6 (by decide)).1
              replace H:Sp w0 (rest) wx:=H
              have hK:Hid (∀(v:Value) (w' : World),(False)->Sp w0 (rest) w'->K (A.put (some 60) v) w'):=Lib.hid hK0
              clear hK0 hF hS
              change Oper.wp _ _ A wx K _
              go_wp2_with fail
              refine(xbook_no (some (ad.add ll)) dd (vc - ll) ld H HD1.out (hE _ HLD.out) (by omega) HBD.out).mono ?_
              rintro _ w9 ⟨rfl,H9⟩
              go_wp2
              exact⟨hDf.out,XPost.no HE.out ((H9.sub hE).pick 5 [])⟩
             case p8 =>
              intro x wx A rest hDf hF hS hE H K hK0
              replace hDf:=Lib.hid hDf
              have q56:∃g,(x 3)=.pointer (some ⟨g,0,none⟩):=(hS 3 (by decide)).1
              have e56:A.tmps[56]?.getD undef=x 3:=(hS 3 (by decide)).2 56 rfl
              replace H:Sp w0 (rest) wx:=H
              have hK:Hid (∀(v:Value) (w' : World),(∃g,v=.pointer (some ⟨g,0,none⟩))->Sp w0 (rest) w'->K (A.put (some 2) v) w'):=Lib.hid hK0
              clear hK0 hF
              exact((hS 7 (by decide)).1:False).elim
             case p9 =>
              intro x wx A rest hDf hF hS hE H K hK0
              replace hDf:=Lib.hid hDf
              have q60:False:=(hS 7 (by decide)).1
              have e60:A.tmps[60]?.getD undef=x 7:=(hS 7 (by decide)).2 60 rfl
              replace H:Sp w0 (rest) wx:=H
              have hK:Hid (∀(v:Value) (w' : World),(True)->Sp w0 (rest) w'->K (A.put (some 3) v) w'):=Lib.hid hK0
              clear hK0 hF
              exact((hS 7 (by decide)).1:False).elim
            case hend =>
             intro x wx A hA hS H
             replace H:Sp w0 ((Bok (ptB (x 3)) lt)::Row 3 1 (.slice (some ad) mm vc) mm (cellsN ls)::Rr gr l a7::XpB gx gr vo most vb::Bok gb fj::Row 3 1 (.slice (some ad1) 19 19) 19 (cellsN fj)::L) wx:=H
             have y7:False:=hS 7 (by decide)
             clear hS
             simp only [putAll,Act.put,List.setIfInBounds_toArray,List.set_cons_succ,List.set_cons_zero,Nat.reduceAdd] at hA
             subst hA
             exact y7.elim
          ·have HE:Hid (T=.error 20):=by rw [<- HT.out,if_neg hbt]; exact Lib.hid rfl
           have hbt' : PI.book lt=false:=by simpa using hbt
           have HBT:=Lib.hid hbt'
           clear HT hbt hbt'
           go_wp2_with fail
           refine wp_region_sc (L:=Row 3 1 (.slice (some ad) mm vc) mm (cellsN ls)::Rr gr l a7::XpB gx gr vo most vb::Bok gb fj::Row 3 1 (.slice (some ad1) 19 19) 19 (cellsN fj)::L) [some (.slice (some ad) mm vc),some (.int .i64 (ll:Int)),some (.slice (some ad) ll vc),none,some (.slice (some ad) mm vc),some (.int .i64 (ll:Int)),some (.slice (some (ad.add ll)) dd (vc - ll)),none,none,none] (fun ix vx=>match ix with | 3=>(fun _=>False) vx | _=>True) (fun _ _=>[]) (fun _=>[]) 10 61
            [some 53,some 54,some 55,some 56,some 57,some 58,some 59,some 60,some 2,some 3]
            [[],[],[0,1],[2],[],[],[4,5],[6,3],[3,7,0,1,2,3],[7,8,0,1,2,3,4,5,6,7,8]]
            [[],[],[0,1],[0,1,2],[],[],[4,5],[0,1,2,3,4,5,6],[0,1,2,3,4,5,6,7],[0,1,2,3,4,5,6,7,8]]
            [[],[],[],[],[],[],[],[],[],[]] [[],[],[],[],[],[],[],[],[],[]] [(4,.int .i64 (ll:Int)),(10,.slice (some ad) mm vc)]
            (by kernel_rfl) rfl (by decide) (by rfl) (by decide +kernel) rfl rfl (by simp) (H7) ?hstep ?hend
           case hstep =>
            refine⟨?p0,⟨?p1,⟨?p2,⟨?p3,⟨?p4,⟨?p5,⟨?p6,⟨?p7,⟨?p8,⟨?p9,trivial⟩⟩⟩⟩⟩⟩⟩⟩⟩⟩
            case p0 | p1 | p2 | p4 | p5 =>
             intro x wx A rest hDf hF hS hE H K hK
             replace hK:=Lib.hid hK
             clear hS hE hDf
             repeat (obtain⟨_,hF⟩:=hF)
             change Oper.wp _ _ A wx K _
             go_step
             exact hK.out _ _ rfl H
            case p3 =>
             intro x wx A rest hDf hF hS hE H K hK0
             replace hDf:=Lib.hid hDf
             have e55:A.tmps[55]?.getD undef=.slice (some ad) ll vc:=((hS 2 (by decide)).2 55 rfl).trans (hS 2 (by decide)).1
             replace H:Sp w0 (rest) wx:=H
             have hK:Hid (∀(v:Value) (w' : World),(False)->Sp w0 (rest) w'->K (A.put (some 56) v) w'):=Lib.hid hK0
             clear hK0 hF hS
             change Oper.wp _ _ A wx K _
             go_wp2_with fail
             refine(xbook_no (some ad) ll vc lt H HT1.out (hE _ HLT.out) (by omega) HBT.out).mono ?_
             rintro _ w9 ⟨rfl,H9⟩
             go_wp2
             exact⟨hDf.out,XPost.no HE.out ((H9.sub hE).pick 5 [])⟩
            case p6 =>
             intro x wx A rest hDf hF hS hE H K hK0
             replace hDf:=Lib.hid hDf
             have e57:A.tmps[57]?.getD undef=.slice (some ad) mm vc:=((hS 4 (by decide)).2 57 rfl).trans (hS 4 (by decide)).1
             have e58:A.tmps[58]?.getD undef=.int .i64 (ll:Int):=((hS 5 (by decide)).2 58 rfl).trans (hS 5 (by decide)).1
             replace H:Sp w0 (rest) wx:=H
             have hK:Hid (∀(v:Value) (w' : World),(v=.slice (some (ad.add ll)) dd (vc - ll))->Sp w0 (rest) w'->K (A.put (some 59) v) w'):=Lib.hid hK0
             clear hK0 hF hS hE
             change Oper.wp _ _ A wx K _
             go_wp2_with fail
             exact hK.out _ _ rfl (H)
            case p7 =>
             intro x wx A rest hDf hF hS hE H K hK0
             replace hDf:=Lib.hid hDf
             have e59:A.tmps[59]?.getD undef=.slice (some (ad.add ll)) dd (vc - ll):=((hS 6 (by decide)).2 59 rfl).trans (hS 6 (by decide)).1
             replace H:Sp w0 (rest) wx:=H
             have hK:Hid (∀(v:Value) (w' : World),(True)->Sp w0 (rest) w'->K (A.put (some 60) v) w'):=Lib.hid hK0
             clear hK0 hF
             exact((hS 3 (by decide)).1:False).elim
            case p8 =>
             intro x wx A rest hDf hF hS hE H K hK0
             replace hDf:=Lib.hid hDf
             have q56:False:=(hS 3 (by decide)).1
             have e56:A.tmps[56]?.getD undef=x 3:=(hS 3 (by decide)).2 56 rfl
             replace H:Sp w0 (rest) wx:=H
             have hK:Hid (∀(v:Value) (w' : World),(True)->Sp w0 (rest) w'->K (A.put (some 2) v) w'):=Lib.hid hK0
             clear hK0 hF
             exact((hS 3 (by decide)).1:False).elim
            case p9 =>
             intro x wx A rest hDf hF hS hE H K hK0
             replace hDf:=Lib.hid hDf
             have q60:True:=(hS 7 (by decide)).1
             have e60:A.tmps[60]?.getD undef=x 7:=(hS 7 (by decide)).2 60 rfl
             replace H:Sp w0 (rest) wx:=H
             have hK:Hid (∀(v:Value) (w' : World),(True)->Sp w0 (rest) w'->K (A.put (some 3) v) w'):=Lib.hid hK0
             clear hK0 hF
             exact((hS 3 (by decide)).1:False).elim
           case hend =>
            intro x wx A hA hS H
            replace H:Sp w0 (Row 3 1 (.slice (some ad) mm vc) mm (cellsN ls)::Rr gr l a7::XpB gx gr vo most vb::Bok gb fj::Row 3 1 (.slice (some ad1) 19 19) 19 (cellsN fj)::L) wx:=H
            have y3:False:=hS 3 (by decide)
            clear hS
            simp only [putAll,Act.put,List.setIfInBounds_toArray,List.set_cons_succ,List.set_cons_zero,Nat.reduceAdd] at hA
            subst hA
            exact y3.elim
       ·have HE:Hid (T=.error 20):=by rw [<- HT.out,if_neg hbk]; exact Lib.hid rfl
        have HB:=Lib.hid (xbook_no (some ad1) 19 19 fj H5 HFL.out.symm (row_ent 0 rfl) (by omega) (by simpa using hbk))
        clear hbk HT
        go_wp2_with fail
        refine HB.out.mono ?_
        rintro _ w6 ⟨rfl,H6⟩
        go_wp2
        exact⟨rfl,XPost.no HE.out (H6.pick 3 [])⟩
theorem row3 {w0 w:World} {M:List Pr} {A:Option Addr} {n c z:Nat} {e:TypeId} {xs:List Value} (H:Sp w0 M w) (k:Nat) (hk:M[k]?=some (Row e z (.slice A n c) n xs)):Rd w A xs:=by
 obtain⟨A2,c2,e2,h,_⟩:=H.row_rd k hk
 injection e2 with e2 _ _
 subst e2
 exact h
namespace PI
theorem firstsW_len (FF l:List Nat):(firstsW FF l).length=3 * l.length:=by
 unfold firstsW
 induction l with
 | nil=>rfl
 | cons x l ih=>rw [List.flatMap_cons,List.length_append,ih,PBits.bitsOf_length,List.length_cons]; omega
end PI
theorem PI.cnts_le (n:Nat) (l:List Nat):∀x ∈ PI.cnts n l,x<=l.length:=fun x hx=>by
 obtain⟨q,hq,rfl⟩:=List.mem_map.1 hx
 exact List.count_le_length
end Go.Proofs.YtloijdbkikccgaaGreatDoor

