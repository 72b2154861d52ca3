/- A pack of texts: DefK. -/
import Derived.Test.YtloijdbkikccgaaDoorPk10
import Derived.Test.YtloijdbkikccgaaDoorPk15
import Derived.Test.YtloijdbkikccgaaDoorPk22
import Derived.Test.YtloijdbkikccgaaDoorPk23
namespace Go.Proofs.YtloijdbkikccgaaDoor
set_option linter.unusedVariables false
set_option linter.unusedSimpArgs false
open Go.RowKit
def tuF:Value->Nat->Value
 | .tuple a,i=>a.getD i undef
 | _,_=>undef
theorem castN_cells (m:List Nat):cells64 (castN m)=cellsN m:=by unfold cells64 castN cellsN; rw [List.map_map]; rfl
theorem dlens_ok (v:Value) (n:Nat) (cs:List Nat) (lm:Nat) {w0 w:World} {L:List Pr} (H:Sp w0 (Row 3 1 v n (cellsN cs)::L) w) (hn:n=cs.length) (hl:n<=1024) (h1:1<=lm) (h15:lm<=15) (hc:∀x ∈ cs,x<=4294967296) (hk:(PL.items cs).length<=2 ^ lm) :
  Calls Tryd.prog 38 #[v,.int .i64 (lm:Int)] w fun e w'=>∃u,e=.returned (.tuple #[u,.int .i64 0])/\Sp w0 (Row 3 1 u n (cellsN (PL.lens cs lm))::L) w':=by
 obtain⟨A,c,rfl,_,_⟩:=Row.form H 0 rfl
 refine(lengths_ok A n c cs lm H hn (fun w0 w h=>by rw [castN_cells]; exact rowRd h 0 rfl) hl h1 h15 hc hk).mono ?_
 rintro _ w' ⟨u,rfl,h⟩
 exact⟨u,rfl,h.pick 2 [0]⟩
theorem cnts_le (n:Nat) (l:List Nat) (h:l.length<=4294967296):∀x ∈ PI.cnts n l,x<=4294967296:=by
 intro x hx
 unfold PI.cnts at hx
 obtain⟨i,_,rfl⟩:=List.mem_map.1 hx
 exact Nat.le_trans List.count_le_length h
def Blo (g:Nat) (sv:Value) (BA:Option Addr) (bc:Nat) (p:BP):Pr:=Ex fun dv:DV=>Star (Bk g 165 [sv,.slice BA p.b.length bc,.slice dv.w p.W.length dv.wc,.bool p.last,.slice dv.a p.A.length dv.ac,.slice dv.d p.D.length dv.dc,.slice dv.r p.R.length dv.rc,.slice dv.f p.F.length dv.fc])
 (Star (Row 194 4 (.slice dv.w p.W.length dv.wc) p.W.length (cellsW p.W)) (Star (Row 3 1 (.slice dv.a p.A.length dv.ac) p.A.length (cellsN p.A)) (Star (Row 3 1 (.slice dv.d p.D.length dv.dc) p.D.length (cellsN p.D)) (Star (Row 194 4 (.slice dv.r p.R.length dv.rc) p.R.length (cellsW p.R)) (Row 3 1 (.slice dv.f p.F.length dv.fc) p.F.length (cellsN p.F))))))
theorem Blo.shut {w0 w:World} {L:List Pr} {g:Nat} {sv:Value} {BA:Option Addr} {bc:Nat} {p:BP} (dv:DV) (H:Sp w0 (Bk g 165 [sv,.slice BA p.b.length bc,.slice dv.w p.W.length dv.wc,.bool p.last,.slice dv.a p.A.length dv.ac,.slice dv.d p.D.length dv.dc,.slice dv.r p.R.length dv.rc,.slice dv.f p.F.length dv.fc] ::
  Row 194 4 (.slice dv.w p.W.length dv.wc) p.W.length (cellsW p.W)::Row 3 1 (.slice dv.a p.A.length dv.ac) p.A.length (cellsN p.A)::Row 3 1 (.slice dv.d p.D.length dv.dc) p.D.length (cellsN p.D)::Row 194 4 (.slice dv.r p.R.length dv.rc) p.R.length (cellsW p.R)::Row 3 1 (.slice dv.f p.F.length dv.fc) p.F.length (cellsN p.F)::L) w):Sp w0 (Blo g sv BA bc p::L) w:=by
 have h1:=(H.pick 6 [4,5,3,2,1,0]).star
 have h2:=(h1.pick 2 [1,0]).star
 have h3:=(h2.pick 2 [1,0]).star
 have h4:=(h3.pick 2 [1,0]).star
 have h5:=(h4.pick 2 [1,0]).star
 exact Sp.ex dv h5
theorem Blo.open {w0 w:World} {L:List Pr} {g:Nat} {sv:Value} {BA:Option Addr} {bc:Nat} {p:BP} (H:Sp w0 (Blo g sv BA bc p::L) w) (hby:Ent L fun w=>Byt w (.slice BA p.b.length bc) p.b):∃dv L2,Sp w0 (L2++L) w/\Ent (L2++L) (DBr g dv p)/\∀φ,Ent L φ->Ent (L2++L) φ:=by
 obtain⟨dv,H⟩:=H.unex
 have h5:=H.unstar
 have h4:=(h5.pick 2 [1,0]).unstar
 have h3:=(h4.pick 3 [1,0,2]).unstar
 have h2:=(h3.pick 4 [1,0,2,3]).unstar
 have h1:=(h2.pick 5 [1,0,2,3,4]).unstar
 exact⟨{ dv with b:=BA,bc:=bc },[_,_,_,_,_,_],h1.pick 6 [5,4,3,2,0,1],fun w0 w h=>⟨h.cell 0 rfl 1,h.cell 0 rfl 2,h.cell 0 rfl 3,h.cell 0 rfl 4,h.cell 0 rfl 5,h.cell 0 rfl 6,h.cell 0 rfl 7,hby _ _ (h.pick 6 []),rowRd h 1 rfl,rowRd h 2 rfl,rowRd h 3 rfl,rowRd h 4 rfl,rowRd h 5 rfl⟩,fun φ hφ w0 w h=>hφ _ _ (h.pick 6 [])⟩
theorem dcellsN_one (l:List Nat):∀u ∈ cellsN l,u.oneCell'=true:=by
 intro u hu
 obtain⟨x,_,rfl⟩:=List.mem_map.1 hu
 rfl
theorem cellsN_take (l:List Nat) (k:Nat):(cellsN l).take k=cellsN (l.take k):=by unfold cellsN; rw [List.map_take]
theorem wds_sign (Y:List PM.St) (hY:∀s ∈ Y,PD.StOk s):∀t ∈ PD.wds Y,(t.1=0->t.2.1<286)/\(t.1=1->t.2.1<30):=by
 intro t ht
 unfold PD.wds at ht
 obtain⟨s,hs,hts⟩:=List.mem_flatMap.1 ht
 have hok:=hY s hs
 unfold PD.wd at hts
 split at hts
 ·rw [List.mem_singleton.1 hts]
  have:=s.2.2.toNat_lt
  exact⟨fun _=>by show s.2.2.toNat<286; omega,fun h=>absurd (show(0:Nat)=1 from h) (by decide)⟩
 ·rename_i hne
  rcases hok with h1 | h1
  ·exact absurd h1 hne
  ·obtain⟨g1,_,_⟩:=PI.longS_lt s.1 h1.1 h1.2.1
   obtain⟨k1,_,_⟩:=PI.farS_lt s.2.1 h1.2.2.1 h1.2.2.2
   simp only [List.mem_cons,List.not_mem_nil,or_false] at hts
   rcases hts with rfl | rfl
   ·exact⟨fun _=>by show 257+(PI.longS s.1).1<286; omega,fun h=>absurd (show(0:Nat)=1 from h) (by decide)⟩
   ·exact⟨fun h=>absurd (show(1:Nat)=0 from h) (by decide),fun _=>by show(PI.farS s.2.1).1<30; omega⟩
theorem words_sign0 {Y:List PM.St} (hY:∀s ∈ Y,PD.StOk s):∀t ∈ PD.words Y,t.1=0->t.2.1<286:=by
 intro t ht h0
 unfold PD.words at ht
 rcases List.mem_append.1 ht with h | h
 ·exact(wds_sign Y hY t h).1 h0
 ·rw [List.mem_singleton.1 h]; show 256<286; decide
theorem words_sign1 {Y:List PM.St} (hY:∀s ∈ Y,PD.StOk s):∀t ∈ PD.words Y,t.1=1->t.2.1<30:=by
 intro t ht h0
 unfold PD.words at ht
 rcases List.mem_append.1 ht with h | h
 ·exact(wds_sign Y hY t h).2 h0
 ·rw [List.mem_singleton.1 h] at h0; exact absurd (show(0:Nat)=1 from h0) (by decide)
set_option maxRecDepth 100000 in
set_option maxHeartbeats 8000000 in
theorem dmakes_ok (V BA:Option Addr) (n c bn bc:Nat) (Y:List PM.St) (b:List UInt8) (last:Bool) {TL TF:Option Addr} {cl cf:Nat} {w0 w:World} {L:List Pr} (H:Sp w0 L w) (hT:Ent L (DTabs TL TF cl cf)) (hn:n=Y.length) (hnm:n<=100000) (h:Ent L fun w=>StAt w V Y) (hY:∀s ∈ Y,PD.StOk s)
  (hbn:bn=b.length) :
  Calls Tryd.prog 53 #[.slice V n c,.slice BA bn bc,.bool last] w fun e w'=>∃g,e=.returned (.pointer (some ⟨g,0,none⟩))/\Sp w0 (Blo g (.slice V n c) BA bc (BP.of Y b last)::L) w':=by
 obtain⟨i0,hi,hz0,hz1,hz2⟩:=info_parts infoInt
 obtain⟨W,hW⟩:∃W,PD.words Y=W:=⟨_,rfl⟩
 obtain⟨SA,hSA⟩:∃S,PD.signsOf 0 W=S:=⟨_,rfl⟩
 obtain⟨SD,hSD⟩:∃S,PD.signsOf 1 W=S:=⟨_,rfl⟩
 obtain⟨LA,hLA⟩:∃l,PL.lens (PI.cnts 286 SA) 15=l:=⟨_,rfl⟩
 obtain⟨LD,hLD⟩:∃l,PL.lens (PI.cnts 30 SD) 15=l:=⟨_,rfl⟩
 have hSA0:∀t ∈ W,t.1=0->t.2.1<286:=by
  rw [<- hW]; exact words_sign0 hY
 have hSD0:∀t ∈ W,t.1=1->t.2.1<30:=by
  rw [<- hW]; exact words_sign1 hY
 have hWl:W.length<=2 * n+1:=by rw [<- hW,hn]; exact PD.words_len Y
 have hSAl:SA.length<=W.length:=by rw [<- hSA]; unfold PD.signsOf; rw [List.length_map]; exact List.length_filter_le _ _
 have hSDl:SD.length<=W.length:=by rw [<- hSD]; unfold PD.signsOf; rw [List.length_map]; exact List.length_filter_le _ _
 have hLA2:PD.lenA Y=PD.cut LA 257:=by unfold PD.lenA; rw [show PI.lensA (PD.toks Y)=LA by rw [<- hLA,<- hSA,<- hW,PD.signs0]; rfl]
 have hLD2:PD.lenB Y=PD.cut LD 1:=by unfold PD.lenB; rw [show PI.lensB (PD.toks Y)=LD by rw [<- hLD,<- hSD,<- hW,PD.signs1]; rfl]
 have hLAl:LA.length=286:=by rw [<- hLA,PL.lens_len,PI.cnts_len]
 have hLDl:LD.length=30:=by rw [<- hLD,PL.lens_len,PI.cnts_len]
 obtain⟨nW,hnW⟩:∃k,W.length=k:=⟨_,rfl⟩
 obtain⟨uA,huA⟩:∃k,PD.used LA 257 286=k:=⟨_,rfl⟩
 obtain⟨uD,huD⟩:∃k,PD.used LD 1 30=k:=⟨_,rfl⟩
 have hu1:257<=uA/\uA<=286:=by rw [<- huA]; exact⟨PD.used_least LA 257 286 (by decide),PD.used_le LA 257 286⟩
 have hu2:1<=uD/\uD<=30:=by rw [<- huD]; exact⟨PD.used_least LD 1 30 (by decide),PD.used_le LD 1 30⟩
 obtain⟨CA,hCA⟩:∃l,LA.take uA=l:=⟨_,rfl⟩
 obtain⟨CD,hCD⟩:∃l,LD.take uD=l:=⟨_,rfl⟩
 have hA9:PD.lenA Y=CA:=by rw [hLA2]; unfold PD.cut; rw [hLAl,huA,hCA]
 have hD9:PD.lenB Y=CD:=by rw [hLD2]; unfold PD.cut; rw [hLDl,huD,hCD]
 have hCAl:CA.length=uA:=by rw [<- hCA,List.length_take]; omega
 have hCDl:CD.length=uD:=by rw [<- hCD,List.length_take]; omega
 obtain⟨RW,hRW⟩:∃l,(PD.rowY Y).map PD.rwd=l:=⟨_,rfl⟩
 have hRW2:(PD.row (CA++CD)).map PD.rwd=RW:=by rw [<- hRW,PD.rowY,hA9,hD9]
 have h15:∀x ∈ CA++CD,x<=15:=by rw [<- hA9,<- hD9]; exact PD.rowY_15 Y
 obtain⟨SR,hSR⟩:∃l,PD.signsOf 0 RW=l:=⟨_,rfl⟩
 have hSR2:SR=(PD.rowY Y).map Prod.fst:=by rw [<- hSR,<- hRW,PD.signs_row]
 obtain⟨F7,hF7⟩:∃l,PL.lens (PI.cnts 19 SR) 7=l:=⟨_,rfl⟩
 have hF9:PD.fst7 Y=F7:=by rw [<- hF7,hSR2]; rfl
 have hRl:RW.length<=316:=by
  rw [<- hRW2,List.length_map]
  have hl:=PD.rl_len (CA++CD).length 0 (CA++CD)
  have hl2:(CA++CD).length<=316:=by rw [List.length_append]; omega
  exact Nat.le_trans hl hl2
 have hSRs:∀t ∈ RW,t.1=0->t.2.1<19:=by
  intro t ht _
  rw [<- hRW] at ht
  obtain⟨q,hq,rfl⟩:=List.mem_map.1 ht
  exact(PD.rl_small _ _ _ (PD.rowY_15 Y) q hq).1
 have hSRl:SR.length<=316:=by rw [<- hSR]; unfold PD.signsOf; rw [List.length_map]; exact Nat.le_trans (List.length_filter_le _ _) hRl
 have hBP:BP.of Y b last=⟨b,W,last,CA,CD,RW,F7⟩:=by unfold BP.of; rw [hW,hA9,hD9,hRW,hF9]
 rw [hBP]
 rw [hnW] at hWl hSAl hSDl
 have HSA:=Lib.hid hLA
 have HSD:=Lib.hid hLD
 have HSAL:Hid (SA.length<=200001):=Lib.hid (by omega)
 have HSDL:Hid (SD.length<=200001):=Lib.hid (by omega)
 have HGA:Hid (PD.signsOf 0 W=SA):=Lib.hid hSA
 have HGD:Hid (PD.signsOf 1 W=SD):=Lib.hid hSD
 have HS0:=Lib.hid hSA0
 have HS1:=Lib.hid hSD0
 have HWN:Hid (nW=W.length):=Lib.hid hnW.symm
 have HUA:=Lib.hid huA
 have HUD:=Lib.hid huD
 have HCA:=Lib.hid hCA
 have HCD:=Lib.hid hCD
 have HLAl:=Lib.hid hLAl
 have HLDl:=Lib.hid hLDl
 have HCAl:=Lib.hid hCAl
 have HCDl:=Lib.hid hCDl
 have HRW:=Lib.hid hRW2
 have H15:=Lib.hid h15
 have HF7:=Lib.hid hF7
 have HSR:=Lib.hid hSR
 have HRL:=Lib.hid hRl
 have HSRS:=Lib.hid hSRs
 have HSRL:=Lib.hid hSRl
 have HBN:=Lib.hid hbn
 have hWl9:nW<=200001:=by omega
 have HWD:=Lib.hid (dwords_ok V n c Y H hT hn (by omega) h hY)
 rw [hW,hnW] at HWD
 clear hn h hT hY hbn hW hSA hSD hLA hLD hSA0 hSD0 hWl hSAl hSDl hLA2 hLD2 hLAl hLDl hnW huA huD hCA hCD hA9 hD9 hCAl hCDl hRW hRW2 h15 hSR hSR2 hF7 hF9 hRl hSRs hSRl hBP H
 go_enter Tryd.func53,Tryd.ntmps53
 go_wp2_with fail
 refine HWD.out.mono ?_
 rintro _ w1 ⟨v1,rfl,H1⟩
 obtain⟨WA,wc,rfl,_,_⟩:=Row.form H1 0 rfl
 have hWR:Ent (Row 194 4 (.slice WA nW wc) nW (cellsW W)::L) fun w=>Rd w WA (cellsW W):=fun w0 w h=>rowRd h 0 rfl
 have HX:=Lib.hid (H1.newBk [.slice V n c,.slice BA bn bc,.slice WA nW wc,.bool last,.slice none 0 0,.slice none 0 0,.slice none 0 0,.slice none 0 0] 165)
 have HWR:=Lib.hid hWR
 clear HWD H1 hWR
 go_wp2_with fail
 generalize w1.heap.size=g at HX ⊢
 refine wp_region_sd (L:=Row 194 4 (.slice WA nW wc) nW (cellsW W)::L) [some (.pointer (some ⟨g,0,none⟩)),some (.pointer (some ⟨g,0,none⟩)),some (.pointer (some ⟨g,0,none⟩)),some (.pointer (some ⟨g,2,none⟩)),some (.slice WA nW wc),none,none,none,none,some (.int .i64 0),some (.pointer (some ⟨g,0,none⟩)),some (.pointer (some ⟨g,4,none⟩)),some (.pointer (some ⟨g,4,none⟩)),some (undef)] (fun ix ux vx=>match ix with | 5=>(fun vv=>True) vx | 6=>(fun vv=>vv=.tuple #[tuF vv 0,.int .i64 0]) vx | 7=>(fun ux vv=>vv=ux) ux vx | 8=>(fun ux vv=>vv=tuF ux 0) ux vx | _=>True) (fun ix ux vx=>match ix with | 5=>(fun vv=>[Row 3 1 vv 286 (cellsN (PI.cnts 286 SA))]) vx | 6=>(fun vv=>[Row 3 1 (tuF vv 0) 286 (cellsN LA)]) vx | 13=>(fun _=>[Bk g 165 [.slice V n c,.slice BA bn bc,.slice WA nW wc,.bool last,ux,.slice none 0 0,.slice none 0 0,.slice none 0 0],Row 3 1 ux 286 (cellsN LA)]) vx | _=>[]) (fun ix=>match ix with | 13=>[Bk g 165 [.slice V n c,.slice BA bn bc,.slice WA nW wc,.bool last,.slice none 0 0,.slice none 0 0,.slice none 0 0,.slice none 0 0]] | _=>[]) 14 102
  [some 16,some 17,some 18,some 19,some 20,some 21,some 22,some 15,some 23,some 24,some 25,some 26,some 27,none]
  [[],[],[1],[2],[3],[4],[5,5],[6],[7],[7],[0],[10],[11,0,1,2,3,4,5,6,7,8],[12,8,6,0,1,2,3,4,5,6,7,8]]
  [[],[],[1],[1,2],[1,2,3],[1,2,3,4],[1,2,3,4,5],[1,2,3,4,5,6],[1,2,3,4,5,6,7],[1,2,3,4,5,6,7],[0],[0,10],[0,1,2,3,4,5,6,7,8,10,11],[0,1,2,3,4,5,6,7,8,10,11,12]]
  [[],[],[],[],[],[],[5],[],[],[],[],[],[],[6]] [[],[],[],[],[13],[],[],[],[],[],[],[],[],[]] [none,none,none,none,none,none,none,some 6,some 7,none,none,none,none,some 8] [(7,.pointer (some ⟨g,0,none⟩))]
  (by kernel_rfl) rfl (by decide) (by rfl) (by decide +kernel) rfl (by simp) (by rfl) (HX.out) ?hstep ?hend
 case hstep =>
  refine⟨?p0,⟨?p1,⟨?p2,⟨?p3,⟨?p4,⟨?p5,⟨?p6,⟨?p7,⟨?p8,⟨?p9,⟨?p10,⟨?p11,⟨?p12,⟨?p13,trivial⟩⟩⟩⟩⟩⟩⟩⟩⟩⟩⟩⟩⟩⟩
  case p0 | p1 | p2 | p3 | p10 | p11 | p12 =>
   intro x wx A rest hF hS hE H K hK
   replace hK:=Lib.hid hK
   clear hS hE
   repeat (obtain⟨_,hF⟩:=hF)
   change Oper.wp _ _ A wx K _
   go_step
   exact hK.out _ _ rfl H
  case p4 =>
   intro x wx A rest hF hS hE H K hK0
   have e19:A.tmps[19]?.getD undef=.pointer (some ⟨g,2,none⟩):=((hS 3 (by decide)).2 19 rfl).trans (hS 3 (by decide)).1
   replace H:Sp w0 ((Bk g 165 [.slice V n c,.slice BA bn bc,.slice WA nW wc,.bool last,.slice none 0 0,.slice none 0 0,.slice none 0 0,.slice none 0 0])::rest) wx:=H
   have hK:Hid (∀(v:Value) (w' : World),v=.slice WA nW wc->Sp w0 ((Bk g 165 [.slice V n c,.slice BA bn bc,.slice WA nW wc,.bool last,.slice none 0 0,.slice none 0 0,.slice none 0 0,.slice none 0 0])::rest) w'->K (A.put (some 20) v) w'):=Lib.hid hK0
   clear hK0 hF hS hE
   have c:=H.cell 0 rfl 2
   change Oper.wp _ _ A wx K _
   go_step
   exact hK.out _ _ rfl (H)
  case p5 =>
   intro x wx A rest hF hS hE H K hK0
   have e20:A.tmps[20]?.getD undef=.slice WA nW wc:=((hS 4 (by decide)).2 20 rfl).trans (hS 4 (by decide)).1
   replace H:Sp w0 (rest) wx:=H
   have hK:Hid (∀(v:Value) (w' : World),True->Sp w0 ((Row 3 1 v 286 (cellsN (PI.cnts 286 SA)))::rest) w'->K (A.put (some 21) v) w'):=Lib.hid hK0
   clear hK0 hF hS
   have hw:=Lib.hid (hE _ HWR.out)
   have HZ:=Lib.hid H
   clear hE
   change Oper.wp _ _ A wx K _
   go_wp2_with fail
   refine(dcounts_ok WA nW wc W 0 286 HZ.out hw.out HWN.out (by omega) (by decide) HS0.out).mono ?_
   rw [HGA.out]
   rintro _ w9 ⟨v0,rfl,H9⟩
   exact hK.out _ _ trivial H9
  case p6 =>
   intro x wx A rest hF hS hE H K hK0
   have q21:True:=(hS 5 (by decide)).1
   have e21:A.tmps[21]?.getD undef=x 5:=(hS 5 (by decide)).2 21 rfl
   replace H:Sp w0 ((Row 3 1 (x 5) 286 (cellsN (PI.cnts 286 SA)))::rest) wx:=H
   have hK:Hid (∀(v:Value) (w' : World),v=.tuple #[tuF v 0,.int .i64 0]->Sp w0 ((Row 3 1 (tuF v 0) 286 (cellsN LA))::rest) w'->K (A.put (some 22) v) w'):=Lib.hid hK0
   clear hK0 hF hS hE
   have HZ:=Lib.hid H
   change Oper.wp _ _ A wx K _
   go_wp2_with fail
   refine(dlens_ok (x 5) 286 (PI.cnts 286 SA) 15 HZ.out (by rw [PI.cnts_len]) (by decide) (by decide) (by decide) (cnts_le _ _ (by have:=HSAL.out; omega)) (Nat.le_trans (PI.items_le _) (by rw [PI.cnts_len]; decide))).mono ?_
   rw [HSA.out]
   rintro _ w9 ⟨v0,rfl,H9⟩
   exact hK.out _ _ rfl H9
  case p7 =>
   intro x wx A rest hF hS hE H K hK0
   have q22:(x 6)=.tuple #[tuF (x 6) 0,.int .i64 0]:=(hS 6 (by decide)).1
   have e22:A.tmps[22]?.getD undef=x 6:=(hS 6 (by decide)).2 22 rfl
   replace H:Sp w0 (rest) wx:=H
   have hK:Hid (∀(v:Value) (w' : World),v=(x 6)->Sp w0 (rest) w'->K (A.put (some 15) v) w'):=Lib.hid hK0
   clear hK0 hF hS hE
   clear q22
   change Oper.wp _ _ A wx K _
   go_step
   exact hK.out _ _ rfl H
  case p8 =>
   intro x wx A rest hF hS hE H K hK0
   have q15:(x 7)=(x 6):=(hS 7 (by decide)).1
   have e15:A.tmps[15]?.getD undef=x 7:=(hS 7 (by decide)).2 15 rfl
   replace H:Sp w0 (rest) wx:=H
   have hK:Hid (∀(v:Value) (w' : World),v=tuF (x 7) 0->Sp w0 (rest) w'->K (A.put (some 23) v) w'):=Lib.hid hK0
   clear hK0 hF
   have r7:x 7=x 6:=(hS 7 (by decide)).1
   have r6:x 6=.tuple #[tuF (x 6) 0,.int .i64 0]:=(hS 6 (by decide)).1
   clear hS
   obtain⟨t0,ht0⟩:∃t,tuF (x 6) 0=t:=⟨_,rfl⟩
   rw [ht0] at r6
   have hK2:=Lib.hid hK
   clear hK
   replace e15:A.tmps[15]?.getD undef=.tuple #[t0,.int .i64 0]:=by rw [e15,r7,r6]
   clear q15
   change Oper.wp _ _ A wx K _
   go_step
   exact hK2.out _ _ (by rw [r7,ht0]) H
  case p9 =>
   intro x wx A rest hF hS hE H K hK0
   have q15:(x 7)=(x 6):=(hS 7 (by decide)).1
   have e15:A.tmps[15]?.getD undef=x 7:=(hS 7 (by decide)).2 15 rfl
   replace H:Sp w0 (rest) wx:=H
   have hK:Hid (∀(v:Value) (w' : World),v=.int .i64 0->Sp w0 (rest) w'->K (A.put (some 24) v) w'):=Lib.hid hK0
   clear hK0 hF
   have r7:x 7=x 6:=(hS 7 (by decide)).1
   have r6:x 6=.tuple #[tuF (x 6) 0,.int .i64 0]:=(hS 6 (by decide)).1
   clear hS
   obtain⟨t0,ht0⟩:∃t,tuF (x 6) 0=t:=⟨_,rfl⟩
   rw [ht0] at r6
   have hK2:=Lib.hid hK
   clear hK
   replace e15:A.tmps[15]?.getD undef=.tuple #[t0,.int .i64 0]:=by rw [e15,r7,r6]
   clear q15
   change Oper.wp _ _ A wx K _
   go_step
   exact hK2.out _ _ rfl H
  case p13 =>
   intro x wx A rest hF hS hE H K hK0
   have e27:A.tmps[27]?.getD undef=.pointer (some ⟨g,4,none⟩):=((hS 12 (by decide)).2 27 rfl).trans (hS 12 (by decide)).1
   have q23:(x 8)=tuF (x 7) 0:=(hS 8 (by decide)).1
   have e23:A.tmps[23]?.getD undef=x 8:=(hS 8 (by decide)).2 23 rfl
   replace H:Sp w0 ((Bk g 165 [.slice V n c,.slice BA bn bc,.slice WA nW wc,.bool last,.slice none 0 0,.slice none 0 0,.slice none 0 0,.slice none 0 0])::(Row 3 1 (tuF (x 6) 0) 286 (cellsN LA))::rest) wx:=H
   have hK:Hid (∀(v:Value) (w' : World),v=undef->Sp w0 ((Bk g 165 [.slice V n c,.slice BA bn bc,.slice WA nW wc,.bool last,(x 8),.slice none 0 0,.slice none 0 0,.slice none 0 0])::(Row 3 1 (x 8) 286 (cellsN LA))::rest) w'->K (A.put none v) w'):=Lib.hid hK0
   clear hK0 hF
   have r7:x 7=x 6:=(hS 7 (by decide)).1
   have r8:x 8=tuF (x 7) 0:=(hS 8 (by decide)).1
   have r6:x 6=.tuple #[tuF (x 6) 0,.int .i64 0]:=(hS 6 (by decide)).1
   clear hS
   replace r8:x 8=tuF (x 6) 0:=by rw [r8,r7]
   rw [<- r8] at H
   obtain⟨A0,c0,ex,_,_⟩:=Row.form H 1 rfl
   rw [ex] at hK H e23
   clear r6 r7 r8 q23
   have z:=H.frozen 0 rfl 4
   have t:=H.cell 0 rfl 4
   change Oper.wp _ _ A wx K _
   go_step
   exact hK.out _ _ rfl (H.set 4 (.slice A0 286 c0))
 case hend =>
  intro x wx A hA hS H
  replace H:Sp w0 ((Bk g 165 [.slice V n c,.slice BA bn bc,.slice WA nW wc,.bool last,(x 8),.slice none 0 0,.slice none 0 0,.slice none 0 0])::(Row 3 1 (x 8) 286 (cellsN LA))::Row 194 4 (.slice WA nW wc) nW (cellsW W)::L) wx:=H
  clear hS
  simp only [putAll,Act.put,List.setIfInBounds_toArray,List.set_cons_succ,List.set_cons_zero,Nat.reduceAdd] at hA
  subst hA
  have HY:=Lib.hid H
  clear H HX
  obtain⟨o4,ho4⟩:∃o,x 8=o:=⟨_,rfl⟩
  rw [ho4] at HY
  clear ho4
  go_wp2_with fail
  have HX:=HY
  clear HY
  have HWR3:Ent (Row 3 1 o4 286 (cellsN LA)::Row 194 4 (.slice WA nW wc) nW (cellsW W)::L) fun w=>Rd w WA (cellsW W):=fun w0 w h=>rowRd h 1 rfl
  replace HWR:=Lib.hid HWR3
  clear HWR3
  refine wp_region_sd (L:=Row 3 1 o4 286 (cellsN LA)::Row 194 4 (.slice WA nW wc) nW (cellsW W)::L) [some (.pointer (some ⟨g,0,none⟩)),some (.pointer (some ⟨g,0,none⟩)),some (.pointer (some ⟨g,0,none⟩)),some (.pointer (some ⟨g,2,none⟩)),some (.slice WA nW wc),none,none,none,none,some (.int .i64 0),some (.pointer (some ⟨g,0,none⟩)),some (.pointer (some ⟨g,4,none⟩)),some (.pointer (some ⟨g,5,none⟩)),some (undef)] (fun ix ux vx=>match ix with | 5=>(fun vv=>True) vx | 6=>(fun vv=>vv=.tuple #[tuF vv 0,.int .i64 0]) vx | 7=>(fun ux vv=>vv=ux) ux vx | 8=>(fun ux vv=>vv=tuF ux 0) ux vx | _=>True) (fun ix ux vx=>match ix with | 5=>(fun vv=>[Row 3 1 vv 30 (cellsN (PI.cnts 30 SD))]) vx | 6=>(fun vv=>[Row 3 1 (tuF vv 0) 30 (cellsN LD)]) vx | 13=>(fun _=>[Bk g 165 [.slice V n c,.slice BA bn bc,.slice WA nW wc,.bool last,o4,ux,.slice none 0 0,.slice none 0 0],Row 3 1 ux 30 (cellsN LD)]) vx | _=>[]) (fun ix=>match ix with | 13=>[Bk g 165 [.slice V n c,.slice BA bn bc,.slice WA nW wc,.bool last,o4,.slice none 0 0,.slice none 0 0,.slice none 0 0]] | _=>[]) 14 102
   [some 29,some 30,some 31,some 32,some 33,some 34,some 35,some 28,some 36,some 37,some 38,some 39,some 40,none]
   [[],[],[1],[2],[3],[4],[5,5],[6],[7],[7],[0],[10],[11,0,1,2,3,4,5,6,7,8],[12,8,6,0,1,2,3,4,5,6,7,8]]
   [[],[],[1],[1,2],[1,2,3],[1,2,3,4],[1,2,3,4,5],[1,2,3,4,5,6],[1,2,3,4,5,6,7],[1,2,3,4,5,6,7],[0],[0,10],[0,1,2,3,4,5,6,7,8,10,11],[0,1,2,3,4,5,6,7,8,10,11,12]]
   [[],[],[],[],[],[],[5],[],[],[],[],[],[],[6]] [[],[],[],[],[13],[],[],[],[],[],[],[],[],[]] [none,none,none,none,none,none,none,some 6,some 7,none,none,none,none,some 8] [(7,.pointer (some ⟨g,0,none⟩))]
   (by kernel_rfl) rfl (by decide) (by rfl) (by decide +kernel) rfl (by simp) (by rfl) (HX.out) ?hstep ?hend
  case hstep =>
   refine⟨?p0,⟨?p1,⟨?p2,⟨?p3,⟨?p4,⟨?p5,⟨?p6,⟨?p7,⟨?p8,⟨?p9,⟨?p10,⟨?p11,⟨?p12,⟨?p13,trivial⟩⟩⟩⟩⟩⟩⟩⟩⟩⟩⟩⟩⟩⟩
   case p0 | p1 | p2 | p3 | p10 | p11 | p12 =>
    intro x wx A rest hF hS hE H K hK
    replace hK:=Lib.hid hK
    clear hS hE
    repeat (obtain⟨_,hF⟩:=hF)
    change Oper.wp _ _ A wx K _
    go_step
    exact hK.out _ _ rfl H
   case p4 =>
    intro x wx A rest hF hS hE H K hK0
    have e32:A.tmps[32]?.getD undef=.pointer (some ⟨g,2,none⟩):=((hS 3 (by decide)).2 32 rfl).trans (hS 3 (by decide)).1
    replace H:Sp w0 ((Bk g 165 [.slice V n c,.slice BA bn bc,.slice WA nW wc,.bool last,o4,.slice none 0 0,.slice none 0 0,.slice none 0 0])::rest) wx:=H
    have hK:Hid (∀(v:Value) (w' : World),v=.slice WA nW wc->Sp w0 ((Bk g 165 [.slice V n c,.slice BA bn bc,.slice WA nW wc,.bool last,o4,.slice none 0 0,.slice none 0 0,.slice none 0 0])::rest) w'->K (A.put (some 33) v) w'):=Lib.hid hK0
    clear hK0 hF hS hE
    have c:=H.cell 0 rfl 2
    change Oper.wp _ _ A wx K _
    go_step
    exact hK.out _ _ rfl (H)
   case p5 =>
    intro x wx A rest hF hS hE H K hK0
    have e33:A.tmps[33]?.getD undef=.slice WA nW wc:=((hS 4 (by decide)).2 33 rfl).trans (hS 4 (by decide)).1
    replace H:Sp w0 (rest) wx:=H
    have hK:Hid (∀(v:Value) (w' : World),True->Sp w0 ((Row 3 1 v 30 (cellsN (PI.cnts 30 SD)))::rest) w'->K (A.put (some 34) v) w'):=Lib.hid hK0
    clear hK0 hF hS
    have hw:=Lib.hid (hE _ HWR.out)
    have HZ:=Lib.hid H
    clear hE
    change Oper.wp _ _ A wx K _
    go_wp2_with fail
    refine(dcounts_ok WA nW wc W 1 30 HZ.out hw.out HWN.out (by omega) (by decide) HS1.out).mono ?_
    rw [HGD.out]
    rintro _ w9 ⟨v0,rfl,H9⟩
    exact hK.out _ _ trivial H9
   case p6 =>
    intro x wx A rest hF hS hE H K hK0
    have q34:True:=(hS 5 (by decide)).1
    have e34:A.tmps[34]?.getD undef=x 5:=(hS 5 (by decide)).2 34 rfl
    replace H:Sp w0 ((Row 3 1 (x 5) 30 (cellsN (PI.cnts 30 SD)))::rest) wx:=H
    have hK:Hid (∀(v:Value) (w' : World),v=.tuple #[tuF v 0,.int .i64 0]->Sp w0 ((Row 3 1 (tuF v 0) 30 (cellsN LD))::rest) w'->K (A.put (some 35) v) w'):=Lib.hid hK0
    clear hK0 hF hS hE
    have HZ:=Lib.hid H
    change Oper.wp _ _ A wx K _
    go_wp2_with fail
    refine(dlens_ok (x 5) 30 (PI.cnts 30 SD) 15 HZ.out (by rw [PI.cnts_len]) (by decide) (by decide) (by decide) (cnts_le _ _ (by have:=HSDL.out; omega)) (Nat.le_trans (PI.items_le _) (by rw [PI.cnts_len]; decide))).mono ?_
    rw [HSD.out]
    rintro _ w9 ⟨v0,rfl,H9⟩
    exact hK.out _ _ rfl H9
   case p7 =>
    intro x wx A rest hF hS hE H K hK0
    have q35:(x 6)=.tuple #[tuF (x 6) 0,.int .i64 0]:=(hS 6 (by decide)).1
    have e35:A.tmps[35]?.getD undef=x 6:=(hS 6 (by decide)).2 35 rfl
    replace H:Sp w0 (rest) wx:=H
    have hK:Hid (∀(v:Value) (w' : World),v=(x 6)->Sp w0 (rest) w'->K (A.put (some 28) v) w'):=Lib.hid hK0
    clear hK0 hF hS hE
    clear q35
    change Oper.wp _ _ A wx K _
    go_step
    exact hK.out _ _ rfl H
   case p8 =>
    intro x wx A rest hF hS hE H K hK0
    have q28:(x 7)=(x 6):=(hS 7 (by decide)).1
    have e28:A.tmps[28]?.getD undef=x 7:=(hS 7 (by decide)).2 28 rfl
    replace H:Sp w0 (rest) wx:=H
    have hK:Hid (∀(v:Value) (w' : World),v=tuF (x 7) 0->Sp w0 (rest) w'->K (A.put (some 36) v) w'):=Lib.hid hK0
    clear hK0 hF
    have r7:x 7=x 6:=(hS 7 (by decide)).1
    have r6:x 6=.tuple #[tuF (x 6) 0,.int .i64 0]:=(hS 6 (by decide)).1
    clear hS
    obtain⟨t0,ht0⟩:∃t,tuF (x 6) 0=t:=⟨_,rfl⟩
    rw [ht0] at r6
    have hK2:=Lib.hid hK
    clear hK
    replace e28:A.tmps[28]?.getD undef=.tuple #[t0,.int .i64 0]:=by rw [e28,r7,r6]
    clear q28
    change Oper.wp _ _ A wx K _
    go_step
    exact hK2.out _ _ (by rw [r7,ht0]) H
   case p9 =>
    intro x wx A rest hF hS hE H K hK0
    have q28:(x 7)=(x 6):=(hS 7 (by decide)).1
    have e28:A.tmps[28]?.getD undef=x 7:=(hS 7 (by decide)).2 28 rfl
    replace H:Sp w0 (rest) wx:=H
    have hK:Hid (∀(v:Value) (w' : World),v=.int .i64 0->Sp w0 (rest) w'->K (A.put (some 37) v) w'):=Lib.hid hK0
    clear hK0 hF
    have r7:x 7=x 6:=(hS 7 (by decide)).1
    have r6:x 6=.tuple #[tuF (x 6) 0,.int .i64 0]:=(hS 6 (by decide)).1
    clear hS
    obtain⟨t0,ht0⟩:∃t,tuF (x 6) 0=t:=⟨_,rfl⟩
    rw [ht0] at r6
    have hK2:=Lib.hid hK
    clear hK
    replace e28:A.tmps[28]?.getD undef=.tuple #[t0,.int .i64 0]:=by rw [e28,r7,r6]
    clear q28
    change Oper.wp _ _ A wx K _
    go_step
    exact hK2.out _ _ rfl H
   case p13 =>
    intro x wx A rest hF hS hE H K hK0
    have e40:A.tmps[40]?.getD undef=.pointer (some ⟨g,5,none⟩):=((hS 12 (by decide)).2 40 rfl).trans (hS 12 (by decide)).1
    have q36:(x 8)=tuF (x 7) 0:=(hS 8 (by decide)).1
    have e36:A.tmps[36]?.getD undef=x 8:=(hS 8 (by decide)).2 36 rfl
    replace H:Sp w0 ((Bk g 165 [.slice V n c,.slice BA bn bc,.slice WA nW wc,.bool last,o4,.slice none 0 0,.slice none 0 0,.slice none 0 0])::(Row 3 1 (tuF (x 6) 0) 30 (cellsN LD))::rest) wx:=H
    have hK:Hid (∀(v:Value) (w' : World),v=undef->Sp w0 ((Bk g 165 [.slice V n c,.slice BA bn bc,.slice WA nW wc,.bool last,o4,(x 8),.slice none 0 0,.slice none 0 0])::(Row 3 1 (x 8) 30 (cellsN LD))::rest) w'->K (A.put none v) w'):=Lib.hid hK0
    clear hK0 hF
    have r7:x 7=x 6:=(hS 7 (by decide)).1
    have r8:x 8=tuF (x 7) 0:=(hS 8 (by decide)).1
    have r6:x 6=.tuple #[tuF (x 6) 0,.int .i64 0]:=(hS 6 (by decide)).1
    clear hS
    replace r8:x 8=tuF (x 6) 0:=by rw [r8,r7]
    rw [<- r8] at H
    obtain⟨A0,c0,ex,_,_⟩:=Row.form H 1 rfl
    rw [ex] at hK H e36
    clear r6 r7 r8 q36
    have z:=H.frozen 0 rfl 5
    have t:=H.cell 0 rfl 5
    change Oper.wp _ _ A wx K _
    go_step
    exact hK.out _ _ rfl (H.set 5 (.slice A0 30 c0))
  case hend =>
   intro x wx A hA hS H
   replace H:Sp w0 ((Bk g 165 [.slice V n c,.slice BA bn bc,.slice WA nW wc,.bool last,o4,(x 8),.slice none 0 0,.slice none 0 0])::(Row 3 1 (x 8) 30 (cellsN LD))::Row 3 1 o4 286 (cellsN LA)::Row 194 4 (.slice WA nW wc) nW (cellsW W)::L) wx:=H
   clear hS
   simp only [putAll,Act.put,List.setIfInBounds_toArray,List.set_cons_succ,List.set_cons_zero,Nat.reduceAdd] at hA
   subst hA
   have HY:=Lib.hid H
   clear H HX
   obtain⟨o5,ho5⟩:∃o,x 8=o:=⟨_,rfl⟩
   rw [ho5] at HY
   clear ho5
   go_wp2_with fail
   replace HY:=HY.out
   obtain⟨D0,d0,rfl,hdl,hdm⟩:=Row.form HY 1 rfl
   obtain⟨A0,c0,rfl,hcl,hcm⟩:=Row.form HY 2 rfl
   have HX4:=Lib.hid HY
   clear HY
   refine wp_region_sc (L:=Row 3 1 (.slice D0 30 d0) 30 (cellsN LD)::Row 3 1 (.slice A0 286 c0) 286 (cellsN LA)::Row 194 4 (.slice WA nW wc) nW (cellsW W)::L) [some (.pointer (some ⟨g,0,none⟩)),some (.pointer (some ⟨g,0,none⟩)),some (.pointer (some ⟨g,0,none⟩)),some (.pointer (some ⟨g,0,none⟩)),some (.pointer (some ⟨g,4,none⟩)),some (.pointer (some ⟨g,4,none⟩)),some (.slice A0 286 c0),some (.pointer (some ⟨g,0,none⟩)),some (.pointer (some ⟨g,0,none⟩)),some (.pointer (some ⟨g,4,none⟩)),some (.pointer (some ⟨g,4,none⟩)),some (.slice A0 286 c0),some (.int .i64 (uA:Int)),some (.slice A0 uA c0),some (.pointer (some ⟨g,0,none⟩)),some (.pointer (some ⟨g,0,none⟩)),some (.pointer (some ⟨g,4,none⟩)),some (.pointer (some ⟨g,5,none⟩)),some (.slice D0 30 d0),some (.pointer (some ⟨g,0,none⟩)),some (.pointer (some ⟨g,0,none⟩)),some (.pointer (some ⟨g,4,none⟩)),some (.pointer (some ⟨g,5,none⟩)),some (.slice D0 30 d0),some (.int .i64 (uD:Int)),some (.slice D0 uD d0),some (.pointer (some ⟨g,0,none⟩)),some (.pointer (some ⟨g,4,none⟩)),some (.pointer (some ⟨g,4,none⟩)),some (undef),some (.pointer (some ⟨g,0,none⟩)),some (.pointer (some ⟨g,4,none⟩)),some (.pointer (some ⟨g,5,none⟩)),some (undef)] (fun _ _=>True) (fun ix vx=>match ix with | 29=>(fun _=>[Bk g 165 [.slice V n c,.slice BA bn bc,.slice WA nW wc,.bool last,.slice A0 uA c0,.slice D0 30 d0,.slice none 0 0,.slice none 0 0]]) vx | 33=>(fun _=>[Bk g 165 [.slice V n c,.slice BA bn bc,.slice WA nW wc,.bool last,.slice A0 uA c0,.slice D0 uD d0,.slice none 0 0,.slice none 0 0]]) vx | _=>[]) (fun ix=>match ix with | 29=>[Bk g 165 [.slice V n c,.slice BA bn bc,.slice WA nW wc,.bool last,.slice A0 286 c0,.slice D0 30 d0,.slice none 0 0,.slice none 0 0]] | _=>[]) 34 102
    [some 41,some 42,some 43,some 44,some 45,some 46,some 47,some 48,some 49,some 50,some 51,some 52,some 53,some 54,some 55,some 56,some 57,some 58,some 59,some 60,some 61,some 62,some 63,some 64,some 65,some 66,some 67,some 68,some 69,none,some 70,some 71,some 72,none]
    [[],[],[],[2],[3],[4],[5],[],[7],[8],[9],[10],[11],[6,12],[],[14],[15],[16],[17],[],[19],[20],[21],[22],[23,12],[18,24],[0],[26],[27,0,2,3,4,5,6,7,8,9,10,11,12,13,18,23,24],[28,13,24,0,2,3,4,5,6,7,8,9,10,11,12,13,18,23,24],[1],[30],[31,0,1,2,3,4,5,6,7,8,9,10,11,12,13,14,15,16,17,18,19,20,21,22,23,24,25,26,27,28,29],[32,25,29,0,1,2,3,4,5,6,7,8,9,10,11,12,13,14,15,16,17,18,19,20,21,22,23,24,25,26,27,28,29]]
    [[],[],[],[2],[2,3],[2,3,4],[2,3,4,5],[],[7],[7,8],[7,8,9],[7,8,9,10],[7,8,9,10,11],[2,3,4,5,6,7,8,9,10,11,12],[],[14],[14,15],[14,15,16],[14,15,16,17],[],[19],[19,20],[19,20,21],[19,20,21,22],[7,8,9,10,11,12,19,20,21,22,23],[7,8,9,10,11,12,14,15,16,17,18,19,20,21,22,23,24],[0],[0,26],[0,2,3,4,5,6,7,8,9,10,11,12,13,14,15,16,17,18,19,20,21,22,23,24,26,27],[0,2,3,4,5,6,7,8,9,10,11,12,13,14,15,16,17,18,19,20,21,22,23,24,26,27,28],[1],[1,30],[0,1,2,3,4,5,6,7,8,9,10,11,12,13,14,15,16,17,18,19,20,21,22,23,24,25,26,27,28,29,30,31],[0,1,2,3,4,5,6,7,8,9,10,11,12,13,14,15,16,17,18,19,20,21,22,23,24,25,26,27,28,29,30,31,32]]
    [[],[],[],[],[],[],[],[],[],[],[],[],[],[],[],[],[],[],[],[],[],[],[],[],[],[],[],[],[],[],[],[],[],[29]] [[],[],[],[],[],[],[29],[],[],[],[],[29],[],[],[],[],[],[],[29],[],[],[],[],[29],[],[],[],[],[],[],[],[],[],[]] [(7,.pointer (some ⟨g,0,none⟩))]
    (by kernel_rfl) rfl (by decide) (by rfl) (by decide +kernel) rfl rfl (by simp) (HX4.out) ?hstep ?hend
   case hstep =>
    refine⟨?p0,⟨?p1,⟨?p2,⟨?p3,⟨?p4,⟨?p5,⟨?p6,⟨?p7,⟨?p8,⟨?p9,⟨?p10,⟨?p11,⟨?p12,⟨?p13,⟨?p14,⟨?p15,⟨?p16,⟨?p17,⟨?p18,⟨?p19,⟨?p20,⟨?p21,⟨?p22,⟨?p23,⟨?p24,⟨?p25,⟨?p26,⟨?p27,⟨?p28,⟨?p29,⟨?p30,⟨?p31,⟨?p32,⟨?p33,trivial⟩⟩⟩⟩⟩⟩⟩⟩⟩⟩⟩⟩⟩⟩⟩⟩⟩⟩⟩⟩⟩⟩⟩⟩⟩⟩⟩⟩⟩⟩⟩⟩⟩⟩
    case p0 | p1 | p2 | p3 | p4 | p5 | p7 | p8 | p9 | p10 | p14 | p15 | p16 | p17 | p19 | p20 | p21 | p22 | p26 | p27 | p28 | p30 | p31 | p32 =>
     intro x wx A rest hDf hF hS hE H K hK
     replace hK:=Lib.hid hK
     clear hS hE hDf
     repeat (obtain⟨_,hF⟩:=hF)
     change Oper.wp _ _ A wx K _
     go_step
     exact hK.out _ _ rfl H
    case p6 =>
     intro x wx A rest hDf hF hS hE H K hK0
     replace hDf:=Lib.hid hDf
     have e46:A.tmps[46]?.getD undef=.pointer (some ⟨g,4,none⟩):=((hS 5 (by decide)).2 46 rfl).trans (hS 5 (by decide)).1
     replace H:Sp w0 ((Bk g 165 [.slice V n c,.slice BA bn bc,.slice WA nW wc,.bool last,.slice A0 286 c0,.slice D0 30 d0,.slice none 0 0,.slice none 0 0])::rest) wx:=H
     have hK:Hid (∀(v:Value) (w' : World),v=.slice A0 286 c0->Sp w0 ((Bk g 165 [.slice V n c,.slice BA bn bc,.slice WA nW wc,.bool last,.slice A0 286 c0,.slice D0 30 d0,.slice none 0 0,.slice none 0 0])::rest) w'->K (A.put (some 47) v) w'):=Lib.hid hK0
     clear hK0 hF hS hE
     have c:=H.cell 0 rfl 4
     change Oper.wp _ _ A wx K _
     go_step
     exact hK.out _ _ rfl (H)
    case p11 =>
     intro x wx A rest hDf hF hS hE H K hK0
     replace hDf:=Lib.hid hDf
     have e51:A.tmps[51]?.getD undef=.pointer (some ⟨g,4,none⟩):=((hS 10 (by decide)).2 51 rfl).trans (hS 10 (by decide)).1
     replace H:Sp w0 ((Bk g 165 [.slice V n c,.slice BA bn bc,.slice WA nW wc,.bool last,.slice A0 286 c0,.slice D0 30 d0,.slice none 0 0,.slice none 0 0])::rest) wx:=H
     have hK:Hid (∀(v:Value) (w' : World),v=.slice A0 286 c0->Sp w0 ((Bk g 165 [.slice V n c,.slice BA bn bc,.slice WA nW wc,.bool last,.slice A0 286 c0,.slice D0 30 d0,.slice none 0 0,.slice none 0 0])::rest) w'->K (A.put (some 52) v) w'):=Lib.hid hK0
     clear hK0 hF hS hE
     have c:=H.cell 0 rfl 4
     change Oper.wp _ _ A wx K _
     go_step
     exact hK.out _ _ rfl (H)
    case p12 =>
     intro x wx A rest hDf hF hS hE H K hK0
     replace hDf:=Lib.hid hDf
     have e52:A.tmps[52]?.getD undef=.slice A0 286 c0:=((hS 11 (by decide)).2 52 rfl).trans (hS 11 (by decide)).1
     replace H:Sp w0 (rest) wx:=H
     have hK:Hid (∀(v:Value) (w' : World),v=.int .i64 (uA:Int)->Sp w0 (rest) w'->K (A.put (some 53) v) w'):=Lib.hid hK0
     clear hK0 hF hS
     have hr:=Lib.hid (hE (fun w=>Rd w A0 (cellsN LA)) (fun w0 w h=>rowRd h 1 rfl))
     have HZ:=Lib.hid H
     clear hE
     change Oper.wp _ _ A wx K _
     go_wp2_with fail
     refine(dused_ok A0 286 c0 LA 257 HZ.out hr.out HLAl.out.symm (by decide) (by decide)).mono ?_
     rw [HUA.out]
     rintro _ w9 ⟨rfl,H9⟩
     exact hK.out _ _ rfl H9
    case p13 =>
     intro x wx A rest hDf hF hS hE H K hK0
     replace hDf:=Lib.hid hDf
     have e47:A.tmps[47]?.getD undef=.slice A0 286 c0:=((hS 6 (by decide)).2 47 rfl).trans (hS 6 (by decide)).1
     have e53:A.tmps[53]?.getD undef=.int .i64 (uA:Int):=((hS 12 (by decide)).2 53 rfl).trans (hS 12 (by decide)).1
     replace H:Sp w0 (rest) wx:=H
     have hK:Hid (∀(v:Value) (w' : World),v=.slice A0 uA c0->Sp w0 (rest) w'->K (A.put (some 54) v) w'):=Lib.hid hK0
     clear hK0 hF hS hE
     have hu:(uA:Int)<=(c0:Int):=by omega
     change Oper.wp _ _ A wx K _
     go_step
     exact hK.out _ _ rfl (H)
    case p18 =>
     intro x wx A rest hDf hF hS hE H K hK0
     replace hDf:=Lib.hid hDf
     have e58:A.tmps[58]?.getD undef=.pointer (some ⟨g,5,none⟩):=((hS 17 (by decide)).2 58 rfl).trans (hS 17 (by decide)).1
     replace H:Sp w0 ((Bk g 165 [.slice V n c,.slice BA bn bc,.slice WA nW wc,.bool last,.slice A0 286 c0,.slice D0 30 d0,.slice none 0 0,.slice none 0 0])::rest) wx:=H
     have hK:Hid (∀(v:Value) (w' : World),v=.slice D0 30 d0->Sp w0 ((Bk g 165 [.slice V n c,.slice BA bn bc,.slice WA nW wc,.bool last,.slice A0 286 c0,.slice D0 30 d0,.slice none 0 0,.slice none 0 0])::rest) w'->K (A.put (some 59) v) w'):=Lib.hid hK0
     clear hK0 hF hS hE
     have c:=H.cell 0 rfl 5
     change Oper.wp _ _ A wx K _
     go_step
     exact hK.out _ _ rfl (H)
    case p23 =>
     intro x wx A rest hDf hF hS hE H K hK0
     replace hDf:=Lib.hid hDf
     have e63:A.tmps[63]?.getD undef=.pointer (some ⟨g,5,none⟩):=((hS 22 (by decide)).2 63 rfl).trans (hS 22 (by decide)).1
     replace H:Sp w0 ((Bk g 165 [.slice V n c,.slice BA bn bc,.slice WA nW wc,.bool last,.slice A0 286 c0,.slice D0 30 d0,.slice none 0 0,.slice none 0 0])::rest) wx:=H
     have hK:Hid (∀(v:Value) (w' : World),v=.slice D0 30 d0->Sp w0 ((Bk g 165 [.slice V n c,.slice BA bn bc,.slice WA nW wc,.bool last,.slice A0 286 c0,.slice D0 30 d0,.slice none 0 0,.slice none 0 0])::rest) w'->K (A.put (some 64) v) w'):=Lib.hid hK0
     clear hK0 hF hS hE
     have c:=H.cell 0 rfl 5
     change Oper.wp _ _ A wx K _
     go_step
     exact hK.out _ _ rfl (H)
    case p24 =>
     intro x wx A rest hDf hF hS hE H K hK0
     replace hDf:=Lib.hid hDf
     have e64:A.tmps[64]?.getD undef=.slice D0 30 d0:=((hS 23 (by decide)).2 64 rfl).trans (hS 23 (by decide)).1
     replace H:Sp w0 (rest) wx:=H
     have hK:Hid (∀(v:Value) (w' : World),v=.int .i64 (uD:Int)->Sp w0 (rest) w'->K (A.put (some 65) v) w'):=Lib.hid hK0
     clear hK0 hF hS
     have hr:=Lib.hid (hE (fun w=>Rd w D0 (cellsN LD)) (fun w0 w h=>rowRd h 0 rfl))
     have HZ:=Lib.hid H
     clear hE
     change Oper.wp _ _ A wx K _
     go_wp2_with fail
     refine(dused_ok D0 30 d0 LD 1 HZ.out hr.out HLDl.out.symm (by decide) (by decide)).mono ?_
     rw [HUD.out]
     rintro _ w9 ⟨rfl,H9⟩
     exact hK.out _ _ rfl H9
    case p25 =>
     intro x wx A rest hDf hF hS hE H K hK0
     replace hDf:=Lib.hid hDf
     have e59:A.tmps[59]?.getD undef=.slice D0 30 d0:=((hS 18 (by decide)).2 59 rfl).trans (hS 18 (by decide)).1
     have e65:A.tmps[65]?.getD undef=.int .i64 (uD:Int):=((hS 24 (by decide)).2 65 rfl).trans (hS 24 (by decide)).1
     replace H:Sp w0 (rest) wx:=H
     have hK:Hid (∀(v:Value) (w' : World),v=.slice D0 uD d0->Sp w0 (rest) w'->K (A.put (some 66) v) w'):=Lib.hid hK0
     clear hK0 hF hS hE
     have hu:(uD:Int)<=(d0:Int):=by omega
     change Oper.wp _ _ A wx K _
     go_step
     exact hK.out _ _ rfl (H)
    case p29 =>
     intro x wx A rest hDf hF hS hE H K hK0
     replace hDf:=Lib.hid hDf
     have e69:A.tmps[69]?.getD undef=.pointer (some ⟨g,4,none⟩):=((hS 28 (by decide)).2 69 rfl).trans (hS 28 (by decide)).1
     have e54:A.tmps[54]?.getD undef=.slice A0 uA c0:=((hS 13 (by decide)).2 54 rfl).trans (hS 13 (by decide)).1
     replace H:Sp w0 ((Bk g 165 [.slice V n c,.slice BA bn bc,.slice WA nW wc,.bool last,.slice A0 286 c0,.slice D0 30 d0,.slice none 0 0,.slice none 0 0])::rest) wx:=H
     have hK:Hid (∀(v:Value) (w' : World),v=undef->Sp w0 ((Bk g 165 [.slice V n c,.slice BA bn bc,.slice WA nW wc,.bool last,.slice A0 uA c0,.slice D0 30 d0,.slice none 0 0,.slice none 0 0])::rest) w'->K (A.put none v) w'):=Lib.hid hK0
     clear hK0 hF hS hE
     have z:=H.frozen 0 rfl 4
     have t:=H.cell 0 rfl 4
     change Oper.wp _ _ A wx K _
     go_step
     exact hK.out _ _ rfl (H.set 4 (.slice A0 uA c0))
    case p33 =>
     intro x wx A rest hDf hF hS hE H K hK0
     replace hDf:=Lib.hid hDf
     have e72:A.tmps[72]?.getD undef=.pointer (some ⟨g,5,none⟩):=((hS 32 (by decide)).2 72 rfl).trans (hS 32 (by decide)).1
     have e66:A.tmps[66]?.getD undef=.slice D0 uD d0:=((hS 25 (by decide)).2 66 rfl).trans (hS 25 (by decide)).1
     replace H:Sp w0 ((Bk g 165 [.slice V n c,.slice BA bn bc,.slice WA nW wc,.bool last,.slice A0 uA c0,.slice D0 30 d0,.slice none 0 0,.slice none 0 0])::rest) wx:=H
     have hK:Hid (∀(v:Value) (w' : World),v=undef->Sp w0 ((Bk g 165 [.slice V n c,.slice BA bn bc,.slice WA nW wc,.bool last,.slice A0 uA c0,.slice D0 uD d0,.slice none 0 0,.slice none 0 0])::rest) w'->K (A.put none v) w'):=Lib.hid hK0
     clear hK0 hF hS hE
     have z:=H.frozen 0 rfl 5
     have t:=H.cell 0 rfl 5
     change Oper.wp _ _ A wx K _
     go_step
     exact hK.out _ _ rfl (H.set 5 (.slice D0 uD d0))
   case hend =>
    intro x wx A hA hS H
    replace H:Sp w0 ((Bk g 165 [.slice V n c,.slice BA bn bc,.slice WA nW wc,.bool last,.slice A0 uA c0,.slice D0 uD d0,.slice none 0 0,.slice none 0 0])::Row 3 1 (.slice D0 30 d0) 30 (cellsN LD)::Row 3 1 (.slice A0 286 c0) 286 (cellsN LA)::Row 194 4 (.slice WA nW wc) nW (cellsW W)::L) wx:=H
    clear hS
    simp only [putAll,Act.put,List.setIfInBounds_toArray,List.set_cons_succ,List.set_cons_zero,Nat.reduceAdd] at hA
    subst hA
    have h2:=(H.pick 3 [1,0,2]).rowCut uD hu2.2
    rw [Nat.mul_one,cellsN_take,HCD.out] at h2
    have h3:=(h2.pick 3 [2,0,1]).rowCut uA hu1.2
    rw [Nat.mul_one,cellsN_take,HCA.out] at h3
    have HX5:=Lib.hid (h3.pick 3 [2,1,0])
    clear H HX4 h2 h3
    go_wp2_with fail
    refine wp_region_sc (L:=Row 3 1 (.slice D0 uD d0) uD (cellsN CD)::Row 3 1 (.slice A0 uA c0) uA (cellsN CA)::Row 194 4 (.slice WA nW wc) nW (cellsW W)::L) [some (.pointer (some ⟨g,0,none⟩)),some (.pointer (some ⟨g,0,none⟩)),some (.pointer (some ⟨g,0,none⟩)),some (.pointer (some ⟨g,4,none⟩)),some (.pointer (some ⟨g,4,none⟩)),some (.slice A0 uA c0),none,some (.pointer (some ⟨g,0,none⟩)),some (.pointer (some ⟨g,0,none⟩)),some (.pointer (some ⟨g,4,none⟩)),some (.pointer (some ⟨g,5,none⟩)),some (.slice D0 uD d0),none,none,some (.pointer (some ⟨g,0,none⟩)),some (.pointer (some ⟨g,6,none⟩)),some (undef)] (fun ix vx=>match ix with | 6=>(fun _=>True) vx | 12=>(fun _=>True) vx | 13=>(fun _=>True) vx | _=>True) (fun ix vx=>match ix with | 6=>(fun vv=>[Row 3 1 vv uA (cellsN CA)]) vx | 12=>(fun vv=>[Row 3 1 vv (uA+uD) (cellsN (CA++CD))]) vx | 13=>(fun vv=>[Row 194 4 vv RW.length (cellsW RW)]) vx | 16=>(fun _=>[Ex fun vv=>Star (Bk g 165 [.slice V n c,.slice BA bn bc,.slice WA nW wc,.bool last,.slice A0 uA c0,.slice D0 uD d0,vv,.slice none 0 0]) (Row 194 4 vv RW.length (cellsW RW))]) vx | _=>[]) (fun ix=>match ix with | 16=>[Bk g 165 [.slice V n c,.slice BA bn bc,.slice WA nW wc,.bool last,.slice A0 uA c0,.slice D0 uD d0,.slice none 0 0,.slice none 0 0]] | _=>[]) 17 102
     [some 73,some 74,some 75,some 76,some 77,some 78,some 79,some 80,some 81,some 82,some 83,some 84,some 85,some 86,some 87,some 88,none]
     [[],[],[1],[2],[3],[4],[5],[],[7],[8],[9],[10],[6,11,6],[12,12],[0,0,1,2,3,4,5,6,7,8,9,10,11,12,13],[14,0,1,2,3,4,5,6,7,8,9,10,11,12,13],[15,13,13,0,1,2,3,4,5,6,7,8,9,10,11,12,13]]
     [[],[],[1],[1,2],[1,2,3],[1,2,3,4],[1,2,3,4,5],[],[7],[7,8],[7,8,9],[7,8,9,10],[1,2,3,4,5,6,7,8,9,10,11],[1,2,3,4,5,6,7,8,9,10,11,12],[0,1,2,3,4,5,6,7,8,9,10,11,12,13],[0,1,2,3,4,5,6,7,8,9,10,11,12,13,14],[0,1,2,3,4,5,6,7,8,9,10,11,12,13,14,15]]
     [[],[],[],[],[],[],[],[],[],[],[],[],[6],[12],[],[],[13]] [[],[],[],[],[],[16],[],[],[],[],[],[16],[],[],[],[],[]] [(7,.pointer (some ⟨g,0,none⟩))]
     (by kernel_rfl) rfl (by decide) (by rfl) (by decide +kernel) rfl rfl (by simp) (HX5.out) ?hstep ?hend
    case hstep =>
     refine⟨?p0,⟨?p1,⟨?p2,⟨?p3,⟨?p4,⟨?p5,⟨?p6,⟨?p7,⟨?p8,⟨?p9,⟨?p10,⟨?p11,⟨?p12,⟨?p13,⟨?p14,⟨?p15,⟨?p16,trivial⟩⟩⟩⟩⟩⟩⟩⟩⟩⟩⟩⟩⟩⟩⟩⟩⟩
     case p0 | p1 | p2 | p3 | p4 | p7 | p8 | p9 | p10 | p14 | p15 =>
      intro x wx A rest hDf hF hS hE H K hK
      replace hK:=Lib.hid hK
      clear hS hE hDf
      repeat (obtain⟨_,hF⟩:=hF)
      change Oper.wp _ _ A wx K _
      go_step
      exact hK.out _ _ rfl H
     case p5 =>
      intro x wx A rest hDf hF hS hE H K hK0
      replace hDf:=Lib.hid hDf
      have e77:A.tmps[77]?.getD undef=.pointer (some ⟨g,4,none⟩):=((hS 4 (by decide)).2 77 rfl).trans (hS 4 (by decide)).1
      replace H:Sp w0 ((Bk g 165 [.slice V n c,.slice BA bn bc,.slice WA nW wc,.bool last,.slice A0 uA c0,.slice D0 uD d0,.slice none 0 0,.slice none 0 0])::rest) wx:=H
      have hK:Hid (∀(v:Value) (w' : World),v=.slice A0 uA c0->Sp w0 ((Bk g 165 [.slice V n c,.slice BA bn bc,.slice WA nW wc,.bool last,.slice A0 uA c0,.slice D0 uD d0,.slice none 0 0,.slice none 0 0])::rest) w'->K (A.put (some 78) v) w'):=Lib.hid hK0
      clear hK0 hF hS hE
      have c:=H.cell 0 rfl 4
      change Oper.wp _ _ A wx K _
      go_step
      exact hK.out _ _ rfl (H)
     case p6 =>
      intro x wx A rest hDf hF hS hE H K hK0
      replace hDf:=Lib.hid hDf
      have e78:A.tmps[78]?.getD undef=.slice A0 uA c0:=((hS 5 (by decide)).2 78 rfl).trans (hS 5 (by decide)).1
      replace H:Sp w0 (rest) wx:=H
      have hK:Hid (∀(v:Value) (w' : World),True->Sp w0 ((Row 3 1 v uA (cellsN CA))::rest) w'->K (A.put (some 79) v) w'):=Lib.hid hK0
      clear hK0 hF hS
      have hrd:Rd wx A0 (cellsN CA):=hE (fun w=>Rd w A0 (cellsN CA)) (fun w0 w h=>rowRd h 1 rfl) _ _ H
      have hl:(cellsN CA).length=uA:=by unfold cellsN; rw [List.length_map,HCAl.out]
      clear hE
      change Oper.wp _ _ A wx K _
      refine wp_append_sp _ _ 58 rfl 3 i0 (.int .i64 0) 1 8 Tryd.underlying58 hi hz0 hz1 hz2 rfl (by decide) (.slice none 0 0) 0 [] rfl (H.rowNil _ _) A0 uA c0 (cellsN CA) (ev e78) (by rw [hl,Nat.mul_one]) hrd (dcellsN_one _) (by unfold maxLen; omega) (by omega) ?_
      intro v1 w2 H2 _
      have h3:=H2
      first | rw [List.nil_append,Nat.zero_add] at h3 | rw [List.nil_append] at h3 | skip
      exact hK.out _ _ trivial h3
     case p11 =>
      intro x wx A rest hDf hF hS hE H K hK0
      replace hDf:=Lib.hid hDf
      have e83:A.tmps[83]?.getD undef=.pointer (some ⟨g,5,none⟩):=((hS 10 (by decide)).2 83 rfl).trans (hS 10 (by decide)).1
      replace H:Sp w0 ((Bk g 165 [.slice V n c,.slice BA bn bc,.slice WA nW wc,.bool last,.slice A0 uA c0,.slice D0 uD d0,.slice none 0 0,.slice none 0 0])::rest) wx:=H
      have hK:Hid (∀(v:Value) (w' : World),v=.slice D0 uD d0->Sp w0 ((Bk g 165 [.slice V n c,.slice BA bn bc,.slice WA nW wc,.bool last,.slice A0 uA c0,.slice D0 uD d0,.slice none 0 0,.slice none 0 0])::rest) w'->K (A.put (some 84) v) w'):=Lib.hid hK0
      clear hK0 hF hS hE
      have c:=H.cell 0 rfl 5
      change Oper.wp _ _ A wx K _
      go_step
      exact hK.out _ _ rfl (H)
     case p12 =>
      intro x wx A rest hDf hF hS hE H K hK0
      replace hDf:=Lib.hid hDf
      have q79:True:=(hS 6 (by decide)).1
      have e79:A.tmps[79]?.getD undef=x 6:=(hS 6 (by decide)).2 79 rfl
      have e84:A.tmps[84]?.getD undef=.slice D0 uD d0:=((hS 11 (by decide)).2 84 rfl).trans (hS 11 (by decide)).1
      replace H:Sp w0 ((Row 3 1 (x 6) uA (cellsN CA))::rest) wx:=H
      have hK:Hid (∀(v:Value) (w' : World),True->Sp w0 ((Row 3 1 v (uA+uD) (cellsN (CA++CD)))::rest) w'->K (A.put (some 85) v) w'):=Lib.hid hK0
      clear hK0 hF hS
      have hrd:Rd wx D0 (cellsN CD):=hE (fun w=>Rd w D0 (cellsN CD)) (fun w0 w h=>rowRd h 0 rfl) _ _ H.tail
      have hl:(cellsN CD).length=uD:=by unfold cellsN; rw [List.length_map,HCDl.out]
      clear hE
      change Oper.wp _ _ A wx K _
      refine wp_append_sp _ _ 58 rfl 3 i0 (.int .i64 0) 1 8 Tryd.underlying58 hi hz0 hz1 hz2 rfl (by decide) (x 6) uA (cellsN CA) (ev e79) H D0 uD d0 (cellsN CD) (ev e84) (by rw [hl,Nat.mul_one]) hrd (dcellsN_one _) (by unfold maxLen; omega) (by omega) ?_
      intro v1 w2 H2 _
      rw [<- cellsN_app] at H2
      exact hK.out _ _ trivial H2
     case p13 =>
      intro x wx A rest hDf hF hS hE H K hK0
      replace hDf:=Lib.hid hDf
      have q85:True:=(hS 12 (by decide)).1
      have e85:A.tmps[85]?.getD undef=x 12:=(hS 12 (by decide)).2 85 rfl
      replace H:Sp w0 ((Row 3 1 (x 12) (uA+uD) (cellsN (CA++CD)))::rest) wx:=H
      have hK:Hid (∀(v:Value) (w' : World),True->Sp w0 ((Row 194 4 v RW.length (cellsW RW))::rest) w'->K (A.put (some 86) v) w'):=Lib.hid hK0
      clear hK0 hF hS
      obtain⟨r9,hr9⟩:∃r,x 12=r:=⟨_,rfl⟩
      rw [hr9] at e85 H
      obtain⟨A9,c9,rfl,_,_⟩:=Row.form H 0 rfl
      clear hE hr9
      have hR:=Lib.hid (drows_ok A9 (uA+uD) c9 (CA++CD) H (fun w0 w h=>rowRd h 0 rfl) (by rw [List.length_append,HCAl.out,HCDl.out]) (by omega) H15.out)
      rw [HRW.out] at hR
      change Oper.wp _ _ A wx K _
      go_wp2_with fail
      refine hR.out.mono ?_
      rintro _ w9 ⟨v0,rfl,H9⟩
      exact hK.out _ _ trivial (H9.pick 2 [0])
     case p16 =>
      intro x wx A rest hDf hF hS hE H K hK0
      replace hDf:=Lib.hid hDf
      have e88:A.tmps[88]?.getD undef=.pointer (some ⟨g,6,none⟩):=((hS 15 (by decide)).2 88 rfl).trans (hS 15 (by decide)).1
      have q86:True:=(hS 13 (by decide)).1
      have e86:A.tmps[86]?.getD undef=x 13:=(hS 13 (by decide)).2 86 rfl
      replace H:Sp w0 ((Bk g 165 [.slice V n c,.slice BA bn bc,.slice WA nW wc,.bool last,.slice A0 uA c0,.slice D0 uD d0,.slice none 0 0,.slice none 0 0])::(Row 194 4 (x 13) RW.length (cellsW RW))::rest) wx:=H
      have hK:Hid (∀(v:Value) (w' : World),v=undef->Sp w0 ((Ex fun vv=>Star (Bk g 165 [.slice V n c,.slice BA bn bc,.slice WA nW wc,.bool last,.slice A0 uA c0,.slice D0 uD d0,vv,.slice none 0 0]) (Row 194 4 vv RW.length (cellsW RW)))::rest) w'->K (A.put none v) w'):=Lib.hid hK0
      clear hK0 hF hS hE
      obtain⟨r9,hr9⟩:∃r,x 13=r:=⟨_,rfl⟩
      rw [hr9] at e86 H
      obtain⟨A9,c9,rfl,_,_⟩:=Row.form H 1 rfl
      have z:=H.frozen 0 rfl 6
      have t:=H.cell 0 rfl 6
      clear hr9
      change Oper.wp _ _ A wx K _
      go_step
      exact hK.out _ _ rfl (Sp.ex (.slice A9 RW.length c9) (Sp.star (H.set 6 (.slice A9 RW.length c9))))
    case hend =>
     intro x wx A hA hS H
     replace H:Sp w0 ((Ex fun vv=>Star (Bk g 165 [.slice V n c,.slice BA bn bc,.slice WA nW wc,.bool last,.slice A0 uA c0,.slice D0 uD d0,vv,.slice none 0 0]) (Row 194 4 vv RW.length (cellsW RW)))::Row 3 1 (.slice D0 uD d0) uD (cellsN CD)::Row 3 1 (.slice A0 uA c0) uA (cellsN CA)::Row 194 4 (.slice WA nW wc) nW (cellsW W)::L) wx:=H
     clear hS
     simp only [putAll,Act.put,List.setIfInBounds_toArray,List.set_cons_succ,List.set_cons_zero,Nat.reduceAdd] at hA
     subst hA
     have HZ4:=Lib.hid (Eq.refl (0:Nat))
     clear HX5
     skip
     obtain⟨vv,H⟩:=H.unex
     replace H:=H.unstar
     obtain⟨RA,rc,rfl,_,_⟩:=Row.form H 1 rfl
     have c6:=H.cell 0 rfl 6
     have z7:=H.frozen 0 rfl 7
     simp only [List.getElem?_cons_zero,List.getElem?_cons_succ] at c6
     have HQ:=Lib.hid H
     have HCN:=Lib.hid (dcounts_ok RA RW.length rc RW 0 19 H (fun w0 w h=>rowRd h 1 rfl) rfl (by have:=HRL.out; omega) (by decide) HSRS.out)
     rw [HSR.out] at HCN
     clear H HZ4
     go_wp2_with fail
     refine HCN.out.mono ?_
     rintro _ w7 ⟨v7,rfl,H7⟩
     have HLN:=Lib.hid (dlens_ok v7 19 (PI.cnts 19 SR) 7 H7 (by rw [PI.cnts_len]) (by decide) (by decide) (by decide) (cnts_le _ _ (by have:=HSRL.out; omega)) (Nat.le_trans (PI.items_le _) (by rw [PI.cnts_len]; decide)))
     rw [HF7.out] at HLN
     clear HCN H7 c6 z7
     go_wp2_with fail
     refine HLN.out.mono ?_
     rintro _ w8 ⟨v8,rfl,H8⟩
     obtain⟨FA,fc,rfl,_,_⟩:=Row.form H8 0 rfl
     have c7:=H8.cell 1 rfl 7
     have z7:=H8.frozen 1 rfl 7
     have HE:=Lib.hid ((H8.swap.set 7 (.slice FA 19 fc)).pick 6 [0,5,4,3,2,1])
     have HF7l:F7.length=19:=by rw [<- HF7.out,PL.lens_len,PI.cnts_len]
     have HFL:=Lib.hid HF7l
     clear HLN HQ H8 HF7l
     go_wp2
     go_ret
     refine⟨g,rfl,Blo.shut ⟨BA,WA,A0,D0,RA,FA,bc,wc,c0,d0,rc,fc⟩ ?_⟩
     have h:=HE.out
     simp only [<- HWN.out,HCAl.out,HCDl.out,HFL.out,<- HBN.out]
     exact h
end Go.Proofs.YtloijdbkikccgaaDoor

