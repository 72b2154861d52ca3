/- A pack. -/
import Derived.Test.YtnjpnmpemhldcaaGreatDoorPk32
set_option linter.all false
set_option maxRecDepth 100000
set_option maxHeartbeats 8000000
namespace Go.Proofs.YtnjpnmpemhldcaaGreatDoor
variable {w0 w:World} {L:List Pr}
open Go.RowKit
def tuF:Value->Nat->Value
 | .tuple a,i=>a.getD i undef
 | _,_=>undef
theorem XY (m:List Nat):cells64 (castN m)=cellsN m:=by unfold cells64 castN cellsN; rw [List.map_map]; rfl
theorem Xv (v:Value) (n:Nat) (cs:List Nat) (lm:Nat) (H:Sp w0 (Row 3 1 v n (cellsN cs)::L) w) (hn:n=cs.length) (hl:n<=1024) (h1:1<=lm) (h15:lm<=15) (hc:∀x ∈ cs,x<=4294967296) (hk:(PL.items cs).length<=2 ^ lm) :
  Calls Tryz.prog 80 #[v,.int .i64 lm] w fun e w'=>∃u,e=.returned (.tuple #[u,.int .i64 0])/\Sp w0 (Row 3 1 u n (cellsN (PL.lens cs lm))::L) w':=by
 obtain⟨A,c,rfl,_,_⟩:=Row.form H 0 rfl;refine(WH A n c cs lm H hn (fun w0 w h=>by rw [XY]; exact rowRd h 0 rfl) hl h1 h15 hc hk).mono ?_;rintro _ w' ⟨u,rfl,h⟩;exact⟨u,rfl,h.pick 2 [0]⟩
theorem cnts_le (n:Nat) (l:List Nat) (h:l.length<=4294967296):∀x ∈ PI.cnts n l,x<=4294967296:=by
 intro x a;unfold PI.cnts at a;obtain⟨i,_,rfl⟩:=List.mem_map.1 a;exact Nat.le_trans List.count_le_length h
def Blo (g:Nat) (sv:Value) (BA:Option Addr) (bc:Nat) (p:BP):Pr:=Ex fun dv:DV=>Star (Bk g 144 [sv,.slice BA p.b.length bc,.slice dv.w p.W.length dv.wc,.bool p.last,.slice dv.a p.A.length dv.ac,.slice dv.d p.D.length dv.dc,.slice dv.r p.R.length dv.rc,.slice dv.f p.F.length dv.fc])
 (Star (Row 179 4 (.slice dv.w p.W.length dv.wc) p.W.length (Zd p.W)) (Star (Row 3 1 (.slice dv.a p.A.length dv.ac) p.A.length (cellsN p.A)) (Star (Row 3 1 (.slice dv.d p.D.length dv.dc) p.D.length (cellsN p.D)) (Star (Row 179 4 (.slice dv.r p.R.length dv.rc) p.R.length (Zd p.R)) (Row 3 1 (.slice dv.f p.F.length dv.fc) p.F.length (cellsN p.F))))))
theorem Blo.shut {g:Nat} {sv:Value} {BA:Option Addr} {bc:Nat} {p:BP} (dv:DV) (H:Sp w0 (Bk g 144 [sv,.slice BA p.b.length bc,.slice dv.w p.W.length dv.wc,.bool p.last,.slice dv.a p.A.length dv.ac,.slice dv.d p.D.length dv.dc,.slice dv.r p.R.length dv.rc,.slice dv.f p.F.length dv.fc] ::
  Row 179 4 (.slice dv.w p.W.length dv.wc) p.W.length (Zd p.W)::Row 3 1 (.slice dv.a p.A.length dv.ac) p.A.length (cellsN p.A)::Row 3 1 (.slice dv.d p.D.length dv.dc) p.D.length (cellsN p.D)::Row 179 4 (.slice dv.r p.R.length dv.rc) p.R.length (Zd p.R)::Row 3 1 (.slice dv.f p.F.length dv.fc) p.F.length (cellsN p.F)::L) w):Sp w0 (Blo g sv BA bc p::L) w:=by
 have a:=(H.pick 6 [4,5,3,2,1,0]).star;have b:=(a.pick 2 [1,0]).star;have c:=(b.pick 2 [1,0]).star;have d:=(c.pick 2 [1,0]).star;have e:=(d.pick 2 [1,0]).star;exact Sp.ex dv e
theorem Blo.open {g:Nat} {sv:Value} {BA:Option Addr} {bc:Nat} {p:BP} (H:Sp w0 (Blo g sv BA bc p::L) w) (hby:Ent L fun w=>Byt w (.slice BA p.b.length bc) p.b):∃dv L2,Sp w0 (L2++L) w/\Ent (L2++L) (DBr g dv p)/\∀φ,Ent L φ->Ent (L2++L) φ:=by
 obtain⟨dv,H⟩:=H.unex;have a:=H.unstar;have c:=(a.pick 2 [1,0]).unstar;have d:=(c.pick 3 [1,0,2]).unstar;have e:=(d.pick 4 [1,0,2,3]).unstar;have f:=(e.pick 5 [1,0,2,3,4]).unstar;exact⟨{ dv with b:=BA,bc:=bc },[_,_,_,_,_,_],f.pick 6 [5,4,3,2,0,1],fun w0 w h=>⟨h.cell 0 rfl 1,h.cell 0 rfl 2,h.cell 0 rfl 3,h.cell 0 rfl 4,h.cell 0 rfl 5,h.cell 0 rfl 6,h.cell 0 rfl 7,hby _ _ (h.pick 6 []),rowRd h 1 rfl,rowRd h 2 rfl,rowRd h 3 rfl,rowRd h 4 rfl,rowRd h 5 rfl⟩,fun φ hφ w0 w h=>hφ _ _ (h.pick 6 [])⟩
theorem YJ (l:List Nat):∀u ∈ cellsN l,u.oneCell'=true:=by
 intro u a;obtain⟨x,_,rfl⟩:=List.mem_map.1 a;rfl
theorem YK (l:List Nat) (k:Nat):(cellsN l).take k=cellsN (l.take k):=by unfold cellsN; rw [List.map_take]
theorem Wp (Y:List PM.St) (hY:∀s ∈ Y,PD.StOk s):∀t ∈ PD.wds Y,(t.1=0->t.2.1<286)/\(t.1=1->t.2.1<30):=by
 intro t c;unfold PD.wds at c;obtain⟨s,d,a⟩:=List.mem_flatMap.1 c;have b:=hY s d;unfold PD.wd at a;split at a
 ·rw [List.mem_singleton.1 a];have:=s.2.2.toNat_lt;exact⟨fun _=>by show s.2.2.toNat<286; omega,fun h=>absurd (show(0:Nat)=1 from h) (by decide)⟩
 ·rename_i hne
  rcases b with h1 | h1
  ·exact absurd h1 hne
  ·obtain⟨e,_,_⟩:=PI.longS_lt s.1 h1.1 h1.2.1;obtain⟨f,_,_⟩:=PI.farS_lt s.2.1 h1.2.2.1 h1.2.2.2;simp only [List.mem_cons,List.not_mem_nil,or_false] at a;rcases a with rfl | rfl
   ·exact⟨fun _=>by show 257+(PI.longS s.1).1<286; omega,fun h=>absurd (show(0:Nat)=1 from h) (by decide)⟩
   ·exact⟨fun h=>absurd (show(1:Nat)=0 from h) (by decide),fun _=>by show(PI.farS s.2.1).1<30; omega⟩
theorem XZ {Y:List PM.St} (hY:∀s ∈ Y,PD.StOk s):∀t ∈ PD.words Y,t.1=0->t.2.1<286:=by
 intro t a b;unfold PD.words at a;rcases List.mem_append.1 a with h | h
 ·exact(Wp Y hY t h).1 b
 ·rw [List.mem_singleton.1 h]; show 256<286; decide
theorem X0 {Y:List PM.St} (hY:∀s ∈ Y,PD.StOk s):∀t ∈ PD.words Y,t.1=1->t.2.1<30:=by
 intro t b a;unfold PD.words at b;rcases List.mem_append.1 b with h | h
 ·exact(Wp Y hY t h).2 a
 ·rw [List.mem_singleton.1 h] at a; exact absurd (show(0:Nat)=1 from a) (by decide)
theorem VT (V BA:Option Addr) (n c bn bc:Nat) (Y:List PM.St) (b:List UInt8) (last:Bool) {TL TF:Option Addr} {cl cf:Nat} (H:Sp w0 L w) (hT:Ent L (DTabs TL TF cl cf)) (hn:n=Y.length) (hnm:n<=100000) (h:Ent L fun w=>StAt w V Y) (hY:∀s ∈ Y,PD.StOk s)
  (hbn:bn=b.length) :
  Calls Tryz.prog 48 #[.slice V n c,.slice BA bn bc,.bool last] w fun e w'=>∃g,e=.returned (.pointer (some ⟨g,0,none⟩))/\Sp w0 (Blo g (.slice V n c) BA bc (BP.of Y b last)::L) w':=by
 obtain⟨i0,hi,e2,e3,e4⟩:=info_parts infoInt;obtain⟨W,hW⟩:∃W,PD.words Y=W:=⟨_,rfl⟩;obtain⟨SA,a2⟩:∃S,PD.signsOf 0 W=S:=⟨_,rfl⟩;obtain⟨SD,a3⟩:∃S,PD.signsOf 1 W=S:=⟨_,rfl⟩;obtain⟨D,a4⟩:∃l,PL.lens (PI.cnts 286 SA) 15=l:=⟨_,rfl⟩;obtain⟨F,a5⟩:∃l,PL.lens (PI.cnts 30 SD) 15=l:=⟨_,rfl⟩;have b4:∀t ∈ W,t.1=0->t.2.1<286:=by
  rw [<- hW]; exact XZ hY
 have b5:∀t ∈ W,t.1=1->t.2.1<30:=by
  rw [<- hW]; exact X0 hY
 have e5:W.length<=2 * n+1:=by rw [<- hW,hn]; exact PD.words_len Y
 have b6:SA.length<=W.length:=by rw [<- a2]; unfold PD.signsOf; rw [List.length_map]; exact List.length_filter_le _ _
 have b7:SD.length<=W.length:=by rw [<- a3]; unfold PD.signsOf; rw [List.length_map]; exact List.length_filter_le _ _
 have b8:PD.lenA Y=PD.cut D 257:=by unfold PD.lenA; rw [show PI.lensA (PD.toks Y)=D by rw [<- a4,<- a2,<- hW,PD.signs0]; rfl]
 have b9:PD.lenB Y=PD.cut F 1:=by unfold PD.lenB; rw [show PI.lensB (PD.toks Y)=F by rw [<- a5,<- a3,<- hW,PD.signs1]; rfl]
 have N:D.length=286:=by rw [<- a4,PL.lens_len,PI.cnts_len]
 have O:F.length=30:=by rw [<- a5,PL.lens_len,PI.cnts_len]
 obtain⟨u,a6⟩:∃k,W.length=k:=⟨_,rfl⟩;obtain⟨uA,a7⟩:∃k,PD.used D 257 286=k:=⟨_,rfl⟩;obtain⟨uD,a8⟩:∃k,PD.used F 1 30=k:=⟨_,rfl⟩;have g1:257<=uA/\uA<=286:=by rw [<- a7]; exact⟨PD.used_least D 257 286 (by decide),PD.used_le D 257 286⟩
 have g2:1<=uD/\uD<=30:=by rw [<- a8]; exact⟨PD.used_least F 1 30 (by decide),PD.used_le F 1 30⟩
 obtain⟨CA,a9⟩:∃l,D.take uA=l:=⟨_,rfl⟩;obtain⟨CD,b0⟩:∃l,F.take uD=l:=⟨_,rfl⟩;have b1:PD.lenA Y=CA:=by rw [b8]; unfold PD.cut; rw [N,a7,a9]
 have b2:PD.lenB Y=CD:=by rw [b9]; unfold PD.cut; rw [O,a8,b0]
 have c1:CA.length=uA:=by rw [<- a9,List.length_take]; omega
 have c2:CD.length=uD:=by rw [<- b0,List.length_take]; omega
 obtain⟨RW,P⟩:∃l,(PD.rowY Y).map PD.rwd=l:=⟨_,rfl⟩;have Q:(PD.row (CA++CD)).map PD.rwd=RW:=by rw [<- P,PD.rowY,b1,b2]
 have e6:∀x ∈ CA++CD,x<=15:=by rw [<- b1,<- b2]; exact PD.rowY_15 Y
 obtain⟨SR,b3⟩:∃l,PD.signsOf 0 RW=l:=⟨_,rfl⟩;have c3:SR=(PD.rowY Y).map Prod.fst:=by rw [<- b3,<- P,PD.signs_row]
 obtain⟨F7,d2⟩:∃l,PL.lens (PI.cnts 19 SR) 7=l:=⟨_,rfl⟩;have e7:PD.fst7 Y=F7:=by rw [<- d2,c3]; rfl
 have d3:RW.length<=316:=by
  rw [<- Q,List.length_map];have hl:=PD.rl_len (CA++CD).length 0 (CA++CD);have g3:(CA++CD).length<=316:=by rw [List.length_append]; omega
  exact Nat.le_trans hl g3
 have c4:∀t ∈ RW,t.1=0->t.2.1<19:=by
  intro t ht _;rw [<- P] at ht;obtain⟨q,hq,rfl⟩:=List.mem_map.1 ht;exact(PD.rl_small _ _ _ (PD.rowY_15 Y) q hq).1
 have c5:SR.length<=316:=by rw [<- b3]; unfold PD.signsOf; rw [List.length_map]; exact Nat.le_trans (List.length_filter_le _ _) d3
 have e8:BP.of Y b last=⟨b,W,last,CA,CD,RW,F7⟩:=by unfold BP.of; rw [hW,b1,b2,P,e7]
 rw [e8];rw [a6] at e5 b6 b7;have g4:=hid a4;have g5:=hid a5;have e9:Hid (SA.length<=200001):=hid (by omega);have f0:Hid (SD.length<=200001):=hid (by omega);have g6:Hid (PD.signsOf 0 W=SA):=hid a2;have g7:Hid (PD.signsOf 1 W=SD):=hid a3;have g8:=hid b4;have g9:=hid b5;have d4:Hid (u=W.length):=hid a6.symm;have h0:=hid a7;have h1:=hid a8;have h4:=hid a9;have h5:=hid b0;have f1:=hid N;have f2:=hid O;have R:=hid c1;have T:=hid c2;have h6:=hid Q;have h7:=hid e6;have f3:=hid d2;have h8:=hid b3;have h9:=hid d3;have f4:=hid c4;have f5:=hid c5;have i1:=hid hbn;have j5:u<=200001:=by omega
 have d5:=hid (VP V n c Y H hT hn (by omega) h hY);rw [hW,a6] at d5;clear hn h hT hY hbn hW a2 a3 a4 a5 b4 b5 e5 b6 b7 b8 b9 N O a6 a7 a8 a9 b0 b1 b2 c1 c2 P Q e6 b3 c3 d2 e7 d3 c4 c5 e8 H;go_enter Tryz.func48,Tryz.ntmps48
 go_wp2_with fail
 refine d5.out.mono ?_;rintro _ w1 ⟨v1,rfl,H1⟩;obtain⟨y,wc,rfl,_,_⟩:=Row.form H1 0 rfl;have f6:Ent (Row 179 4 (.slice y u wc) u (Zd W)::L) fun w=>Rd w y (Zd W):=fun w0 w h=>rowRd h 0 rfl;have HX:=hid (H1.newBk [.slice V n c,.slice BA bn bc,.slice y u wc,.bool last,.slice none 0 0,.slice none 0 0,.slice none 0 0,.slice none 0 0] 144);have d6:=hid f6;clear d5 H1 f6;go_wp2_with fail
 generalize w1.heap.size=g at HX ⊢;refine Zn (L:=Row 179 4 (.slice y u wc) u (Zd W)::L) [some (.pointer (some ⟨g,0,none⟩)),some (.pointer (some ⟨g,0,none⟩)),some (.pointer (some ⟨g,0,none⟩)),some (.pointer (some ⟨g,2,none⟩)),some (.slice y u wc),none,none,none,none,some (.int .i64 0),some (.pointer (some ⟨g,0,none⟩)),some (.pointer (some ⟨g,4,none⟩)),some (.pointer (some ⟨g,4,none⟩)),some (undef)] (fun ix ux vx=>match ix with | 5=>(fun vv=>True) vx | 6=>(fun vv=>vv=.tuple #[tuF vv 0,.int .i64 0]) vx | 7=>(fun ux vv=>vv=ux) ux vx | 8=>(fun ux vv=>vv=tuF ux 0) ux vx | _=>True) (fun ix ux vx=>match ix with | 5=>(fun vv=>[Row 3 1 vv 286 (cellsN (PI.cnts 286 SA))]) vx | 6=>(fun vv=>[Row 3 1 (tuF vv 0) 286 (cellsN D)]) vx | 13=>(fun _=>[Bk g 144 [.slice V n c,.slice BA bn bc,.slice y u wc,.bool last,ux,.slice none 0 0,.slice none 0 0,.slice none 0 0],Row 3 1 ux 286 (cellsN D)]) vx | _=>[]) (fun ix=>match ix with | 13=>[Bk g 144 [.slice V n c,.slice BA bn bc,.slice y u wc,.bool last,.slice none 0 0,.slice none 0 0,.slice none 0 0,.slice none 0 0]] | _=>[]) 14 102
  [some 16,some 17,some 18,some 19,some 20,some 21,some 22,some 15,some 23,some 24,some 25,some 26,some 27,none]
  [[],[],[1],[2],[3],[4],[5,5],[6],[7],[7],[0],[10],[11,0,1,2,3,4,5,6,7,8],[12,8,6,0,1,2,3,4,5,6,7,8]]
  [[],[],[1],[1,2],[1,2,3],[1,2,3,4],[1,2,3,4,5],[1,2,3,4,5,6],[1,2,3,4,5,6,7],[1,2,3,4,5,6,7],[0],[0,10],[0,1,2,3,4,5,6,7,8,10,11],[0,1,2,3,4,5,6,7,8,10,11,12]]
  [[],[],[],[],[],[],[5],[],[],[],[],[],[],[6]] [[],[],[],[],[13],[],[],[],[],[],[],[],[],[]] [none,none,none,none,none,none,none,some 6,some 7,none,none,none,none,some 8] [(7,.pointer (some ⟨g,0,none⟩))]
  (by kernel_rfl) rfl (by decide) (by rfl) (by decide +kernel) rfl (by simp) (by rfl) (HX.out) ?hstep ?hend
 case hstep =>
  refine⟨?p0,⟨?p1,⟨?p2,⟨?p3,⟨?p4,⟨?p5,⟨?p6,⟨?p7,⟨?p8,⟨?p9,⟨?p10,⟨?p11,⟨?p12,⟨?p13,trivial⟩⟩⟩⟩⟩⟩⟩⟩⟩⟩⟩⟩⟩⟩
  case p0 | p1 | p2 | p3 | p10 | p11 | p12 =>
   intro x wx A a j f p H K i;replace i:=hid i;clear f p;repeat (obtain⟨_,j⟩:=j)
   refine so ?_;go_step;exact i.out _ _ rfl H
  case p4 =>
   intro x wx A a j f p H K d;have j6:A.tmps[19]?.getD undef=.pointer (some ⟨g,2,none⟩):=tq f 3;replace H:Sp w0 ((Bk g 144 [.slice V n c,.slice BA bn bc,.slice y u wc,.bool last,.slice none 0 0,.slice none 0 0,.slice none 0 0,.slice none 0 0])::a) wx:=H;have i:=hid d;clear d j f p;have c:=H.cell 0 rfl 2;refine so ?_;go_step;exact i.out _ _ rfl H
  case p5 =>
   intro x wx A a j f p H K d;have j7:A.tmps[20]?.getD undef=.slice y u wc:=tq f 4;have i:Hid (∀(v:Value) (w' : World),True->Sp w0 ((Row 3 1 v 286 (cellsN (PI.cnts 286 SA)))::a) w'->K (A.put (some 21) v) w'):=hid d;clear d j f;have hw:=hid (p _ d6.out);have U:=hid H;clear p;refine so ?_;go_wp2_with fail
   refine(Ym y u wc W 0 286 U.out hw.out d4.out (by omega) (by decide) g8.out).mono ?_;rw [g6.out];rintro _ w9 ⟨v0,rfl,M⟩;exact i.out _ _ trivial M
  case p6 =>
   intro x wx A a j f p H K d;have j8:True:=(f 5 (by decide)).1;have j9:A.tmps[21]?.getD undef=x 5:=(f 5 (by decide)).2 21 rfl;replace H:Sp w0 ((Row 3 1 (x 5) 286 (cellsN (PI.cnts 286 SA)))::a) wx:=H;have i:=hid d;clear d j f p;have U:=hid H;refine so ?_;go_wp2_with fail
   refine(Xv (x 5) 286 (PI.cnts 286 SA) 15 U.out (by rw [PI.cnts_len]) (by decide) (by decide) (by decide) (cnts_le _ _ (by have:=e9.out; omega)) (Nat.le_trans (PI.items_le _) (by rw [PI.cnts_len]; decide))).mono ?_;rw [g4.out];rintro _ w9 ⟨v0,rfl,M⟩;exact i.out _ _ rfl M
  case p7 =>
   intro x wx A a j f p H K d;have i2:(x 6)=.tuple #[tuF (x 6) 0,.int .i64 0]:=(f 6 (by decide)).1;have k0:A.tmps[22]?.getD undef=x 6:=(f 6 (by decide)).2 22 rfl;have i:=hid d;clear d j f p;clear i2;refine so ?_;go_step;exact i.out _ _ rfl H
  case p8 =>
   intro x wx A a j f p H K d;have d7:(x 7)=(x 6):=(f 7 (by decide)).1;have X:A.tmps[15]?.getD undef=x 7:=(f 7 (by decide)).2 15 rfl;have i:Hid (∀(v:Value) (w' : World),v=tuF (x 7) 0->Sp w0 (a) w'->K (A.put (some 23) v) w'):=hid d;clear d j;have G:x 7=x 6:=(f 7 (by decide)).1;have I:x 6=.tuple #[tuF (x 6) 0,.int .i64 0]:=(f 6 (by decide)).1;clear f;obtain⟨t0,E⟩:∃t,tuF (x 6) 0=t:=⟨_,rfl⟩;rw [E] at I;have J:=hid i;clear i;replace X:A.tmps[15]?.getD undef=.tuple #[t0,.int .i64 0]:=by rw [X,G,I]
   clear d7;refine so ?_;go_step;exact J.out _ _ (by rw [G,E]) H
  case p9 =>
   intro x wx A a j f p H K d;have d7:(x 7)=(x 6):=(f 7 (by decide)).1;have X:A.tmps[15]?.getD undef=x 7:=(f 7 (by decide)).2 15 rfl;have i:Hid (∀(v:Value) (w' : World),v=.int .i64 0->Sp w0 (a) w'->K (A.put (some 24) v) w'):=hid d;clear d j;have G:x 7=x 6:=(f 7 (by decide)).1;have I:x 6=.tuple #[tuF (x 6) 0,.int .i64 0]:=(f 6 (by decide)).1;clear f;obtain⟨t0,E⟩:∃t,tuF (x 6) 0=t:=⟨_,rfl⟩;rw [E] at I;have J:=hid i;clear i;replace X:A.tmps[15]?.getD undef=.tuple #[t0,.int .i64 0]:=by rw [X,G,I]
   clear d7;refine so ?_;go_step;exact J.out _ _ rfl H
  case p13 =>
   intro x wx A a j f p H K d;have k1:A.tmps[27]?.getD undef=.pointer (some ⟨g,4,none⟩):=tq f 12;have i3:(x 8)=tuF (x 7) 0:=(f 8 (by decide)).1;have i4:A.tmps[23]?.getD undef=x 8:=(f 8 (by decide)).2 23 rfl;replace H:Sp w0 ((Bk g 144 [.slice V n c,.slice BA bn bc,.slice y u wc,.bool last,.slice none 0 0,.slice none 0 0,.slice none 0 0,.slice none 0 0])::(Row 3 1 (tuF (x 6) 0) 286 (cellsN D))::a) wx:=H;have i:Hid (∀(v:Value) (w' : World),v=undef->Sp w0 ((Bk g 144 [.slice V n c,.slice BA bn bc,.slice y u wc,.bool last,(x 8),.slice none 0 0,.slice none 0 0,.slice none 0 0])::(Row 3 1 (x 8) 286 (cellsN D))::a) w'->K (A.put none v) w'):=hid d;clear d j;have G:x 7=x 6:=(f 7 (by decide)).1;have r8:x 8=tuF (x 7) 0:=(f 8 (by decide)).1;have I:x 6=.tuple #[tuF (x 6) 0,.int .i64 0]:=(f 6 (by decide)).1;clear f;replace r8:x 8=tuF (x 6) 0:=by rw [r8,G]
   rw [<- r8] at H;obtain⟨B,c0,ex,_,_⟩:=Row.form H 1 rfl;rw [ex] at i H i4;clear I G r8 i3;have z:=H.frozen 0 rfl 4;have t:=H.cell 0 rfl 4;refine so ?_;go_step;exact i.out _ _ rfl (H.set 4 (.slice B 286 c0))
 case hend =>
  intro x wx A Z f H;replace H:Sp w0 ((Bk g 144 [.slice V n c,.slice BA bn bc,.slice y u wc,.bool last,(x 8),.slice none 0 0,.slice none 0 0,.slice none 0 0])::(Row 3 1 (x 8) 286 (cellsN D))::Row 179 4 (.slice y u wc) u (Zd W)::L) wx:=H;clear f;simp only [putAll,Act.put,List.setIfInBounds_toArray,List.set_cons_succ,List.set_cons_zero,Nat.reduceAdd] at Z;subst Z;have HY:=hid H;clear H HX;obtain⟨o4,f7⟩:∃o,x 8=o:=⟨_,rfl⟩;rw [f7] at HY;clear f7;go_wp2_with fail
  have HX:=HY;clear HY;have c8:Ent (Row 3 1 o4 286 (cellsN D)::Row 179 4 (.slice y u wc) u (Zd W)::L) fun w=>Rd w y (Zd W):=fun w0 w h=>rowRd h 1 rfl;replace d6:=hid c8;clear c8;refine Zn (L:=Row 3 1 o4 286 (cellsN D)::Row 179 4 (.slice y u wc) u (Zd W)::L) [some (.pointer (some ⟨g,0,none⟩)),some (.pointer (some ⟨g,0,none⟩)),some (.pointer (some ⟨g,0,none⟩)),some (.pointer (some ⟨g,2,none⟩)),some (.slice y u wc),none,none,none,none,some (.int .i64 0),some (.pointer (some ⟨g,0,none⟩)),some (.pointer (some ⟨g,4,none⟩)),some (.pointer (some ⟨g,5,none⟩)),some (undef)] (fun ix ux vx=>match ix with | 5=>(fun vv=>True) vx | 6=>(fun vv=>vv=.tuple #[tuF vv 0,.int .i64 0]) vx | 7=>(fun ux vv=>vv=ux) ux vx | 8=>(fun ux vv=>vv=tuF ux 0) ux vx | _=>True) (fun ix ux vx=>match ix with | 5=>(fun vv=>[Row 3 1 vv 30 (cellsN (PI.cnts 30 SD))]) vx | 6=>(fun vv=>[Row 3 1 (tuF vv 0) 30 (cellsN F)]) vx | 13=>(fun _=>[Bk g 144 [.slice V n c,.slice BA bn bc,.slice y u wc,.bool last,o4,ux,.slice none 0 0,.slice none 0 0],Row 3 1 ux 30 (cellsN F)]) vx | _=>[]) (fun ix=>match ix with | 13=>[Bk g 144 [.slice V n c,.slice BA bn bc,.slice y u wc,.bool last,o4,.slice none 0 0,.slice none 0 0,.slice none 0 0]] | _=>[]) 14 102
   [some 29,some 30,some 31,some 32,some 33,some 34,some 35,some 28,some 36,some 37,some 38,some 39,some 40,none]
   [[],[],[1],[2],[3],[4],[5,5],[6],[7],[7],[0],[10],[11,0,1,2,3,4,5,6,7,8],[12,8,6,0,1,2,3,4,5,6,7,8]]
   [[],[],[1],[1,2],[1,2,3],[1,2,3,4],[1,2,3,4,5],[1,2,3,4,5,6],[1,2,3,4,5,6,7],[1,2,3,4,5,6,7],[0],[0,10],[0,1,2,3,4,5,6,7,8,10,11],[0,1,2,3,4,5,6,7,8,10,11,12]]
   [[],[],[],[],[],[],[5],[],[],[],[],[],[],[6]] [[],[],[],[],[13],[],[],[],[],[],[],[],[],[]] [none,none,none,none,none,none,none,some 6,some 7,none,none,none,none,some 8] [(7,.pointer (some ⟨g,0,none⟩))]
   (by kernel_rfl) rfl (by decide) (by rfl) (by decide +kernel) rfl (by simp) (by rfl) (HX.out) ?hstep ?hend
  case hstep =>
   refine⟨?p0,⟨?p1,⟨?p2,⟨?p3,⟨?p4,⟨?p5,⟨?p6,⟨?p7,⟨?p8,⟨?p9,⟨?p10,⟨?p11,⟨?p12,⟨?p13,trivial⟩⟩⟩⟩⟩⟩⟩⟩⟩⟩⟩⟩⟩⟩
   case p0 | p1 | p2 | p3 | p10 | p11 | p12 =>
    intro x wx A a j f p H K i;replace i:=hid i;clear f p;repeat (obtain⟨_,j⟩:=j)
    refine so ?_;go_step;exact i.out _ _ rfl H
   case p4 =>
    intro x wx A a j f p H K d;have k2:A.tmps[32]?.getD undef=.pointer (some ⟨g,2,none⟩):=tq f 3;replace H:Sp w0 ((Bk g 144 [.slice V n c,.slice BA bn bc,.slice y u wc,.bool last,o4,.slice none 0 0,.slice none 0 0,.slice none 0 0])::a) wx:=H;have i:=hid d;clear d j f p;have c:=H.cell 0 rfl 2;refine so ?_;go_step;exact i.out _ _ rfl H
   case p5 =>
    intro x wx A a j f p H K d;have k3:A.tmps[33]?.getD undef=.slice y u wc:=tq f 4;have i:Hid (∀(v:Value) (w' : World),True->Sp w0 ((Row 3 1 v 30 (cellsN (PI.cnts 30 SD)))::a) w'->K (A.put (some 34) v) w'):=hid d;clear d j f;have hw:=hid (p _ d6.out);have U:=hid H;clear p;refine so ?_;go_wp2_with fail
    refine(Ym y u wc W 1 30 U.out hw.out d4.out (by omega) (by decide) g9.out).mono ?_;rw [g7.out];rintro _ w9 ⟨v0,rfl,M⟩;exact i.out _ _ trivial M
   case p6 =>
    intro x wx A a j f p H K d;have k4:True:=(f 5 (by decide)).1;have k5:A.tmps[34]?.getD undef=x 5:=(f 5 (by decide)).2 34 rfl;replace H:Sp w0 ((Row 3 1 (x 5) 30 (cellsN (PI.cnts 30 SD)))::a) wx:=H;have i:=hid d;clear d j f p;have U:=hid H;refine so ?_;go_wp2_with fail
    refine(Xv (x 5) 30 (PI.cnts 30 SD) 15 U.out (by rw [PI.cnts_len]) (by decide) (by decide) (by decide) (cnts_le _ _ (by have:=f0.out; omega)) (Nat.le_trans (PI.items_le _) (by rw [PI.cnts_len]; decide))).mono ?_;rw [g5.out];rintro _ w9 ⟨v0,rfl,M⟩;exact i.out _ _ rfl M
   case p7 =>
    intro x wx A a j f p H K d;have i5:(x 6)=.tuple #[tuF (x 6) 0,.int .i64 0]:=(f 6 (by decide)).1;have k6:A.tmps[35]?.getD undef=x 6:=(f 6 (by decide)).2 35 rfl;have i:=hid d;clear d j f p;clear i5;refine so ?_;go_step;exact i.out _ _ rfl H
   case p8 =>
    intro x wx A a j f p H K d;have d8:(x 7)=(x 6):=(f 7 (by decide)).1;have a0:A.tmps[28]?.getD undef=x 7:=(f 7 (by decide)).2 28 rfl;have i:Hid (∀(v:Value) (w' : World),v=tuF (x 7) 0->Sp w0 (a) w'->K (A.put (some 36) v) w'):=hid d;clear d j;have G:x 7=x 6:=(f 7 (by decide)).1;have I:x 6=.tuple #[tuF (x 6) 0,.int .i64 0]:=(f 6 (by decide)).1;clear f;obtain⟨t0,E⟩:∃t,tuF (x 6) 0=t:=⟨_,rfl⟩;rw [E] at I;have J:=hid i;clear i;replace a0:A.tmps[28]?.getD undef=.tuple #[t0,.int .i64 0]:=by rw [a0,G,I]
    clear d8;refine so ?_;go_step;exact J.out _ _ (by rw [G,E]) H
   case p9 =>
    intro x wx A a j f p H K d;have d8:(x 7)=(x 6):=(f 7 (by decide)).1;have a0:A.tmps[28]?.getD undef=x 7:=(f 7 (by decide)).2 28 rfl;have i:Hid (∀(v:Value) (w' : World),v=.int .i64 0->Sp w0 (a) w'->K (A.put (some 37) v) w'):=hid d;clear d j;have G:x 7=x 6:=(f 7 (by decide)).1;have I:x 6=.tuple #[tuF (x 6) 0,.int .i64 0]:=(f 6 (by decide)).1;clear f;obtain⟨t0,E⟩:∃t,tuF (x 6) 0=t:=⟨_,rfl⟩;rw [E] at I;have J:=hid i;clear i;replace a0:A.tmps[28]?.getD undef=.tuple #[t0,.int .i64 0]:=by rw [a0,G,I]
    clear d8;refine so ?_;go_step;exact J.out _ _ rfl H
   case p13 =>
    intro x wx A a j f p H K d;have k7:A.tmps[40]?.getD undef=.pointer (some ⟨g,5,none⟩):=tq f 12;have i6:(x 8)=tuF (x 7) 0:=(f 8 (by decide)).1;have i7:A.tmps[36]?.getD undef=x 8:=(f 8 (by decide)).2 36 rfl;replace H:Sp w0 ((Bk g 144 [.slice V n c,.slice BA bn bc,.slice y u wc,.bool last,o4,.slice none 0 0,.slice none 0 0,.slice none 0 0])::(Row 3 1 (tuF (x 6) 0) 30 (cellsN F))::a) wx:=H;have i:Hid (∀(v:Value) (w' : World),v=undef->Sp w0 ((Bk g 144 [.slice V n c,.slice BA bn bc,.slice y u wc,.bool last,o4,(x 8),.slice none 0 0,.slice none 0 0])::(Row 3 1 (x 8) 30 (cellsN F))::a) w'->K (A.put none v) w'):=hid d;clear d j;have G:x 7=x 6:=(f 7 (by decide)).1;have r8:x 8=tuF (x 7) 0:=(f 8 (by decide)).1;have I:x 6=.tuple #[tuF (x 6) 0,.int .i64 0]:=(f 6 (by decide)).1;clear f;replace r8:x 8=tuF (x 6) 0:=by rw [r8,G]
    rw [<- r8] at H;obtain⟨B,c0,ex,_,_⟩:=Row.form H 1 rfl;rw [ex] at i H i7;clear I G r8 i6;have z:=H.frozen 0 rfl 5;have t:=H.cell 0 rfl 5;refine so ?_;go_step;exact i.out _ _ rfl (H.set 5 (.slice B 30 c0))
  case hend =>
   intro x wx A Z f H;replace H:Sp w0 ((Bk g 144 [.slice V n c,.slice BA bn bc,.slice y u wc,.bool last,o4,(x 8),.slice none 0 0,.slice none 0 0])::(Row 3 1 (x 8) 30 (cellsN F))::Row 3 1 o4 286 (cellsN D)::Row 179 4 (.slice y u wc) u (Zd W)::L) wx:=H;clear f;simp only [putAll,Act.put,List.setIfInBounds_toArray,List.set_cons_succ,List.set_cons_zero,Nat.reduceAdd] at Z;subst Z;have HY:=hid H;clear H HX;obtain⟨o5,f8⟩:∃o,x 8=o:=⟨_,rfl⟩;rw [f8] at HY;clear f8;go_wp2_with fail
   replace HY:=HY.out;obtain⟨C,d0,rfl,k8,k9⟩:=Row.form HY 1 rfl;obtain⟨B,c0,rfl,l0,l1⟩:=Row.form HY 2 rfl;have f9:=hid HY;clear HY;refine Zb (L:=Row 3 1 (.slice C 30 d0) 30 (cellsN F)::Row 3 1 (.slice B 286 c0) 286 (cellsN D)::Row 179 4 (.slice y u wc) u (Zd W)::L) [some (.pointer (some ⟨g,0,none⟩)),some (.pointer (some ⟨g,0,none⟩)),some (.pointer (some ⟨g,0,none⟩)),some (.pointer (some ⟨g,0,none⟩)),some (.pointer (some ⟨g,4,none⟩)),some (.pointer (some ⟨g,4,none⟩)),some (.slice B 286 c0),some (.pointer (some ⟨g,0,none⟩)),some (.pointer (some ⟨g,0,none⟩)),some (.pointer (some ⟨g,4,none⟩)),some (.pointer (some ⟨g,4,none⟩)),some (.slice B 286 c0),some (.int .i64 uA),some (.slice B uA c0),some (.pointer (some ⟨g,0,none⟩)),some (.pointer (some ⟨g,0,none⟩)),some (.pointer (some ⟨g,4,none⟩)),some (.pointer (some ⟨g,5,none⟩)),some (.slice C 30 d0),some (.pointer (some ⟨g,0,none⟩)),some (.pointer (some ⟨g,0,none⟩)),some (.pointer (some ⟨g,4,none⟩)),some (.pointer (some ⟨g,5,none⟩)),some (.slice C 30 d0),some (.int .i64 uD),some (.slice C uD d0),some (.pointer (some ⟨g,0,none⟩)),some (.pointer (some ⟨g,4,none⟩)),some (.pointer (some ⟨g,4,none⟩)),some (undef),some (.pointer (some ⟨g,0,none⟩)),some (.pointer (some ⟨g,4,none⟩)),some (.pointer (some ⟨g,5,none⟩)),some (undef)] (fun _ _=>True) (fun ix vx=>match ix with | 29=>(fun _=>[Bk g 144 [.slice V n c,.slice BA bn bc,.slice y u wc,.bool last,.slice B uA c0,.slice C 30 d0,.slice none 0 0,.slice none 0 0]]) vx | 33=>(fun _=>[Bk g 144 [.slice V n c,.slice BA bn bc,.slice y u wc,.bool last,.slice B uA c0,.slice C uD d0,.slice none 0 0,.slice none 0 0]]) vx | _=>[]) (fun ix=>match ix with | 29=>[Bk g 144 [.slice V n c,.slice BA bn bc,.slice y u wc,.bool last,.slice B 286 c0,.slice C 30 d0,.slice none 0 0,.slice none 0 0]] | _=>[]) 34 102
    [some 41,some 42,some 43,some 44,some 45,some 46,some 47,some 48,some 49,some 50,some 51,some 52,some 53,some 54,some 55,some 56,some 57,some 58,some 59,some 60,some 61,some 62,some 63,some 64,some 65,some 66,some 67,some 68,some 69,none,some 70,some 71,some 72,none]
    [[],[],[],[2],[3],[4],[5],[],[7],[8],[9],[10],[11],[6,12],[],[14],[15],[16],[17],[],[19],[20],[21],[22],[23,12],[18,24],[0],[26],[27,0,2,3,4,5,6,7,8,9,10,11,12,13,18,23,24],[28,13,24,0,2,3,4,5,6,7,8,9,10,11,12,13,18,23,24],[1],[30],[31,0,1,2,3,4,5,6,7,8,9,10,11,12,13,14,15,16,17,18,19,20,21,22,23,24,25,26,27,28,29],[32,25,29,0,1,2,3,4,5,6,7,8,9,10,11,12,13,14,15,16,17,18,19,20,21,22,23,24,25,26,27,28,29]]
    [[],[],[],[2],[2,3],[2,3,4],[2,3,4,5],[],[7],[7,8],[7,8,9],[7,8,9,10],[7,8,9,10,11],[2,3,4,5,6,7,8,9,10,11,12],[],[14],[14,15],[14,15,16],[14,15,16,17],[],[19],[19,20],[19,20,21],[19,20,21,22],[7,8,9,10,11,12,19,20,21,22,23],[7,8,9,10,11,12,14,15,16,17,18,19,20,21,22,23,24],[0],[0,26],[0,2,3,4,5,6,7,8,9,10,11,12,13,14,15,16,17,18,19,20,21,22,23,24,26,27],[0,2,3,4,5,6,7,8,9,10,11,12,13,14,15,16,17,18,19,20,21,22,23,24,26,27,28],[1],[1,30],[0,1,2,3,4,5,6,7,8,9,10,11,12,13,14,15,16,17,18,19,20,21,22,23,24,25,26,27,28,29,30,31],[0,1,2,3,4,5,6,7,8,9,10,11,12,13,14,15,16,17,18,19,20,21,22,23,24,25,26,27,28,29,30,31,32]]
    [[],[],[],[],[],[],[],[],[],[],[],[],[],[],[],[],[],[],[],[],[],[],[],[],[],[],[],[],[],[],[],[],[],[29]] [[],[],[],[],[],[],[29],[],[],[],[],[29],[],[],[],[],[],[],[29],[],[],[],[],[29],[],[],[],[],[],[],[],[],[],[]] [(7,.pointer (some ⟨g,0,none⟩))]
    (by kernel_rfl) rfl (by decide) (by rfl) (by decide +kernel) rfl rfl (by simp) (f9.out) ?hstep ?hend
   case hstep =>
    refine⟨?p0,⟨?p1,⟨?p2,⟨?p3,⟨?p4,⟨?p5,⟨?p6,⟨?p7,⟨?p8,⟨?p9,⟨?p10,⟨?p11,⟨?p12,⟨?p13,⟨?p14,⟨?p15,⟨?p16,⟨?p17,⟨?p18,⟨?p19,⟨?p20,⟨?p21,⟨?p22,⟨?p23,⟨?p24,⟨?p25,⟨?p26,⟨?p27,⟨?p28,⟨?p29,⟨?p30,⟨?p31,⟨?p32,⟨?p33,trivial⟩⟩⟩⟩⟩⟩⟩⟩⟩⟩⟩⟩⟩⟩⟩⟩⟩⟩⟩⟩⟩⟩⟩⟩⟩⟩⟩⟩⟩⟩⟩⟩⟩⟩
    case p0 | p1 | p2 | p3 | p4 | p5 | p7 | p8 | p9 | p10 | p14 | p15 | p16 | p17 | p19 | p20 | p21 | p22 | p26 | p27 | p28 | p30 | p31 | p32 =>
     intro x wx A a m j f p H K i;replace i:=hid i;clear f p m;repeat (obtain⟨_,j⟩:=j)
     refine so ?_;go_step;exact i.out _ _ rfl H
    case p6 =>
     intro x wx A a m j f p H K d;have l2:A.tmps[46]?.getD undef=.pointer (some ⟨g,4,none⟩):=tq f 5;replace H:Sp w0 ((Bk g 144 [.slice V n c,.slice BA bn bc,.slice y u wc,.bool last,.slice B 286 c0,.slice C 30 d0,.slice none 0 0,.slice none 0 0])::a) wx:=H;have i:=hid d;clear d j f p m;have c:=H.cell 0 rfl 4;refine so ?_;go_step;exact i.out _ _ rfl H
    case p11 =>
     intro x wx A a m j f p H K d;have l3:A.tmps[51]?.getD undef=.pointer (some ⟨g,4,none⟩):=tq f 10;replace H:Sp w0 ((Bk g 144 [.slice V n c,.slice BA bn bc,.slice y u wc,.bool last,.slice B 286 c0,.slice C 30 d0,.slice none 0 0,.slice none 0 0])::a) wx:=H;have i:=hid d;clear d j f p m;have c:=H.cell 0 rfl 4;refine so ?_;go_step;exact i.out _ _ rfl H
    case p12 =>
     intro x wx A a m j f p H K d;have l4:A.tmps[52]?.getD undef=.slice B 286 c0:=tq f 11;have i:=hid d;clear d j f m;have hr:=hid (p (fun w=>Rd w B (cellsN D)) (fun w0 w h=>rowRd h 1 rfl));have U:=hid H;clear p;refine so ?_;go_wp2_with fail
     refine(Wo B 286 c0 D 257 U.out hr.out f1.out.symm (by decide) (by decide)).mono ?_;rw [h0.out];rintro _ w9 ⟨rfl,M⟩;exact i.out _ _ rfl M
    case p13 =>
     intro x wx A a m j f p H K d;have l5:A.tmps[47]?.getD undef=.slice B 286 c0:=tq f 6;have l6:A.tmps[53]?.getD undef=.int .i64 uA:=tq f 12;have i:=hid d;clear d j f p m;have hu:(uA:Int)<=(c0:Int):=by omega
     refine so ?_;go_step;exact i.out _ _ rfl H
    case p18 =>
     intro x wx A a m j f p H K d;have l7:A.tmps[58]?.getD undef=.pointer (some ⟨g,5,none⟩):=tq f 17;replace H:Sp w0 ((Bk g 144 [.slice V n c,.slice BA bn bc,.slice y u wc,.bool last,.slice B 286 c0,.slice C 30 d0,.slice none 0 0,.slice none 0 0])::a) wx:=H;have i:=hid d;clear d j f p m;have c:=H.cell 0 rfl 5;refine so ?_;go_step;exact i.out _ _ rfl H
    case p23 =>
     intro x wx A a m j f p H K d;have l8:A.tmps[63]?.getD undef=.pointer (some ⟨g,5,none⟩):=tq f 22;replace H:Sp w0 ((Bk g 144 [.slice V n c,.slice BA bn bc,.slice y u wc,.bool last,.slice B 286 c0,.slice C 30 d0,.slice none 0 0,.slice none 0 0])::a) wx:=H;have i:=hid d;clear d j f p m;have c:=H.cell 0 rfl 5;refine so ?_;go_step;exact i.out _ _ rfl H
    case p24 =>
     intro x wx A a m j f p H K d;have l9:A.tmps[64]?.getD undef=.slice C 30 d0:=tq f 23;have i:=hid d;clear d j f m;have hr:=hid (p (fun w=>Rd w C (cellsN F)) (fun w0 w h=>rowRd h 0 rfl));have U:=hid H;clear p;refine so ?_;go_wp2_with fail
     refine(Wo C 30 d0 F 1 U.out hr.out f2.out.symm (by decide) (by decide)).mono ?_;rw [h1.out];rintro _ w9 ⟨rfl,M⟩;exact i.out _ _ rfl M
    case p25 =>
     intro x wx A a m j f p H K d;have m0:A.tmps[59]?.getD undef=.slice C 30 d0:=tq f 18;have m1:A.tmps[65]?.getD undef=.int .i64 uD:=tq f 24;have i:=hid d;clear d j f p m;have hu:(uD:Int)<=(d0:Int):=by omega
     refine so ?_;go_step;exact i.out _ _ rfl H
    case p29 =>
     intro x wx A a m j f p H K d;have m2:A.tmps[69]?.getD undef=.pointer (some ⟨g,4,none⟩):=tq f 28;have m3:A.tmps[54]?.getD undef=.slice B uA c0:=tq f 13;replace H:Sp w0 ((Bk g 144 [.slice V n c,.slice BA bn bc,.slice y u wc,.bool last,.slice B 286 c0,.slice C 30 d0,.slice none 0 0,.slice none 0 0])::a) wx:=H;have i:=hid d;clear d j f p m;have z:=H.frozen 0 rfl 4;have t:=H.cell 0 rfl 4;refine so ?_;go_step;exact i.out _ _ rfl (H.set 4 (.slice B uA c0))
    case p33 =>
     intro x wx A a m j f p H K d;have m4:A.tmps[72]?.getD undef=.pointer (some ⟨g,5,none⟩):=tq f 32;have m5:A.tmps[66]?.getD undef=.slice C uD d0:=tq f 25;replace H:Sp w0 ((Bk g 144 [.slice V n c,.slice BA bn bc,.slice y u wc,.bool last,.slice B uA c0,.slice C 30 d0,.slice none 0 0,.slice none 0 0])::a) wx:=H;have i:=hid d;clear d j f p m;have z:=H.frozen 0 rfl 5;have t:=H.cell 0 rfl 5;refine so ?_;go_step;exact i.out _ _ rfl (H.set 5 (.slice C uD d0))
   case hend =>
    intro x wx A Z f H;replace H:Sp w0 ((Bk g 144 [.slice V n c,.slice BA bn bc,.slice y u wc,.bool last,.slice B uA c0,.slice C uD d0,.slice none 0 0,.slice none 0 0])::Row 3 1 (.slice C 30 d0) 30 (cellsN F)::Row 3 1 (.slice B 286 c0) 286 (cellsN D)::Row 179 4 (.slice y u wc) u (Zd W)::L) wx:=H;clear f;simp only [putAll,Act.put,List.setIfInBounds_toArray,List.set_cons_succ,List.set_cons_zero,Nat.reduceAdd] at Z;subst Z;have h2:=(H.pick 3 [1,0,2]).rowCut uD g2.2;rw [Nat.mul_one,YK,h5.out] at h2;have h3:=(h2.pick 3 [2,0,1]).rowCut uA g1.2;rw [Nat.mul_one,YK,h4.out] at h3;have g0:=hid (h3.pick 3 [2,1,0]);clear H f9 h2 h3;go_wp2_with fail
    refine Zb (L:=Row 3 1 (.slice C uD d0) uD (cellsN CD)::Row 3 1 (.slice B uA c0) uA (cellsN CA)::Row 179 4 (.slice y u wc) u (Zd W)::L) [some (.pointer (some ⟨g,0,none⟩)),some (.pointer (some ⟨g,0,none⟩)),some (.pointer (some ⟨g,0,none⟩)),some (.pointer (some ⟨g,4,none⟩)),some (.pointer (some ⟨g,4,none⟩)),some (.slice B uA c0),none,some (.pointer (some ⟨g,0,none⟩)),some (.pointer (some ⟨g,0,none⟩)),some (.pointer (some ⟨g,4,none⟩)),some (.pointer (some ⟨g,5,none⟩)),some (.slice C uD d0),none,none,some (.pointer (some ⟨g,0,none⟩)),some (.pointer (some ⟨g,6,none⟩)),some (undef)] (fun ix vx=>match ix with | 6=>(fun _=>True) vx | 12=>(fun _=>True) vx | 13=>(fun _=>True) vx | _=>True) (fun ix vx=>match ix with | 6=>(fun vv=>[Row 3 1 vv uA (cellsN CA)]) vx | 12=>(fun vv=>[Row 3 1 vv (uA+uD) (cellsN (CA++CD))]) vx | 13=>(fun vv=>[Row 179 4 vv RW.length (Zd RW)]) vx | 16=>(fun _=>[Ex fun vv=>Star (Bk g 144 [.slice V n c,.slice BA bn bc,.slice y u wc,.bool last,.slice B uA c0,.slice C uD d0,vv,.slice none 0 0]) (Row 179 4 vv RW.length (Zd RW))]) vx | _=>[]) (fun ix=>match ix with | 16=>[Bk g 144 [.slice V n c,.slice BA bn bc,.slice y u wc,.bool last,.slice B uA c0,.slice C uD d0,.slice none 0 0,.slice none 0 0]] | _=>[]) 17 102
     [some 73,some 74,some 75,some 76,some 77,some 78,some 79,some 80,some 81,some 82,some 83,some 84,some 85,some 86,some 87,some 88,none]
     [[],[],[1],[2],[3],[4],[5],[],[7],[8],[9],[10],[6,11,6],[12,12],[0,0,1,2,3,4,5,6,7,8,9,10,11,12,13],[14,0,1,2,3,4,5,6,7,8,9,10,11,12,13],[15,13,13,0,1,2,3,4,5,6,7,8,9,10,11,12,13]]
     [[],[],[1],[1,2],[1,2,3],[1,2,3,4],[1,2,3,4,5],[],[7],[7,8],[7,8,9],[7,8,9,10],[1,2,3,4,5,6,7,8,9,10,11],[1,2,3,4,5,6,7,8,9,10,11,12],[0,1,2,3,4,5,6,7,8,9,10,11,12,13],[0,1,2,3,4,5,6,7,8,9,10,11,12,13,14],[0,1,2,3,4,5,6,7,8,9,10,11,12,13,14,15]]
     [[],[],[],[],[],[],[],[],[],[],[],[],[6],[12],[],[],[13]] [[],[],[],[],[],[16],[],[],[],[],[],[16],[],[],[],[],[]] [(7,.pointer (some ⟨g,0,none⟩))]
     (by kernel_rfl) rfl (by decide) (by rfl) (by decide +kernel) rfl rfl (by simp) (g0.out) ?hstep ?hend
    case hstep =>
     refine⟨?p0,⟨?p1,⟨?p2,⟨?p3,⟨?p4,⟨?p5,⟨?p6,⟨?p7,⟨?p8,⟨?p9,⟨?p10,⟨?p11,⟨?p12,⟨?p13,⟨?p14,⟨?p15,⟨?p16,trivial⟩⟩⟩⟩⟩⟩⟩⟩⟩⟩⟩⟩⟩⟩⟩⟩⟩
     case p0 | p1 | p2 | p3 | p4 | p7 | p8 | p9 | p10 | p14 | p15 =>
      intro x wx A a m j f p H K i;replace i:=hid i;clear f p m;repeat (obtain⟨_,j⟩:=j)
      refine so ?_;go_step;exact i.out _ _ rfl H
     case p5 =>
      intro x wx A a m j f p H K d;have m6:A.tmps[77]?.getD undef=.pointer (some ⟨g,4,none⟩):=tq f 4;replace H:Sp w0 ((Bk g 144 [.slice V n c,.slice BA bn bc,.slice y u wc,.bool last,.slice B uA c0,.slice C uD d0,.slice none 0 0,.slice none 0 0])::a) wx:=H;have i:=hid d;clear d j f p m;have c:=H.cell 0 rfl 4;refine so ?_;go_step;exact i.out _ _ rfl H
     case p6 =>
      intro x wx A a m j f p H K d;have i8:A.tmps[78]?.getD undef=.slice B uA c0:=tq f 5;have i:Hid (∀(v:Value) (w' : World),True->Sp w0 ((Row 3 1 v uA (cellsN CA))::a) w'->K (A.put (some 79) v) w'):=hid d;clear d j f m;have d9:Rd wx B (cellsN CA):=p (fun w=>Rd w B (cellsN CA)) (fun w0 w h=>rowRd h 1 rfl) _ _ H;have hl:(cellsN CA).length=uA:=by unfold cellsN; rw [List.length_map,R.out]
      clear p;refine so ?_;refine Zi _ _ 141 rfl 3 i0 (.int .i64 0) 1 8 Tryz.underlying141 hi e2 e3 e4 rfl (by decide) (.slice none 0 0) 0 [] rfl (H.rowNil _ _) B uA c0 (cellsN CA) (ev i8) (by rw [hl,Nat.mul_one]) d9 (YJ _) (by unfold maxLen; omega) (by omega) ?_;intro v1 w2 H2 _;have h3:=H2;first | rw [List.nil_append,Nat.zero_add] at h3 | rw [List.nil_append] at h3 | skip
      exact i.out _ _ trivial h3
     case p11 =>
      intro x wx A a m j f p H K d;have m7:A.tmps[83]?.getD undef=.pointer (some ⟨g,5,none⟩):=tq f 10;replace H:Sp w0 ((Bk g 144 [.slice V n c,.slice BA bn bc,.slice y u wc,.bool last,.slice B uA c0,.slice C uD d0,.slice none 0 0,.slice none 0 0])::a) wx:=H;have i:=hid d;clear d j f p m;have c:=H.cell 0 rfl 5;refine so ?_;go_step;exact i.out _ _ rfl H
     case p12 =>
      intro x wx A a m j f p H K d;have m8:True:=(f 6 (by decide)).1;have i9:A.tmps[79]?.getD undef=x 6:=(f 6 (by decide)).2 79 rfl;have j0:A.tmps[84]?.getD undef=.slice C uD d0:=tq f 11;replace H:Sp w0 ((Row 3 1 (x 6) uA (cellsN CA))::a) wx:=H;have i:Hid (∀(v:Value) (w' : World),True->Sp w0 ((Row 3 1 v (uA+uD) (cellsN (CA++CD)))::a) w'->K (A.put (some 85) v) w'):=hid d;clear d j f m;have d9:Rd wx C (cellsN CD):=p (fun w=>Rd w C (cellsN CD)) (fun w0 w h=>rowRd h 0 rfl) _ _ H.tail;have hl:(cellsN CD).length=uD:=by unfold cellsN; rw [List.length_map,T.out]
      clear p;refine so ?_;refine Zi _ _ 141 rfl 3 i0 (.int .i64 0) 1 8 Tryz.underlying141 hi e2 e3 e4 rfl (by decide) (x 6) uA (cellsN CA) (ev i9) H C uD d0 (cellsN CD) (ev j0) (by rw [hl,Nat.mul_one]) d9 (YJ _) (by unfold maxLen; omega) (by omega) ?_;intro v1 w2 H2 _;rw [<- ZD] at H2;exact i.out _ _ trivial H2
     case p13 =>
      intro x wx A a m j f p H K d;have m9:True:=(f 12 (by decide)).1;have j1:A.tmps[85]?.getD undef=x 12:=(f 12 (by decide)).2 85 rfl;replace H:Sp w0 ((Row 3 1 (x 12) (uA+uD) (cellsN (CA++CD)))::a) wx:=H;have i:Hid (∀(v:Value) (w' : World),True->Sp w0 ((Row 179 4 v RW.length (Zd RW))::a) w'->K (A.put (some 86) v) w'):=hid d;clear d j f m;obtain⟨r9,a1⟩:∃r,x 12=r:=⟨_,rfl⟩;rw [a1] at j1 H;obtain⟨A9,c9,rfl,_,_⟩:=Row.form H 0 rfl;clear p a1;have hR:=hid (UC A9 (uA+uD) c9 (CA++CD) H (fun w0 w h=>rowRd h 0 rfl) (by rw [List.length_append,R.out,T.out]) (by omega) h7.out);rw [h6.out] at hR;refine so ?_;go_wp2_with fail
      refine hR.out.mono ?_;rintro _ w9 ⟨v0,rfl,M⟩;exact i.out _ _ trivial (M.pick 2 [0])
     case p16 =>
      intro x wx A a m j f p H K d;have n0:A.tmps[88]?.getD undef=.pointer (some ⟨g,6,none⟩):=tq f 15;have n1:True:=(f 13 (by decide)).1;have j2:A.tmps[86]?.getD undef=x 13:=(f 13 (by decide)).2 86 rfl;replace H:Sp w0 ((Bk g 144 [.slice V n c,.slice BA bn bc,.slice y u wc,.bool last,.slice B uA c0,.slice C uD d0,.slice none 0 0,.slice none 0 0])::(Row 179 4 (x 13) RW.length (Zd RW))::a) wx:=H;have i:=hid d;clear d j f p m;obtain⟨r9,a1⟩:∃r,x 13=r:=⟨_,rfl⟩;rw [a1] at j2 H;obtain⟨A9,c9,rfl,_,_⟩:=Row.form H 1 rfl;have z:=H.frozen 0 rfl 6;have t:=H.cell 0 rfl 6;clear a1;refine so ?_;go_step;exact i.out _ _ rfl (Sp.ex (.slice A9 RW.length c9) (Sp.star (H.set 6 (.slice A9 RW.length c9))))
    case hend =>
     intro x wx A Z f H;replace H:Sp w0 ((Ex fun vv=>Star (Bk g 144 [.slice V n c,.slice BA bn bc,.slice y u wc,.bool last,.slice B uA c0,.slice C uD d0,vv,.slice none 0 0]) (Row 179 4 vv RW.length (Zd RW)))::Row 3 1 (.slice C uD d0) uD (cellsN CD)::Row 3 1 (.slice B uA c0) uA (cellsN CA)::Row 179 4 (.slice y u wc) u (Zd W)::L) wx:=H;clear f;simp only [putAll,Act.put,List.setIfInBounds_toArray,List.set_cons_succ,List.set_cons_zero,Nat.reduceAdd] at Z;subst Z;have j3:=hid (Eq.refl (0:Nat));clear g0
     skip
     obtain⟨vv,H⟩:=H.unex;replace H:=H.unstar;obtain⟨RA,rc,rfl,_,_⟩:=Row.form H 1 rfl;have c6:=H.cell 0 rfl 6;have z7:=H.frozen 0 rfl 7;simp only [List.getElem?_cons_zero,List.getElem?_cons_succ] at c6;have HQ:=hid H;have e0:=hid (Ym RA RW.length rc RW 0 19 H (fun w0 w h=>rowRd h 1 rfl) rfl (by have:=h9.out; omega) (by decide) f4.out);rw [h8.out] at e0;clear H j3;go_wp2_with fail
     refine e0.out.mono ?_;rintro _ w7 ⟨v7,rfl,H7⟩;have e1:=hid (Xv v7 19 (PI.cnts 19 SR) 7 H7 (by rw [PI.cnts_len]) (by decide) (by decide) (by decide) (cnts_le _ _ (by have:=f5.out; omega)) (Nat.le_trans (PI.items_le _) (by rw [PI.cnts_len]; decide)));rw [f3.out] at e1;clear e0 H7 c6 z7;go_wp2_with fail
     refine e1.out.mono ?_;rintro _ w8 ⟨v8,rfl,H8⟩;obtain⟨FA,fc,rfl,_,_⟩:=Row.form H8 0 rfl;have c7:=H8.cell 1 rfl 7;have z7:=H8.frozen 1 rfl 7;have HE:=hid ((H8.swap.set 7 (.slice FA 19 fc)).pick 6 [0,5,4,3,2,1]);have d1:F7.length=19:=by rw [<- f3.out,PL.lens_len,PI.cnts_len]
     have j4:=hid d1;clear e1 HQ H8 d1;go_wp2;go_ret;refine⟨g,rfl,Blo.shut ⟨BA,y,B,C,RA,FA,bc,wc,c0,d0,rc,fc⟩ ?_⟩;have h:=HE.out;simp only [<- d4.out,R.out,T.out,j4.out,<- i1.out];exact h
end Go.Proofs.YtnjpnmpemhldcaaGreatDoor

