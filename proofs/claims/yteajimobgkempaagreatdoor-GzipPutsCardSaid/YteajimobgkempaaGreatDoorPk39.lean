/- A pack. -/
import Derived.Test.YteajimobgkempaaGreatDoorPk36
set_option linter.all false
set_option maxRecDepth 100000
set_option maxHeartbeats 8000000
namespace Go.Proofs.YteajimobgkempaaGreatDoor
variable {w0 w:World} {L:List Pr}
open Go.RowKit
def tuF:Value->Nat->Value
 | .tuple a,i=>a.getD i undef
 | _,_=>undef
theorem Z0 (m:List Nat):cells64 (castN m)=cellsN m:=by unfold cells64 castN cellsN; rw [List.map_map]; rfl
theorem Xx (v:Value) (n:Nat) (cs:List Nat) (lm:Nat) (H:Sp w0 (Row 3 1 v n (cellsN cs)::L) w) (hn:n=cs.length) (hl:n<=1024) (h1:1<=lm) (h15:lm<=15) (hc:∀x ∈ cs,x<=4294967296) (hk:(PL.items cs).length<=2 ^ lm) :
  Calls Tryz.prog 55 #[v,.int .i64 lm] w fun e w'=>∃u,e=.returned (.tuple #[u,.int .i64 0])/\Sp w0 (Row 3 1 u n (cellsN (PL.lens cs lm))::L) w':=by
 obtain⟨A,c,rfl,_,_⟩:=Row.form H 0 rfl;refine(WK A n c cs lm H hn (fun w0 w h=>by rw [Z0]; exact rowRd h 0 rfl) hl h1 h15 hc hk).mono ?_;rintro _ w' ⟨u,rfl,h⟩;exact⟨u,rfl,h.pick 2 [0]⟩
theorem Yz (n:Nat) (l:List Nat) (h:l.length<=4294967296):∀x ∈ PI.cnts n l,x<=4294967296:=by
 intro x a;unfold PI.cnts at a;obtain⟨i,_,rfl⟩:=List.mem_map.1 a;exact Nat.le_trans List.count_le_length h
def Blo (g:Nat) (sv:Value) (BA:Option Addr) (bc:Nat) (p:BP):Pr:=Ex fun dv:DV=>Star (Bk g 100 [sv,.slice BA p.b.length bc,.slice dv.w p.W.length dv.wc,.bool p.last,.slice dv.a p.A.length dv.ac,.slice dv.d p.D.length dv.dc,.slice dv.r p.R.length dv.rc,.slice dv.f p.F.length dv.fc])
 (Star (Row 139 4 (.slice dv.w p.W.length dv.wc) p.W.length (Ze p.W)) (Star (Row 3 1 (.slice dv.a p.A.length dv.ac) p.A.length (cellsN p.A)) (Star (Row 3 1 (.slice dv.d p.D.length dv.dc) p.D.length (cellsN p.D)) (Star (Row 139 4 (.slice dv.r p.R.length dv.rc) p.R.length (Ze p.R)) (Row 3 1 (.slice dv.f p.F.length dv.fc) p.F.length (cellsN p.F))))))
theorem Blo.shut {g:Nat} {sv:Value} {BA:Option Addr} {bc:Nat} {p:BP} (dv:DV) (H:Sp w0 (Bk g 100 [sv,.slice BA p.b.length bc,.slice dv.w p.W.length dv.wc,.bool p.last,.slice dv.a p.A.length dv.ac,.slice dv.d p.D.length dv.dc,.slice dv.r p.R.length dv.rc,.slice dv.f p.F.length dv.fc] ::
  Row 139 4 (.slice dv.w p.W.length dv.wc) p.W.length (Ze p.W)::Row 3 1 (.slice dv.a p.A.length dv.ac) p.A.length (cellsN p.A)::Row 3 1 (.slice dv.d p.D.length dv.dc) p.D.length (cellsN p.D)::Row 139 4 (.slice dv.r p.R.length dv.rc) p.R.length (Ze p.R)::Row 3 1 (.slice dv.f p.F.length dv.fc) p.F.length (cellsN p.F)::L) w):Sp w0 (Blo g sv BA bc p::L) w:=by
 have a:=(H.pick 6 [4,5,3,2,1,0]).star;have b:=(a.pick 2 [1,0]).star;have c:=(b.pick 2 [1,0]).star;have d:=(c.pick 2 [1,0]).star;have e:=(d.pick 2 [1,0]).star;exact Sp.ex dv e
theorem Blo.open {g:Nat} {sv:Value} {BA:Option Addr} {bc:Nat} {p:BP} (H:Sp w0 (Blo g sv BA bc p::L) w) (hby:Ent L fun w=>Byt w (.slice BA p.b.length bc) p.b):∃dv L2,Sp w0 (L2++L) w/\Ent (L2++L) (DBr g dv p)/\∀φ,Ent L φ->Ent (L2++L) φ:=by
 obtain⟨dv,H⟩:=H.unex;have a:=H.unstar;have c:=(a.pick 2 [1,0]).unstar;have d:=(c.pick 3 [1,0,2]).unstar;have e:=(d.pick 4 [1,0,2,3]).unstar;have f:=(e.pick 5 [1,0,2,3,4]).unstar;exact⟨{ dv with b:=BA,bc:=bc },[_,_,_,_,_,_],f.pick 6 [5,4,3,2,0,1],fun w0 w h=>⟨h.cell 0 rfl 1,h.cell 0 rfl 2,h.cell 0 rfl 3,h.cell 0 rfl 4,h.cell 0 rfl 5,h.cell 0 rfl 6,h.cell 0 rfl 7,hby _ _ (h.pick 6 []),rowRd h 1 rfl,rowRd h 2 rfl,rowRd h 3 rfl,rowRd h 4 rfl,rowRd h 5 rfl⟩,fun φ hφ w0 w h=>hφ _ _ (h.pick 6 [])⟩
theorem YT (l:List Nat):∀u ∈ cellsN l,u.oneCell'=true:=by
 intro u a;obtain⟨x,_,rfl⟩:=List.mem_map.1 a;rfl
theorem ZJ (l:List Nat) (k:Nat):(cellsN l).take k=cellsN (l.take k):=by unfold cellsN; rw [List.map_take]
theorem Ww (Y:List PM.St) (hY:∀s ∈ Y,PD.StOk s):∀t ∈ PD.wds Y,(t.1=0->t.2.1<286)/\(t.1=1->t.2.1<30):=by
 intro t c;unfold PD.wds at c;obtain⟨s,d,a⟩:=List.mem_flatMap.1 c;have b:=hY s d;unfold PD.wd at a;split at a
 ·rw [List.mem_singleton.1 a];have:=s.2.2.toNat_lt;exact⟨fun _=>by show s.2.2.toNat<286; omega,fun h=>absurd (show(0:Nat)=1 from h) (by decide)⟩
 ·rename_i hne
  rcases b with h1 | h1
  ·exact absurd h1 hne
  ·obtain⟨e,_,_⟩:=PI.longS_lt s.1 h1.1 h1.2.1;obtain⟨f,_,_⟩:=PI.farS_lt s.2.1 h1.2.2.1 h1.2.2.2;simp only [List.mem_cons,List.not_mem_nil,or_false] at a;rcases a with rfl | rfl
   ·exact⟨fun _=>by show 257+(PI.longS s.1).1<286; omega,fun h=>absurd (show(0:Nat)=1 from h) (by decide)⟩
   ·exact⟨fun h=>absurd (show(1:Nat)=0 from h) (by decide),fun _=>by show(PI.farS s.2.1).1<30; omega⟩
theorem XY {Y:List PM.St} (hY:∀s ∈ Y,PD.StOk s):∀t ∈ PD.words Y,t.1=0->t.2.1<286:=by
 intro t a b;unfold PD.words at a;rcases List.mem_append.1 a with h | h
 ·exact(Ww Y hY t h).1 b
 ·rw [List.mem_singleton.1 h]; show 256<286; decide
theorem XZ {Y:List PM.St} (hY:∀s ∈ Y,PD.StOk s):∀t ∈ PD.words Y,t.1=1->t.2.1<30:=by
 intro t b a;unfold PD.words at b;rcases List.mem_append.1 b with h | h
 ·exact(Ww Y hY t h).2 a
 ·rw [List.mem_singleton.1 h] at a; exact absurd (show(0:Nat)=1 from a) (by decide)
theorem VY (V BA:Option Addr) (n c bn bc:Nat) (Y:List PM.St) (b:List UInt8) (last:Bool) {TL TF:Option Addr} {cl cf:Nat} (H:Sp w0 L w) (hT:Ent L (DTabs TL TF cl cf)) (hn:n=Y.length) (hnm:n<=100000) (h:Ent L fun w=>StAt w V Y) (hY:∀s ∈ Y,PD.StOk s)
  (hbn:bn=b.length) :
  Calls Tryz.prog 27 #[.slice V n c,.slice BA bn bc,.bool last] w fun e w'=>∃g,e=.returned (.pointer (some ⟨g,0,none⟩))/\Sp w0 (Blo g (.slice V n c) BA bc (BP.of Y b last)::L) w':=by
 obtain⟨i0,hi,e1,e2,e3⟩:=info_parts infoInt;obtain⟨W,hW⟩:=exq (PD.words Y);obtain⟨SA,a1⟩:=exq (PD.signsOf 0 W);obtain⟨SD,a2⟩:=exq (PD.signsOf 1 W);obtain⟨C,a3⟩:=exq (PL.lens (PI.cnts 286 SA) 15);obtain⟨E,a4⟩:=exq (PL.lens (PI.cnts 30 SD) 15);have b3:∀t ∈ W,t.1=0->t.2.1<286:=by
  rw [<- hW]; exact XY hY
 have b4:∀t ∈ W,t.1=1->t.2.1<30:=by
  rw [<- hW]; exact XZ hY
 have e4:W.length<=2 * n+1:=by rw [<- hW,hn]; exact PD.words_len Y
 have b5:SA.length<=W.length:=by rw [<- a1]; unfold PD.signsOf; rw [List.length_map]; exact List.length_filter_le _ _
 have b6:SD.length<=W.length:=by rw [<- a2]; unfold PD.signsOf; rw [List.length_map]; exact List.length_filter_le _ _
 have b7:PD.lenA Y=PD.cut C 257:=by unfold PD.lenA; rw [show PI.lensA (PD.toks Y)=C by rw [<- a3,<- a1,<- hW,PD.signs0]; rfl]
 have b8:PD.lenB Y=PD.cut E 1:=by unfold PD.lenB; rw [show PI.lensB (PD.toks Y)=E by rw [<- a4,<- a2,<- hW,PD.signs1]; rfl]
 have M:C.length=286:=by rw [<- a3,PL.lens_len,PI.cnts_len]
 have N:E.length=30:=by rw [<- a4,PL.lens_len,PI.cnts_len]
 obtain⟨m,a5⟩:=exq W.length;obtain⟨uA,a6⟩:=exq (PD.used C 257 286);obtain⟨uD,a7⟩:=exq (PD.used E 1 30);have g0:257<=uA/\uA<=286:=by rw [<- a6]; exact⟨PD.used_least C 257 286 (by decide),PD.used_le C 257 286⟩
 have g1:1<=uD/\uD<=30:=by rw [<- a7]; exact⟨PD.used_least E 1 30 (by decide),PD.used_le E 1 30⟩
 obtain⟨CA,a8⟩:=exq (C.take uA);obtain⟨CD,a9⟩:=exq (E.take uD);have b0:PD.lenA Y=CA:=by rw [b7]; unfold PD.cut; rw [M,a6,a8]
 have b1:PD.lenB Y=CD:=by rw [b8]; unfold PD.cut; rw [N,a7,a9]
 have b9:CA.length=uA:=by rw [<- a8,List.length_take]; omega
 have c1:CD.length=uD:=by rw [<- a9,List.length_take]; omega
 obtain⟨RW,O⟩:=exq ((PD.rowY Y).map PD.rwd);have P:(PD.row (CA++CD)).map PD.rwd=RW:=by rw [<- O,PD.rowY,b0,b1]
 have e5:∀x ∈ CA++CD,x<=15:=by rw [<- b0,<- b1]; exact PD.rowY_15 Y
 obtain⟨SR,b2⟩:=exq (PD.signsOf 0 RW);have c2:SR=(PD.rowY Y).map Prod.fst:=by rw [<- b2,<- O,PD.signs_row]
 obtain⟨F7,d1⟩:=exq (PL.lens (PI.cnts 19 SR) 7);have e6:PD.fst7 Y=F7:=by rw [<- d1,c2]; rfl
 have d2:RW.length<=316:=by
  rw [<- P,List.length_map];have hl:=PD.rl_len (CA++CD).length 0 (CA++CD);have g2:(CA++CD).length<=316:=by rw [List.length_append]; omega
  exact Nat.le_trans hl g2
 have c3:∀t ∈ RW,t.1=0->t.2.1<19:=by
  intro t ht _;rw [<- O] at ht;obtain⟨q,hq,rfl⟩:=List.mem_map.1 ht;exact(PD.rl_small _ _ _ (PD.rowY_15 Y) q hq).1
 have c4:SR.length<=316:=by rw [<- b2]; unfold PD.signsOf; rw [List.length_map]; exact Nat.le_trans (List.length_filter_le _ _) d2
 have e7:BP.of Y b last=⟨b,W,last,CA,CD,RW,F7⟩:=by unfold BP.of; rw [hW,b0,b1,O,e6]
 rw [e7];rw [a5] at e4 b5 b6;have g3:=hid a3;have g4:=hid a4;have e8:Hid (SA.length<=200001):=hid (by omega);have e9:Hid (SD.length<=200001):=hid (by omega);have g5:Hid (PD.signsOf 0 W=SA):=hid a1;have g6:Hid (PD.signsOf 1 W=SD):=hid a2;have g7:=hid b3;have g8:=hid b4;have d3:Hid (m=W.length):=hid a5.symm;have g9:=hid a6;have h0:=hid a7;have h1:=hid a8;have h4:=hid a9;have f0:=hid M;have f1:=hid N;have Q:=hid b9;have R:=hid c1;have h5:=hid P;have h6:=hid e5;have f2:=hid d1;have h7:=hid b2;have h8:=hid d2;have f3:=hid c3;have f4:=hid c4;have h9:=hid hbn;have j4:m<=200001:=by omega
 have d4:=hid (VL V n c Y H hT hn (by omega) h hY);rw [hW,a5] at d4;clear hn h hT hY hbn hW a1 a2 a3 a4 b3 b4 e4 b5 b6 b7 b8 M N a5 a6 a7 a8 a9 b0 b1 b9 c1 O P e5 b2 c2 d1 e6 d2 c3 c4 e7 H;go_enter Tryz.func27,Tryz.ntmps27
 go_wp2_with fail
 refine d4.out.mono ?_;rintro _ w1 ⟨v1,rfl,H1⟩;obtain⟨o,p,rfl,_,_⟩:=Row.form H1 0 rfl;have f5:Ent (Row 139 4 (.slice o m p) m (Ze W)::L) fun w=>Rd w o (Ze W):=fun w0 w h=>rowRd h 0 rfl;have HX:=hid (H1.newBk [.slice V n c,.slice BA bn bc,.slice o m p,.bool last,.slice none 0 0,.slice none 0 0,.slice none 0 0,.slice none 0 0] 100);have d5:=hid f5;clear d4 H1 f5;go_wp2_with fail
 generalize w1.heap.size=g at HX ⊢;refine Zu (L:=Row 139 4 (.slice o m p) m (Ze W)::L) [some (.pointer (some ⟨g,0,none⟩)),some (.pointer (some ⟨g,0,none⟩)),some (.pointer (some ⟨g,0,none⟩)),some (.pointer (some ⟨g,2,none⟩)),some (.slice o m p),none,none,none,none,some (.int .i64 0),some (.pointer (some ⟨g,0,none⟩)),some (.pointer (some ⟨g,4,none⟩)),some (.pointer (some ⟨g,4,none⟩)),some (undef)] (fun ix ux vx=>match ix with | 5=>(fun vv=>True) vx | 6=>(fun vv=>vv=.tuple #[tuF vv 0,.int .i64 0]) vx | 7=>(fun ux vv=>vv=ux) ux vx | 8=>(fun ux vv=>vv=tuF ux 0) ux vx | _=>True) (fun ix ux vx=>match ix with | 5=>(fun vv=>[Row 3 1 vv 286 (cellsN (PI.cnts 286 SA))]) vx | 6=>(fun vv=>[Row 3 1 (tuF vv 0) 286 (cellsN C)]) vx | 13=>(fun _=>[Bk g 100 [.slice V n c,.slice BA bn bc,.slice o m p,.bool last,ux,.slice none 0 0,.slice none 0 0,.slice none 0 0],Row 3 1 ux 286 (cellsN C)]) vx | _=>[]) (fun ix=>match ix with | 13=>[Bk g 100 [.slice V n c,.slice BA bn bc,.slice o m p,.bool last,.slice none 0 0,.slice none 0 0,.slice none 0 0,.slice none 0 0]] | _=>[]) 14 102
  [some 16,some 17,some 18,some 19,some 20,some 21,some 22,some 15,some 23,some 24,some 25,some 26,some 27,none]
  [[],[],[1],[2],[3],[4],[5,5],[6],[7],[7],[0],[10],[11,0,1,2,3,4,5,6,7,8],[12,8,6,0,1,2,3,4,5,6,7,8]]
  [[],[],[1],[1,2],[1,2,3],[1,2,3,4],[1,2,3,4,5],[1,2,3,4,5,6],[1,2,3,4,5,6,7],[1,2,3,4,5,6,7],[0],[0,10],[0,1,2,3,4,5,6,7,8,10,11],[0,1,2,3,4,5,6,7,8,10,11,12]]
  [[],[],[],[],[],[],[5],[],[],[],[],[],[],[6]] [[],[],[],[],[13],[],[],[],[],[],[],[],[],[]] [none,none,none,none,none,none,none,some 6,some 7,none,none,none,none,some 8] [(7,.pointer (some ⟨g,0,none⟩))]
  (by kernel_rfl) rfl (by decide) (by rfl) (by decide +kernel) rfl (by simp) (by rfl) (HX.out) ?hstep ?hend
 case hstep =>
  refine⟨?p0,⟨?p1,⟨?p2,⟨?p3,⟨?p4,⟨?p5,⟨?p6,⟨?p7,⟨?p8,⟨?p9,⟨?p10,⟨?p11,⟨?p12,⟨?p13,trivial⟩⟩⟩⟩⟩⟩⟩⟩⟩⟩⟩⟩⟩⟩
  case p0 | p1 | p2 | p3 | p10 | p11 | p12 =>
   intro x wx A a j f l H K i;replace i:=hid i;clear f l;repeat (obtain⟨_,j⟩:=j)
   refine so ?_;go_step;exact i.out _ _ rfl H
  case p4 =>
   intro x wx A a j f l H K d;have j5:=tq f 3;replace H:Sp w0 (_::a) wx:=H;have i:=hid d;clear d j f l;have c:=H.cell 0 rfl 2;refine so ?_;go_step;exact i.out _ _ rfl H
  case p5 =>
   intro x wx A a j f l H K d;have j6:=tq f 4;have i:Hid (∀(v:Value) (w' : World),True->Sp w0 ((Row 3 1 v 286 (cellsN (PI.cnts 286 SA)))::a) w'->K (A.put (some 21) v) w'):=hid d;clear d j f;have hw:=hid (l _ d5.out);have S:=hid H;clear l;refine so ?_;go_wp2_with fail
   refine(Yw o m p W 0 286 S.out hw.out d3.out (by omega) (by decide) g7.out).mono ?_;rw [g5.out];rintro _ w9 ⟨v0,rfl,J⟩;exact i.out _ _ trivial J
  case p6 =>
   intro x wx A a j f l H K d;have j7:True:=(f 5 (by decide)).1;have j8:=(f 5 (by decide)).2 21 rfl;replace H:Sp w0 ((Row 3 1 (x 5) 286 (cellsN (PI.cnts 286 SA)))::a) wx:=H;have i:=hid d;clear d j f l;have S:=hid H;refine so ?_;go_wp2_with fail
   refine(Xx (x 5) 286 (PI.cnts 286 SA) 15 S.out (by rw [PI.cnts_len]) (by decide) (by decide) (by decide) (Yz _ _ (by have:=e8.out; omega)) (Nat.le_trans (PI.items_le _) (by rw [PI.cnts_len]; decide))).mono ?_;rw [g3.out];rintro _ w9 ⟨v0,rfl,J⟩;exact i.out _ _ rfl J
  case p7 =>
   intro x wx A a j f l H K d;have i1:(x 6)=.tuple #[tuF (x 6) 0,.int .i64 0]:=(f 6 (by decide)).1;have j9:=(f 6 (by decide)).2 22 rfl;have i:=hid d;clear d j f l;clear i1;refine so ?_;go_step;exact i.out _ _ rfl H
  case p8 =>
   intro x wx A a j f l H K d;have d6:(x 7)=(x 6):=(f 7 (by decide)).1;have T:=(f 7 (by decide)).2 15 rfl;have i:Hid (∀(v:Value) (w' : World),v=tuF (x 7) 0->Sp w0 (a) w'->K (A.put (some 23) v) w'):=hid d;clear d j;have F:x 7=x 6:=(f 7 (by decide)).1;have G:x 6=.tuple #[tuF (x 6) 0,.int .i64 0]:=(f 6 (by decide)).1;clear f;obtain⟨t0,y⟩:=exq (tuF (x 6) 0);rw [y] at G;have I:=hid i;clear i;replace T:A.tmps[15]?.getD undef=.tuple #[t0,.int .i64 0]:=by rw [T,F,G]
   clear d6;refine so ?_;go_step;exact I.out _ _ (by rw [F,y]) H
  case p9 =>
   intro x wx A a j f l H K d;have d6:(x 7)=(x 6):=(f 7 (by decide)).1;have T:=(f 7 (by decide)).2 15 rfl;have i:Hid (∀(v:Value) (w' : World),v=.int .i64 0->Sp w0 (a) w'->K (A.put (some 24) v) w'):=hid d;clear d j;have F:x 7=x 6:=(f 7 (by decide)).1;have G:x 6=.tuple #[tuF (x 6) 0,.int .i64 0]:=(f 6 (by decide)).1;clear f;obtain⟨t0,y⟩:=exq (tuF (x 6) 0);rw [y] at G;have I:=hid i;clear i;replace T:A.tmps[15]?.getD undef=.tuple #[t0,.int .i64 0]:=by rw [T,F,G]
   clear d6;refine so ?_;go_step;exact I.out _ _ rfl H
  case p13 =>
   intro x wx A a j f l H K d;have k0:=tq f 12;have i2:(x 8)=tuF (x 7) 0:=(f 8 (by decide)).1;have i3:=(f 8 (by decide)).2 23 rfl;replace H:Sp w0 (_::(Row 3 1 (tuF (x 6) 0) 286 (cellsN C))::a) wx:=H;have i:Hid (∀(v:Value) (w' : World),v=undef->Sp w0 ((Bk g 100 [.slice V n c,.slice BA bn bc,.slice o m p,.bool last,(x 8),.slice none 0 0,.slice none 0 0,.slice none 0 0])::(Row 3 1 (x 8) 286 (cellsN C))::a) w'->K (A.put none v) w'):=hid d;clear d j;have F:x 7=x 6:=(f 7 (by decide)).1;have r8:x 8=tuF (x 7) 0:=(f 8 (by decide)).1;have G:x 6=.tuple #[tuF (x 6) 0,.int .i64 0]:=(f 6 (by decide)).1;clear f;replace r8:x 8=tuF (x 6) 0:=by rw [r8,F]
   rw [<- r8] at H;obtain⟨r,u,ex,_,_⟩:=Row.form H 1 rfl;rw [ex] at i H i3;clear G F r8 i2;have z:=H.frozen 0 rfl 4;have t:=H.cell 0 rfl 4;refine so ?_;go_step;exact i.out _ _ rfl (H.set 4 (.slice r 286 u))
 case hend =>
  intro x wx A U f H;replace H:Sp w0 ((Bk g 100 [.slice V n c,.slice BA bn bc,.slice o m p,.bool last,(x 8),.slice none 0 0,.slice none 0 0,.slice none 0 0])::(Row 3 1 (x 8) 286 (cellsN C))::_::L) wx:=H;clear f;simp only [putAll,Act.put,List.setIfInBounds_toArray,List.set_cons_succ,List.set_cons_zero,Nat.reduceAdd] at U;subst U;have X:=hid H;clear H HX;obtain⟨o4,f6⟩:=exq (x 8);rw [f6] at X;clear f6;go_wp2_with fail
  have HX:=X;clear X;have c5:Ent (Row 3 1 o4 286 (cellsN C)::Row 139 4 (.slice o m p) m (Ze W)::L) fun w=>Rd w o (Ze W):=fun w0 w h=>rowRd h 1 rfl;replace d5:=hid c5;clear c5;refine Zu (L:=Row 3 1 o4 286 (cellsN C)::Row 139 4 (.slice o m p) m (Ze W)::L) [some (.pointer (some ⟨g,0,none⟩)),some (.pointer (some ⟨g,0,none⟩)),some (.pointer (some ⟨g,0,none⟩)),some (.pointer (some ⟨g,2,none⟩)),some (.slice o m p),none,none,none,none,some (.int .i64 0),some (.pointer (some ⟨g,0,none⟩)),some (.pointer (some ⟨g,4,none⟩)),some (.pointer (some ⟨g,5,none⟩)),some (undef)] (fun ix ux vx=>match ix with | 5=>(fun vv=>True) vx | 6=>(fun vv=>vv=.tuple #[tuF vv 0,.int .i64 0]) vx | 7=>(fun ux vv=>vv=ux) ux vx | 8=>(fun ux vv=>vv=tuF ux 0) ux vx | _=>True) (fun ix ux vx=>match ix with | 5=>(fun vv=>[Row 3 1 vv 30 (cellsN (PI.cnts 30 SD))]) vx | 6=>(fun vv=>[Row 3 1 (tuF vv 0) 30 (cellsN E)]) vx | 13=>(fun _=>[Bk g 100 [.slice V n c,.slice BA bn bc,.slice o m p,.bool last,o4,ux,.slice none 0 0,.slice none 0 0],Row 3 1 ux 30 (cellsN E)]) vx | _=>[]) (fun ix=>match ix with | 13=>[Bk g 100 [.slice V n c,.slice BA bn bc,.slice o m p,.bool last,o4,.slice none 0 0,.slice none 0 0,.slice none 0 0]] | _=>[]) 14 102
   [some 29,some 30,some 31,some 32,some 33,some 34,some 35,some 28,some 36,some 37,some 38,some 39,some 40,none]
   [[],[],[1],[2],[3],[4],[5,5],[6],[7],[7],[0],[10],[11,0,1,2,3,4,5,6,7,8],[12,8,6,0,1,2,3,4,5,6,7,8]]
   [[],[],[1],[1,2],[1,2,3],[1,2,3,4],[1,2,3,4,5],[1,2,3,4,5,6],[1,2,3,4,5,6,7],[1,2,3,4,5,6,7],[0],[0,10],[0,1,2,3,4,5,6,7,8,10,11],[0,1,2,3,4,5,6,7,8,10,11,12]]
   [[],[],[],[],[],[],[5],[],[],[],[],[],[],[6]] [[],[],[],[],[13],[],[],[],[],[],[],[],[],[]] [none,none,none,none,none,none,none,some 6,some 7,none,none,none,none,some 8] [(7,.pointer (some ⟨g,0,none⟩))]
   (by kernel_rfl) rfl (by decide) (by rfl) (by decide +kernel) rfl (by simp) (by rfl) (HX.out) ?hstep ?hend
  case hstep =>
   refine⟨?p0,⟨?p1,⟨?p2,⟨?p3,⟨?p4,⟨?p5,⟨?p6,⟨?p7,⟨?p8,⟨?p9,⟨?p10,⟨?p11,⟨?p12,⟨?p13,trivial⟩⟩⟩⟩⟩⟩⟩⟩⟩⟩⟩⟩⟩⟩
   case p0 | p1 | p2 | p3 | p10 | p11 | p12 =>
    intro x wx A a j f l H K i;replace i:=hid i;clear f l;repeat (obtain⟨_,j⟩:=j)
    refine so ?_;go_step;exact i.out _ _ rfl H
   case p4 =>
    intro x wx A a j f l H K d;have k1:=tq f 3;replace H:Sp w0 (_::a) wx:=H;have i:=hid d;clear d j f l;have c:=H.cell 0 rfl 2;refine so ?_;go_step;exact i.out _ _ rfl H
   case p5 =>
    intro x wx A a j f l H K d;have k2:=tq f 4;have i:Hid (∀(v:Value) (w' : World),True->Sp w0 ((Row 3 1 v 30 (cellsN (PI.cnts 30 SD)))::a) w'->K (A.put (some 34) v) w'):=hid d;clear d j f;have hw:=hid (l _ d5.out);have S:=hid H;clear l;refine so ?_;go_wp2_with fail
    refine(Yw o m p W 1 30 S.out hw.out d3.out (by omega) (by decide) g8.out).mono ?_;rw [g6.out];rintro _ w9 ⟨v0,rfl,J⟩;exact i.out _ _ trivial J
   case p6 =>
    intro x wx A a j f l H K d;have k3:True:=(f 5 (by decide)).1;have k4:=(f 5 (by decide)).2 34 rfl;replace H:Sp w0 ((Row 3 1 (x 5) 30 (cellsN (PI.cnts 30 SD)))::a) wx:=H;have i:=hid d;clear d j f l;have S:=hid H;refine so ?_;go_wp2_with fail
    refine(Xx (x 5) 30 (PI.cnts 30 SD) 15 S.out (by rw [PI.cnts_len]) (by decide) (by decide) (by decide) (Yz _ _ (by have:=e9.out; omega)) (Nat.le_trans (PI.items_le _) (by rw [PI.cnts_len]; decide))).mono ?_;rw [g4.out];rintro _ w9 ⟨v0,rfl,J⟩;exact i.out _ _ rfl J
   case p7 =>
    intro x wx A a j f l H K d;have i4:(x 6)=.tuple #[tuF (x 6) 0,.int .i64 0]:=(f 6 (by decide)).1;have k5:=(f 6 (by decide)).2 35 rfl;have i:=hid d;clear d j f l;clear i4;refine so ?_;go_step;exact i.out _ _ rfl H
   case p8 =>
    intro x wx A a j f l H K d;have d7:(x 7)=(x 6):=(f 7 (by decide)).1;have Z:=(f 7 (by decide)).2 28 rfl;have i:Hid (∀(v:Value) (w' : World),v=tuF (x 7) 0->Sp w0 (a) w'->K (A.put (some 36) v) w'):=hid d;clear d j;have F:x 7=x 6:=(f 7 (by decide)).1;have G:x 6=.tuple #[tuF (x 6) 0,.int .i64 0]:=(f 6 (by decide)).1;clear f;obtain⟨t0,y⟩:=exq (tuF (x 6) 0);rw [y] at G;have I:=hid i;clear i;replace Z:A.tmps[28]?.getD undef=.tuple #[t0,.int .i64 0]:=by rw [Z,F,G]
    clear d7;refine so ?_;go_step;exact I.out _ _ (by rw [F,y]) H
   case p9 =>
    intro x wx A a j f l H K d;have d7:(x 7)=(x 6):=(f 7 (by decide)).1;have Z:=(f 7 (by decide)).2 28 rfl;have i:Hid (∀(v:Value) (w' : World),v=.int .i64 0->Sp w0 (a) w'->K (A.put (some 37) v) w'):=hid d;clear d j;have F:x 7=x 6:=(f 7 (by decide)).1;have G:x 6=.tuple #[tuF (x 6) 0,.int .i64 0]:=(f 6 (by decide)).1;clear f;obtain⟨t0,y⟩:=exq (tuF (x 6) 0);rw [y] at G;have I:=hid i;clear i;replace Z:A.tmps[28]?.getD undef=.tuple #[t0,.int .i64 0]:=by rw [Z,F,G]
    clear d7;refine so ?_;go_step;exact I.out _ _ rfl H
   case p13 =>
    intro x wx A a j f l H K d;have k6:=tq f 12;have i5:(x 8)=tuF (x 7) 0:=(f 8 (by decide)).1;have i6:=(f 8 (by decide)).2 36 rfl;replace H:Sp w0 (_::(Row 3 1 (tuF (x 6) 0) 30 (cellsN E))::a) wx:=H;have i:Hid (∀(v:Value) (w' : World),v=undef->Sp w0 ((Bk g 100 [.slice V n c,.slice BA bn bc,.slice o m p,.bool last,o4,(x 8),.slice none 0 0,.slice none 0 0])::(Row 3 1 (x 8) 30 (cellsN E))::a) w'->K (A.put none v) w'):=hid d;clear d j;have F:x 7=x 6:=(f 7 (by decide)).1;have r8:x 8=tuF (x 7) 0:=(f 8 (by decide)).1;have G:x 6=.tuple #[tuF (x 6) 0,.int .i64 0]:=(f 6 (by decide)).1;clear f;replace r8:x 8=tuF (x 6) 0:=by rw [r8,F]
    rw [<- r8] at H;obtain⟨r,u,ex,_,_⟩:=Row.form H 1 rfl;rw [ex] at i H i6;clear G F r8 i5;have z:=H.frozen 0 rfl 5;have t:=H.cell 0 rfl 5;refine so ?_;go_step;exact i.out _ _ rfl (H.set 5 (.slice r 30 u))
  case hend =>
   intro x wx A U f H;replace H:Sp w0 ((Bk g 100 [.slice V n c,.slice BA bn bc,.slice o m p,.bool last,o4,(x 8),.slice none 0 0,.slice none 0 0])::(Row 3 1 (x 8) 30 (cellsN E))::_::_::L) wx:=H;clear f;simp only [putAll,Act.put,List.setIfInBounds_toArray,List.set_cons_succ,List.set_cons_zero,Nat.reduceAdd] at U;subst U;have X:=hid H;clear H HX;obtain⟨o5,f7⟩:=exq (x 8);rw [f7] at X;clear f7;go_wp2_with fail
   replace X:=X.out;obtain⟨B,D,rfl,k7,k8⟩:=Row.form X 1 rfl;obtain⟨r,u,rfl,k9,l0⟩:=Row.form X 2 rfl;have f8:=hid X;clear X;refine Zb (L:=Row 3 1 (.slice B 30 D) 30 (cellsN E)::Row 3 1 (.slice r 286 u) 286 (cellsN C)::Row 139 4 (.slice o m p) m (Ze W)::L) [some (.pointer (some ⟨g,0,none⟩)),some (.pointer (some ⟨g,0,none⟩)),some (.pointer (some ⟨g,0,none⟩)),some (.pointer (some ⟨g,0,none⟩)),some (.pointer (some ⟨g,4,none⟩)),some (.pointer (some ⟨g,4,none⟩)),some (.slice r 286 u),some (.pointer (some ⟨g,0,none⟩)),some (.pointer (some ⟨g,0,none⟩)),some (.pointer (some ⟨g,4,none⟩)),some (.pointer (some ⟨g,4,none⟩)),some (.slice r 286 u),some (.int .i64 uA),some (.slice r uA u),some (.pointer (some ⟨g,0,none⟩)),some (.pointer (some ⟨g,0,none⟩)),some (.pointer (some ⟨g,4,none⟩)),some (.pointer (some ⟨g,5,none⟩)),some (.slice B 30 D),some (.pointer (some ⟨g,0,none⟩)),some (.pointer (some ⟨g,0,none⟩)),some (.pointer (some ⟨g,4,none⟩)),some (.pointer (some ⟨g,5,none⟩)),some (.slice B 30 D),some (.int .i64 uD),some (.slice B uD D),some (.pointer (some ⟨g,0,none⟩)),some (.pointer (some ⟨g,4,none⟩)),some (.pointer (some ⟨g,4,none⟩)),some (undef),some (.pointer (some ⟨g,0,none⟩)),some (.pointer (some ⟨g,4,none⟩)),some (.pointer (some ⟨g,5,none⟩)),some (undef)] (fun _ _=>True) (fun ix vx=>match ix with | 29=>(fun _=>[Bk g 100 [.slice V n c,.slice BA bn bc,.slice o m p,.bool last,.slice r uA u,.slice B 30 D,.slice none 0 0,.slice none 0 0]]) vx | 33=>(fun _=>[Bk g 100 [.slice V n c,.slice BA bn bc,.slice o m p,.bool last,.slice r uA u,.slice B uD D,.slice none 0 0,.slice none 0 0]]) vx | _=>[]) (fun ix=>match ix with | 29=>[Bk g 100 [.slice V n c,.slice BA bn bc,.slice o m p,.bool last,.slice r 286 u,.slice B 30 D,.slice none 0 0,.slice none 0 0]] | _=>[]) 34 102
    [some 41,some 42,some 43,some 44,some 45,some 46,some 47,some 48,some 49,some 50,some 51,some 52,some 53,some 54,some 55,some 56,some 57,some 58,some 59,some 60,some 61,some 62,some 63,some 64,some 65,some 66,some 67,some 68,some 69,none,some 70,some 71,some 72,none]
    [[],[],[],[2],[3],[4],[5],[],[7],[8],[9],[10],[11],[6,12],[],[14],[15],[16],[17],[],[19],[20],[21],[22],[23,12],[18,24],[0],[26],[27,0,2,3,4,5,6,7,8,9,10,11,12,13,18,23,24],[28,13,24,0,2,3,4,5,6,7,8,9,10,11,12,13,18,23,24],[1],[30],[31,0,1,2,3,4,5,6,7,8,9,10,11,12,13,14,15,16,17,18,19,20,21,22,23,24,25,26,27,28,29],[32,25,29,0,1,2,3,4,5,6,7,8,9,10,11,12,13,14,15,16,17,18,19,20,21,22,23,24,25,26,27,28,29]]
    [[],[],[],[2],[2,3],[2,3,4],[2,3,4,5],[],[7],[7,8],[7,8,9],[7,8,9,10],[7,8,9,10,11],[2,3,4,5,6,7,8,9,10,11,12],[],[14],[14,15],[14,15,16],[14,15,16,17],[],[19],[19,20],[19,20,21],[19,20,21,22],[7,8,9,10,11,12,19,20,21,22,23],[7,8,9,10,11,12,14,15,16,17,18,19,20,21,22,23,24],[0],[0,26],[0,2,3,4,5,6,7,8,9,10,11,12,13,14,15,16,17,18,19,20,21,22,23,24,26,27],[0,2,3,4,5,6,7,8,9,10,11,12,13,14,15,16,17,18,19,20,21,22,23,24,26,27,28],[1],[1,30],[0,1,2,3,4,5,6,7,8,9,10,11,12,13,14,15,16,17,18,19,20,21,22,23,24,25,26,27,28,29,30,31],[0,1,2,3,4,5,6,7,8,9,10,11,12,13,14,15,16,17,18,19,20,21,22,23,24,25,26,27,28,29,30,31,32]]
    [[],[],[],[],[],[],[],[],[],[],[],[],[],[],[],[],[],[],[],[],[],[],[],[],[],[],[],[],[],[],[],[],[],[29]] [[],[],[],[],[],[],[29],[],[],[],[],[29],[],[],[],[],[],[],[29],[],[],[],[],[29],[],[],[],[],[],[],[],[],[],[]] [(7,.pointer (some ⟨g,0,none⟩))]
    (by kernel_rfl) rfl (by decide) (by rfl) (by decide +kernel) rfl rfl (by simp) (f8.out) ?hstep ?hend
   case hstep =>
    refine⟨?p0,⟨?p1,⟨?p2,⟨?p3,⟨?p4,⟨?p5,⟨?p6,⟨?p7,⟨?p8,⟨?p9,⟨?p10,⟨?p11,⟨?p12,⟨?p13,⟨?p14,⟨?p15,⟨?p16,⟨?p17,⟨?p18,⟨?p19,⟨?p20,⟨?p21,⟨?p22,⟨?p23,⟨?p24,⟨?p25,⟨?p26,⟨?p27,⟨?p28,⟨?p29,⟨?p30,⟨?p31,⟨?p32,⟨?p33,trivial⟩⟩⟩⟩⟩⟩⟩⟩⟩⟩⟩⟩⟩⟩⟩⟩⟩⟩⟩⟩⟩⟩⟩⟩⟩⟩⟩⟩⟩⟩⟩⟩⟩⟩
    case p0 | p1 | p2 | p3 | p4 | p5 | p7 | p8 | p9 | p10 | p14 | p15 | p16 | p17 | p19 | p20 | p21 | p22 | p26 | p27 | p28 | p30 | p31 | p32 =>
     intro x wx A a k j f l H K i;replace i:=hid i;clear f l k;repeat (obtain⟨_,j⟩:=j)
     refine so ?_;go_step;exact i.out _ _ rfl H
    case p6 =>
     intro x wx A a k j f l H K d;have l1:=tq f 5;replace H:Sp w0 (_::a) wx:=H;have i:=hid d;clear d j f l k;have c:=H.cell 0 rfl 4;refine so ?_;go_step;exact i.out _ _ rfl H
    case p11 =>
     intro x wx A a k j f l H K d;have l2:=tq f 10;replace H:Sp w0 (_::a) wx:=H;have i:=hid d;clear d j f l k;have c:=H.cell 0 rfl 4;refine so ?_;go_step;exact i.out _ _ rfl H
    case p12 =>
     intro x wx A a k j f l H K d;have l3:=tq f 11;have i:=hid d;clear d j f k;have hr:=hid (l (fun w=>Rd w r (cellsN C)) (fun w0 w h=>rowRd h 1 rfl));have S:=hid H;clear l;refine so ?_;go_wp2_with fail
     refine(Wu r 286 u C 257 S.out hr.out f0.out.symm (by decide) (by decide)).mono ?_;rw [g9.out];rintro _ w9 ⟨rfl,J⟩;exact i.out _ _ rfl J
    case p13 =>
     intro x wx A a k j f l H K d;have l4:=tq f 6;have l5:=tq f 12;have i:=hid d;clear d j f l k;have hu:(uA:Int)<=(u:Int):=by omega
     refine so ?_;go_step;exact i.out _ _ rfl H
    case p18 =>
     intro x wx A a k j f l H K d;have l6:=tq f 17;replace H:Sp w0 (_::a) wx:=H;have i:=hid d;clear d j f l k;have c:=H.cell 0 rfl 5;refine so ?_;go_step;exact i.out _ _ rfl H
    case p23 =>
     intro x wx A a k j f l H K d;have l7:=tq f 22;replace H:Sp w0 (_::a) wx:=H;have i:=hid d;clear d j f l k;have c:=H.cell 0 rfl 5;refine so ?_;go_step;exact i.out _ _ rfl H
    case p24 =>
     intro x wx A a k j f l H K d;have l8:=tq f 23;have i:=hid d;clear d j f k;have hr:=hid (l (fun w=>Rd w B (cellsN E)) (fun w0 w h=>rowRd h 0 rfl));have S:=hid H;clear l;refine so ?_;go_wp2_with fail
     refine(Wu B 30 D E 1 S.out hr.out f1.out.symm (by decide) (by decide)).mono ?_;rw [h0.out];rintro _ w9 ⟨rfl,J⟩;exact i.out _ _ rfl J
    case p25 =>
     intro x wx A a k j f l H K d;have l9:=tq f 18;have m0:=tq f 24;have i:=hid d;clear d j f l k;have hu:(uD:Int)<=(D:Int):=by omega
     refine so ?_;go_step;exact i.out _ _ rfl H
    case p29 =>
     intro x wx A a k j f l H K d;have m1:=tq f 28;have m2:=tq f 13;replace H:Sp w0 (_::a) wx:=H;have i:=hid d;clear d j f l k;have z:=H.frozen 0 rfl 4;have t:=H.cell 0 rfl 4;refine so ?_;go_step;exact i.out _ _ rfl (H.set 4 (.slice r uA u))
    case p33 =>
     intro x wx A a k j f l H K d;have m3:=tq f 32;have m4:=tq f 25;replace H:Sp w0 (_::a) wx:=H;have i:=hid d;clear d j f l k;have z:=H.frozen 0 rfl 5;have t:=H.cell 0 rfl 5;refine so ?_;go_step;exact i.out _ _ rfl (H.set 5 (.slice B uD D))
   case hend =>
    intro x wx A U f H;replace H:Sp w0 (_::_::_::_::L) wx:=H;clear f;simp only [putAll,Act.put,List.setIfInBounds_toArray,List.set_cons_succ,List.set_cons_zero,Nat.reduceAdd] at U;subst U;have h2:=(H.pick 3 [1,0,2]).rowCut uD g1.2;rw [Nat.mul_one,ZJ,h4.out] at h2;have h3:=(h2.pick 3 [2,0,1]).rowCut uA g0.2;rw [Nat.mul_one,ZJ,h1.out] at h3;have f9:=hid (h3.pick 3 [2,1,0]);clear H f8 h2 h3;go_wp2_with fail
    refine Zb (L:=Row 3 1 (.slice B uD D) uD (cellsN CD)::Row 3 1 (.slice r uA u) uA (cellsN CA)::Row 139 4 (.slice o m p) m (Ze W)::L) [some (.pointer (some ⟨g,0,none⟩)),some (.pointer (some ⟨g,0,none⟩)),some (.pointer (some ⟨g,0,none⟩)),some (.pointer (some ⟨g,4,none⟩)),some (.pointer (some ⟨g,4,none⟩)),some (.slice r uA u),none,some (.pointer (some ⟨g,0,none⟩)),some (.pointer (some ⟨g,0,none⟩)),some (.pointer (some ⟨g,4,none⟩)),some (.pointer (some ⟨g,5,none⟩)),some (.slice B uD D),none,none,some (.pointer (some ⟨g,0,none⟩)),some (.pointer (some ⟨g,6,none⟩)),some (undef)] (fun ix vx=>match ix with | 6=>(fun _=>True) vx | 12=>(fun _=>True) vx | 13=>(fun _=>True) vx | _=>True) (fun ix vx=>match ix with | 6=>(fun vv=>[Row 3 1 vv uA (cellsN CA)]) vx | 12=>(fun vv=>[Row 3 1 vv (uA+uD) (cellsN (CA++CD))]) vx | 13=>(fun vv=>[Row 139 4 vv RW.length (Ze RW)]) vx | 16=>(fun _=>[Ex fun vv=>Star (Bk g 100 [.slice V n c,.slice BA bn bc,.slice o m p,.bool last,.slice r uA u,.slice B uD D,vv,.slice none 0 0]) (Row 139 4 vv RW.length (Ze RW))]) vx | _=>[]) (fun ix=>match ix with | 16=>[Bk g 100 [.slice V n c,.slice BA bn bc,.slice o m p,.bool last,.slice r uA u,.slice B uD D,.slice none 0 0,.slice none 0 0]] | _=>[]) 17 102
     [some 73,some 74,some 75,some 76,some 77,some 78,some 79,some 80,some 81,some 82,some 83,some 84,some 85,some 86,some 87,some 88,none]
     [[],[],[1],[2],[3],[4],[5],[],[7],[8],[9],[10],[6,11,6],[12,12],[0,0,1,2,3,4,5,6,7,8,9,10,11,12,13],[14,0,1,2,3,4,5,6,7,8,9,10,11,12,13],[15,13,13,0,1,2,3,4,5,6,7,8,9,10,11,12,13]]
     [[],[],[1],[1,2],[1,2,3],[1,2,3,4],[1,2,3,4,5],[],[7],[7,8],[7,8,9],[7,8,9,10],[1,2,3,4,5,6,7,8,9,10,11],[1,2,3,4,5,6,7,8,9,10,11,12],[0,1,2,3,4,5,6,7,8,9,10,11,12,13],[0,1,2,3,4,5,6,7,8,9,10,11,12,13,14],[0,1,2,3,4,5,6,7,8,9,10,11,12,13,14,15]]
     [[],[],[],[],[],[],[],[],[],[],[],[],[6],[12],[],[],[13]] [[],[],[],[],[],[16],[],[],[],[],[],[16],[],[],[],[],[]] [(7,.pointer (some ⟨g,0,none⟩))]
     (by kernel_rfl) rfl (by decide) (by rfl) (by decide +kernel) rfl rfl (by simp) (f9.out) ?hstep ?hend
    case hstep =>
     refine⟨?p0,⟨?p1,⟨?p2,⟨?p3,⟨?p4,⟨?p5,⟨?p6,⟨?p7,⟨?p8,⟨?p9,⟨?p10,⟨?p11,⟨?p12,⟨?p13,⟨?p14,⟨?p15,⟨?p16,trivial⟩⟩⟩⟩⟩⟩⟩⟩⟩⟩⟩⟩⟩⟩⟩⟩⟩
     case p0 | p1 | p2 | p3 | p4 | p7 | p8 | p9 | p10 | p14 | p15 =>
      intro x wx A a k j f l H K i;replace i:=hid i;clear f l k;repeat (obtain⟨_,j⟩:=j)
      refine so ?_;go_step;exact i.out _ _ rfl H
     case p5 =>
      intro x wx A a k j f l H K d;have m5:=tq f 4;replace H:Sp w0 (_::a) wx:=H;have i:=hid d;clear d j f l k;have c:=H.cell 0 rfl 4;refine so ?_;go_step;exact i.out _ _ rfl H
     case p6 =>
      intro x wx A a k j f l H K d;have i7:=tq f 5;have i:Hid (∀(v:Value) (w' : World),True->Sp w0 ((Row 3 1 v uA (cellsN CA))::a) w'->K (A.put (some 79) v) w'):=hid d;clear d j f k;have d8:Rd wx r (cellsN CA):=l (fun w=>Rd w r (cellsN CA)) (fun w0 w h=>rowRd h 1 rfl) _ _ H;have hl:(cellsN CA).length=uA:=by unfold cellsN; rw [List.length_map,Q.out]
      clear l;refine so ?_;refine Zg _ _ 97 rfl 3 i0 (.int .i64 0) 1 8 Tryz.underlying97 hi e1 e2 e3 rfl (by decide) (.slice none 0 0) 0 [] rfl (H.rowNil _ _) r uA u (cellsN CA) (ev i7) (by rw [hl,Nat.mul_one]) d8 (YT _) (by unfold maxLen; omega) (by omega) ?_;intro v1 w2 H2 _;have h3:=H2;first | rw [List.nil_append,Nat.zero_add] at h3 | rw [List.nil_append] at h3 | skip
      exact i.out _ _ trivial h3
     case p11 =>
      intro x wx A a k j f l H K d;have m6:=tq f 10;replace H:Sp w0 (_::a) wx:=H;have i:=hid d;clear d j f l k;have c:=H.cell 0 rfl 5;refine so ?_;go_step;exact i.out _ _ rfl H
     case p12 =>
      intro x wx A a k j f l H K d;have m7:True:=(f 6 (by decide)).1;have i8:=(f 6 (by decide)).2 79 rfl;have i9:=tq f 11;replace H:Sp w0 ((Row 3 1 (x 6) uA (cellsN CA))::a) wx:=H;have i:Hid (∀(v:Value) (w' : World),True->Sp w0 ((Row 3 1 v (uA+uD) (cellsN (CA++CD)))::a) w'->K (A.put (some 85) v) w'):=hid d;clear d j f k;have d8:Rd wx B (cellsN CD):=l (fun w=>Rd w B (cellsN CD)) (fun w0 w h=>rowRd h 0 rfl) _ _ H.tail;have hl:(cellsN CD).length=uD:=by unfold cellsN; rw [List.length_map,R.out]
      clear l;refine so ?_;refine Zg _ _ 97 rfl 3 i0 (.int .i64 0) 1 8 Tryz.underlying97 hi e1 e2 e3 rfl (by decide) (x 6) uA (cellsN CA) (ev i8) H B uD D (cellsN CD) (ev i9) (by rw [hl,Nat.mul_one]) d8 (YT _) (by unfold maxLen; omega) (by omega) ?_;intro v1 w2 H2 _;rw [<- Zm] at H2;exact i.out _ _ trivial H2
     case p13 =>
      intro x wx A a k j f l H K d;have m8:True:=(f 12 (by decide)).1;have j0:=(f 12 (by decide)).2 85 rfl;replace H:Sp w0 ((Row 3 1 (x 12) (uA+uD) (cellsN (CA++CD)))::a) wx:=H;have i:Hid (∀(v:Value) (w' : World),True->Sp w0 ((Row 139 4 v RW.length (Ze RW))::a) w'->K (A.put (some 86) v) w'):=hid d;clear d j f k;obtain⟨r9,a0⟩:=exq (x 12);rw [a0] at j0 H;obtain⟨A9,c9,rfl,_,_⟩:=Row.form H 0 rfl;clear l a0;have hR:=hid (Uz A9 (uA+uD) c9 (CA++CD) H (fun w0 w h=>rowRd h 0 rfl) (by rw [List.length_append,Q.out,R.out]) (by omega) h6.out);rw [h5.out] at hR;refine so ?_;go_wp2_with fail
      refine hR.out.mono ?_;rintro _ w9 ⟨v0,rfl,J⟩;exact i.out _ _ trivial (J.pick 2 [0])
     case p16 =>
      intro x wx A a k j f l H K d;have m9:=tq f 15;have n0:True:=(f 13 (by decide)).1;have j1:=(f 13 (by decide)).2 86 rfl;replace H:Sp w0 (_::(Row 139 4 (x 13) RW.length (Ze RW))::a) wx:=H;have i:=hid d;clear d j f l k;obtain⟨r9,a0⟩:=exq (x 13);rw [a0] at j1 H;obtain⟨A9,c9,rfl,_,_⟩:=Row.form H 1 rfl;have z:=H.frozen 0 rfl 6;have t:=H.cell 0 rfl 6;clear a0;refine so ?_;go_step;exact i.out _ _ rfl (Sp.ex (.slice A9 RW.length c9) (Sp.star (H.set 6 (.slice A9 RW.length c9))))
    case hend =>
     intro x wx A U f H;replace H:Sp w0 (_::_::_::_::L) wx:=H;clear f;simp only [putAll,Act.put,List.setIfInBounds_toArray,List.set_cons_succ,List.set_cons_zero,Nat.reduceAdd] at U;subst U;have j2:=hid (Eq.refl (0:Nat));clear f9
     skip
     obtain⟨vv,H⟩:=H.unex;replace H:=H.unstar;obtain⟨RA,rc,rfl,_,_⟩:=Row.form H 1 rfl;have c6:=H.cell 0 rfl 6;have z7:=H.frozen 0 rfl 7;simp only [List.getElem?_cons_zero,List.getElem?_cons_succ] at c6;have HQ:=hid H;have d9:=hid (Yw RA RW.length rc RW 0 19 H (fun w0 w h=>rowRd h 1 rfl) rfl (by have:=h8.out; omega) (by decide) f3.out);rw [h7.out] at d9;clear H j2;go_wp2_with fail
     refine d9.out.mono ?_;rintro _ w7 ⟨v7,rfl,H7⟩;have e0:=hid (Xx v7 19 (PI.cnts 19 SR) 7 H7 (by rw [PI.cnts_len]) (by decide) (by decide) (by decide) (Yz _ _ (by have:=f4.out; omega)) (Nat.le_trans (PI.items_le _) (by rw [PI.cnts_len]; decide)));rw [f2.out] at e0;clear d9 H7 c6 z7;go_wp2_with fail
     refine e0.out.mono ?_;rintro _ w8 ⟨v8,rfl,H8⟩;obtain⟨FA,fc,rfl,_,_⟩:=Row.form H8 0 rfl;have c7:=H8.cell 1 rfl 7;have z7:=H8.frozen 1 rfl 7;have HE:=hid ((H8.swap.set 7 (.slice FA 19 fc)).pick 6 [0,5,4,3,2,1]);have c8:F7.length=19:=by rw [<- f2.out,PL.lens_len,PI.cnts_len]
     have j3:=hid c8;clear e0 HQ H8 c8;go_wp2;go_ret;refine⟨g,rfl,Blo.shut ⟨BA,o,r,B,RA,FA,bc,p,u,D,rc,fc⟩ ?_⟩;have h:=HE.out;simp only [<- d3.out,Q.out,R.out,j3.out,<- h9.out];exact h
end Go.Proofs.YteajimobgkempaaGreatDoor

