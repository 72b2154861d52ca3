/- A pack. -/
import Derived.Test.YtnjpnmpemhldcaaGreatDoorPk43
set_option linter.all false
set_option maxRecDepth 100000
set_option maxHeartbeats 8000000
namespace Go.Proofs.YtnjpnmpemhldcaaGreatDoor
variable {w0 w:World} {L:List Pr}
open Go.RowKit
namespace PI
theorem bok {α β:Type} (a:α) (f:α->Except Nat β):(Except.ok a:Except Nat α).bind f=f a:=rfl
theorem bno {α β:Type} (e:Nat) (f:α->Except Nat β):(Except.error e:Except Nat α).bind f=.error e:=rfl
theorem fill_len {many:Nat} {acc:List Nat} {v k a:Nat} {r:Nat × List Nat} (h:fill many acc v k a=.ok r) (ha:acc.length<=many):r.2.length<=many:=by
 unfold fill at h;split at h
 ·cases h
 ·cases h; simp; omega
theorem lens_done {B:List Bool} {m:List Nat} {many:Nat} : ∀(f a:Nat) (acc:List Nat) (r:Nat × List Nat),acc.length<=many->lens B m many f a acc=.ok r->r.2.length=many:=by
 intro f;induction f with
 | zero=>intro a acc r _ h; cases h
 | succ f ih =>
  intro a acc r c h;rw [lens] at h;split at h
  ·obtain⟨s,b,h⟩:=bind_ok h;refine ih _ _ _ ?_ h;unfold stepL at b;obtain⟨q,e,b⟩:=bind_ok b;split at b
   ·split at b
    ·cases b
    ·obtain⟨n,d,b⟩:=bind_ok b;exact fill_len b c
   split at b
   ·obtain⟨n,d,b⟩:=bind_ok b;exact fill_len b c
   split at b
   ·obtain⟨n,d,b⟩:=bind_ok b;exact fill_len b c
   ·exact fill_len b c
  ·cases h
   show acc.length=many;omega
theorem orderT_lt (j:Nat) (h:j<19):orderT.getD j 0<19:=by revert j; decide
theorem firsts_step {B:List Bool} {c j a:Nat} {f:List Nat} (h:j<c) (hc:c<=19):firsts B ((orderT.take c).drop j) a f=(number B a 3).bind fun r=>firsts B ((orderT.take c).drop (j+1)) r.1 (f.set (orderT.getD j 0) r.2):=by
 have b:j<(orderT.take c).length:=by rw [List.length_take]; show j<min c 19; omega
 rw [List.drop_eq_getElem_cons b,firsts];have e:(orderT.take c)[j]=orderT.getD j 0:=by
  rw [List.getElem_take,List.getD_eq_getElem?_getD,List.getElem?_eq_getElem (show j<orderT.length from(by show j<19; omega))]; rfl
 rw [e]
theorem dynamic_ok {B:List Bool} {a:Nat} {r:Nat × List Nat × List Nat} (h:dynamic B a=.ok r):book r.2.1=true/\book r.2.2=true/\r.2.1.length<=1000/\r.2.2.length<=1000:=by
 unfold dynamic at h;obtain⟨l,g,h⟩:=bind_ok h;obtain⟨d,i,h⟩:=bind_ok h;obtain⟨c,j,h⟩:=bind_ok h;split at h
 ·cases h
 rename_i h0
 obtain⟨f,k,h⟩:=bind_ok h;split at h
 ·obtain⟨q,e,h⟩:=bind_ok h;have b:=lens_done _ _ _ _ (Nat.zero_le _) e;split at h
  ·cases h
  split at h
  ·split at h
   ·rename_i h1 h2 h3
    cases h
    refine⟨h2,h3,?_,?_⟩
    ·show(q.2.take _).length<=1000;rw [List.length_take]; omega
    ·show(q.2.drop _).length<=1000;rw [List.length_drop]; omega
   ·cases h
  ·cases h
 ·cases h
end PI
theorem TH {w:World} {A:Option Addr} {xs:List Value} (h:Rd w A xs) (k:Nat):Rd w A (xs.take k):=fun hn=>by
 obtain⟨a,e,b⟩:=h (by rintro rfl; simp at hn);refine⟨a,e,fun j u hu=>?_⟩;rw [List.getElem?_take] at hu;split at hu
 ·exact b j u hu
 ·cases hu
theorem Wo {e:TypeId} {VA:Option Addr} {n vc:Nat} {xs:List Value} {M:List Pr} (H:Sp w0 M w) (k:Nat) (hk:M[k]?=some (Row e 1 (.slice VA n vc) n xs)) (hn:0<n) (hx:xs.length=n):∃ad,VA=some ad:=by
 obtain⟨c,d,a,b,_,_⟩:=H.row_rd k hk;injection a with a
 subst a;obtain⟨ad,e,_⟩:=b (by intro h; rw [h] at hx; simp at hx; omega);exact⟨ad,e⟩
theorem TI (gx gr:Nat) (l:List UInt8) (most at_:Nat) (vo vb:Value) (TL TA:Option Addr) (cl ca:Nat) (H:Sp w0 (Rr gr l at_::XpB gx gr vo most vb::L) w) (ha:at_<=8 * l.length) (hl:l.length<=100000000) (hT:Ent L (Tabs TL TA cl ca)) :
  Calls Tryz.prog 136 #[.pointer (some ⟨gx,0,none⟩)] w
   (XPost w0 L (PI.dynamic (PBits.ofB l) at_) fun r e w'=>∃g1 g2,e=.returned (.tuple #[.pointer (some ⟨g1,0,none⟩),.pointer (some ⟨g2,0,none⟩)])/\Sp w0 (Bok g2 r.2.2::Bok g1 r.2.1::Rr gr l r.1::XpB gx gr vo most vb::L) w'):=by
 obtain⟨i0,hi,g5,g6,g7⟩:=info_parts infoJ;obtain⟨T,Z⟩:=exq (PI.dynamic (PBits.ofB l) at_);rw [Z];unfold PI.dynamic at Z;have n:=hid Z;have HL:=hid hl;have g8:=hid hT;clear Z hT;have F:=hid (Zu gx gr l most at_ 5 vo vb H ha (by omega) HL.out);go_enter Tryz.func136,Tryz.ntmps136
 go_wp2_with fail
 refine F.out.mono ?_;intro O i2 y;cases hr:PI.number (PBits.ofB l) at_ 5 with
 | error c =>
  rw [hr] at y;obtain⟨rfl,H1⟩:=y;have D:Hid (T=.error c):=by rw [<- n.out,hr]; exact hid rfl
  clear hr F n;go_wp2;exact⟨rfl,XPost.no D.out H1⟩
 | ok r =>
  obtain⟨e1,t⟩:=PI.number_ok hr;have h0:=PI.numAt_small (PBits.ofB l) at_ 5 5 (by omega);subst e1;obtain⟨n5,I⟩:=exq (PI.numAt (PBits.ofB l) at_ 5);rw [hr] at y;rw [I] at hr h0 y;rw [PBits.ofB_length] at t;obtain⟨rfl,H1⟩:=y;rw [hr,PI.bok] at n
  dsimp only at n
  clear hr F I;obtain⟨ll,d9⟩:=exq (n5+257);have z1:(n5:Int)+257=(ll:Int):=by omega
  have b1:ll<=300/\257<=ll:=by omega
  have h1:=hid d9;clear d9;have F:=hid (Zu gx gr l most (at_+5) 5 vo vb H1 t (by omega) HL.out);go_wp2_with fail
  refine F.out.mono ?_;intro O i3 y;cases hr:PI.number (PBits.ofB l) (at_+5) 5 with
  | error c =>
   rw [hr] at y;obtain⟨rfl,H2⟩:=y;have D:Hid (T=.error c):=by rw [<- n.out,hr]; exact hid rfl
   clear hr F n;go_wp2;exact⟨rfl,XPost.no D.out H2⟩
  | ok r =>
   obtain⟨e1,t⟩:=PI.number_ok hr;have h3:=PI.numAt_small (PBits.ofB l) (at_+5) 5 5 (by omega);subst e1;obtain⟨d5,I⟩:=exq (PI.numAt (PBits.ofB l) (at_+5) 5);rw [hr] at y;rw [I] at hr h3 y;rw [PBits.ofB_length] at t;obtain⟨rfl,H2⟩:=y;rw [hr,PI.bok] at n
   dsimp only at n
   clear hr F I;obtain⟨dd,e0⟩:=exq (d5+1);have z2:(d5:Int)+1=(dd:Int):=by omega
   have b3:dd<=40/\1<=dd:=by omega
   have h4:=hid e0;clear e0;have F:=hid (Zu gx gr l most (at_+5+5) 4 vo vb H2 t (by omega) HL.out);go_wp2_with fail
   refine F.out.mono ?_;intro O i4 y;cases hr:PI.number (PBits.ofB l) (at_+5+5) 4 with
   | error c =>
    rw [hr] at y;obtain⟨rfl,H3⟩:=y;have D:Hid (T=.error c):=by rw [<- n.out,hr]; exact hid rfl
    clear hr F n;go_wp2;exact⟨rfl,XPost.no D.out H3⟩
   | ok r =>
    obtain⟨e1,t⟩:=PI.number_ok hr;have h5:=PI.numAt_small (PBits.ofB l) (at_+5+5) 4 4 (by omega);subst e1;obtain⟨c4,I⟩:=exq (PI.numAt (PBits.ofB l) (at_+5+5) 4);rw [hr] at y;rw [I] at hr h5 y;rw [PBits.ofB_length] at t;obtain⟨rfl,H3⟩:=y;rw [hr,PI.bok] at n
    dsimp only at n
    clear hr F I;obtain⟨a3,e3⟩:=exq (at_+5+5+4);rw [e3] at n H3 t;obtain⟨cc,e4⟩:=exq (c4+4);rw [h1.out,h4.out,e4] at n;have z3:(c4:Int)+4=(cc:Int):=by omega
    obtain⟨b1,b2⟩:=b1;obtain⟨b3,b4⟩:=b3;have b5:cc<=19:=by omega
    clear e3 e4 H H1 H2;by_cases S:286<ll∨30<dd
    ·have D:Hid (T=.error 20):=by rw [<- n.out,if_pos S]; exact hid rfl
     clear n;by_cases i5:286<ll
     ·have q1:(ll:Int) > 286:=by omega
      go_wp2;exact⟨rfl,XPost.no D.out H3.tail2⟩
     ·have q1:¬ (ll:Int) > 286:=by omega
      have q2:(dd:Int) > 30:=by omega
      go_wp2;exact⟨rfl,XPost.no D.out H3.tail2⟩
    ·have q1:¬ (ll:Int) > 286:=by omega
     have q2:¬ (dd:Int) > 30:=by omega
     replace n:=hid (show(PI.firsts (PBits.ofB l) (PI.orderT.take cc) a3 (List.replicate 19 0)).bind _=T by rw [<- n.out,if_neg S]);have b6:ll<=286:=by omega
     have b7:dd<=30:=by omega
     clear S;go_wp2_with (at_make; refine Zk rfl _ _ _ rfl 3 i0 (.int .i64 0) Tryz.underlying141 hi g5 g6 rfl 19 rfl rfl (by rw [g7]; omega) (by unfold maxLen; omega) H3 ?_)
     intro C w4 H4;obtain⟨FT,c5⟩:=exq (PI.firsts (PBits.ofB l) (PI.orderT.take cc) a3 (List.replicate 19 0));rw [c5] at n;have e5:=hid c5;replace H4:Sp w0 (Row 3 1 (.slice (some C) 19 19) 19 (cellsN (List.replicate 19 0))::Rr gr l a3::XpB gx gr vo most vb::L) w4:=H4;have i6:(cc:Int)<=19:=by omega
     have i7:(0:Int)<=(cc:Int):=by omega
     clear c5 H3;go_wp2_with fail
     go_loopw [31] (fun c31 wr=>∃(j a:Nat) (fj:List Nat),c31=.int .i64 j/\j<=cc/\a<=8 * l.length/\fj.length=19/\PI.firsts (PBits.ofB l) ((PI.orderT.take cc).drop j) a fj=FT/\Sp w0 (Row 3 1 (.slice (some C) 19 19) 19 (cellsN fj)::Rr gr l a::XpB gx gr vo most vb::L) wr) (fun c31 _=>cc - (intOf c31).toNat)
     case atStart=>exact⟨0,a3,List.replicate 19 0,rfl,Nat.zero_le _,t,by simp,e5.out,H4⟩
     case round =>
      obtain⟨j,a,fj,rfl,hj,e6,a0,a1,H5⟩:=hrel;clear H4 e5;by_cases e7:j<cc
      ·have k1:(j:Int)<(cc:Int):=by omega
       have a2:=PI.firsts_step (B:=PBits.ofB l) (a:=a) (f:=fj) e7 b5;rw [a1] at a2;have U:=(g8.out _ _ (H5.pick 3 [])).order j (by omega);have c3:wr.cell? ((⟨6,0,none⟩:Addr).add j)=some (.int .i64 (PI.orderT.getD j 0:Nat)):=by rw [addr0]; exact U
       have a8:=PI.orderT_lt j (by omega);obtain⟨s,hs⟩:=exq (PI.orderT.getD j 0);rw [hs] at a2 c3 a8 U;have a4:=hid a2;have P:=hid a0;have k2:j<cc:=e7;have F:=hid (Zu gx gr l most a 3 vo vb (H5.pick 3 [1,2,0]) e6 (by omega) HL.out);clear a2 hs a1 a0;go_wp2_with fail
       refine F.out.mono ?_;intro O w6 y;cases hr:PI.number (PBits.ofB l) a 3 with
       | error c =>
        rw [hr] at y;obtain⟨rfl,H6⟩:=y;have D:Hid (T=.error c):=by rw [<- n.out,a4.out,hr]; exact hid rfl
        clear hr F n a4;go_wp2;exact⟨rfl,XPost.no D.out H6.tail⟩
       | ok r =>
        obtain⟨e1,e8⟩:=PI.number_ok hr;subst e1;obtain⟨xv,f0⟩:=exq (PI.numAt (PBits.ofB l) a 3);rw [hr] at y;rw [f0] at hr y;rw [PBits.ofB_length] at e8;obtain⟨rfl,H6⟩:=y;have HN:Hid (PI.firsts (PBits.ofB l) ((PI.orderT.take cc).drop (j+1)) (a+3) (fj.set s xv)=FT):=by
         rw [a4.out,hr]; exact hid rfl
        obtain⟨i8,c9,O,_,V,i1,a9⟩:=Sp.rowSet (H6.pick 3 [2,0,1]) (i:=s) (by omega);injection O with O e10 e11
        injection O with O
        subst O;subst e11;clear e10;have c6:∃u,w6.cell? (C.add s)=some u:=by
         rw [V];exact⟨_,List.getElem?_eq_getElem (by rw [cellsN,List.length_map,P.out]; exact a8)⟩
        obtain⟨u,hu⟩:=c6;have HS:=hid (a9 (.int .i64 xv));clear hr F a4 V a9 c3 U f0;go_wp2_with fail
        go_roundw
        case rel =>
         refine⟨j+1,a+3,fj.set s xv,by go_num,by omega,e8,by rw [List.length_set]; exact P.out,HN.out,?_⟩;have ec:cellsN (fj.set s xv)=(cellsN fj).set s (.int .i64 xv):=by unfold cellsN; rw [List.map_set]
         rw [ec];exact HS.out
        case measure=>first | (simp [intOf]; omega) | simp [intOf]
      ·have k1:¬ (j:Int)<(cc:Int):=by omega
       obtain rfl:j=cc:=by omega
       have b0:FT=.ok (a,fj):=by
        rw [<- a1,List.drop_eq_nil_of_le (by rw [List.length_take]; omega)]; rfl
       rw [b0,PI.bok] at n
       dsimp only at n
       have P:=hid a0;clear a1 b0 a0;by_cases M:PI.book fj=true
       ·replace n:=hid (show(PI.lens (PBits.ofB l) fj (ll+dd) (ll+dd+1) a []).bind _=T by rw [<- n.out,if_pos M]);have f1:=PI.book_sum M;have HB:=hid (xbook_yes (some C) 19 19 fj H5 P.out.symm (row_ent 0 rfl) M);clear M;go_wp2_with fail
        refine HB.out.mono ?_;rintro _ w6 ⟨gb,rfl,H6⟩;clear HB H5;obtain⟨mm,c7⟩:=exq (ll+dd);have y4:(ll:Int)+(dd:Int)=(mm:Int):=by omega
        rw [c7] at n;have c8:fj.length<=1000:=by rw [P.out]; omega
        have F:=hid (UG gx gr gb l most a mm vo vb fj (H6.pick 4 [2,3,0,1]) e6 HL.out f1 c8 (by omega));have i9:=hid c7;clear c7;go_wp2_with fail
        refine F.out.mono ?_;intro O w7 y;cases hr:PI.lens (PBits.ofB l) fj mm (mm+1) a [] with
        | error c =>
         rw [hr] at y;obtain⟨rfl,W⟩:=y;have D:Hid (T=.error c):=by rw [<- n.out,hr]; exact hid rfl
         clear hr F n;go_wp2;exact⟨rfl,XPost.no D.out W.tail⟩
        | ok r =>
         obtain⟨a7,G⟩:=r;rw [hr] at y n;rw [PI.bok] at n
         dsimp only at n
         have E:G.length=mm:=PI.lens_done _ _ _ _ (Nat.zero_le _) hr;obtain⟨v7,rfl,W⟩:=y;obtain⟨VA,z,rfl,f2,f3⟩:=Row.form W 0 rfl;simp only at W f2 ⊢;rw [E] at W f2 ⊢;obtain⟨p,rfl⟩:=Wo W 0 rfl (by omega) (by rw [cellsN,List.length_map]; exact E);have b8:=hid E;have j0:=hid f3;have X:w7.cell? (p.add 256)=some (.int .i64 ((G.getD 256 0:Nat):Int)):=by
          obtain⟨j4,e2,h7⟩:=(row_ent 0 rfl _ _ W).at_ (k:=256) (by rw [cellsN,List.length_map,E]; omega);injection e2 with e2
          subst e2;rw [h7];have h2:256<G.length:=by rw [E]; omega
          rw [List.getD_eq_getElem?_getD,List.getElem?_eq_getElem h2];simp [cellsN]
         obtain⟨x6,f4⟩:=exq (G.getD 256 0);rw [f4] at X n;have h8:w7.cell? ⟨p.block,p.off+256,none⟩=some (.int .i64 x6):=X;have k3:(256:Int)<(mm:Int):=by omega
         clear hr F E f3 f4 H6;by_cases h6:x6=0
         ·have D:Hid (T=.error 20):=by rw [<- n.out,if_pos h6]; exact hid rfl
          have k4:((x6:Int) == 0)=true:=by simp [h6]
          have k5:(x6:Int)=0:=by omega
          clear n;go_wp2;exact⟨rfl,XPost.no D.out (W.pick 5 [])⟩
         ·have k4:((x6:Int) == 0)=false:=by rw [beq_eq_false_iff_ne]; omega
          replace n:=hid (show(if PI.book (G.take ll)=true then _ else _)=T by rw [<- n.out,if_neg h6]);have j1:(ll:Int)<=(mm:Int):=by omega
          have j2:(ll:Int)<=(z:Int):=by omega
          have j3:¬ z=ll:=by omega
          have j5:mm - ll=dd:=by omega
          have d0:Ent (Row 3 1 (.slice (some p) mm z) mm (cellsN G)::Rr gr l a7::XpB gx gr vo most vb::Bok gb fj::Row 3 1 (.slice (some C) 19 19) 19 (cellsN fj)::L) fun w=>Rd w (some p) (cellsN G):=row_ent 0 rfl;have f5:Ent (Row 3 1 (.slice (some p) mm z) mm (cellsN G)::Rr gr l a7::XpB gx gr vo most vb::Bok gb fj::Row 3 1 (.slice (some C) 19 19) 19 (cellsN fj)::L) fun w=>Rd w (some p) (cellsN (G.take ll)):=fun _ _ H=>by
           have:=TH (d0 _ _ H) ll;unfold cellsN at this ⊢;rw [List.map_take]; exact this
          have f6:Ent (Row 3 1 (.slice (some p) mm z) mm (cellsN G)::Rr gr l a7::XpB gx gr vo most vb::Bok gb fj::Row 3 1 (.slice (some C) 19 19) 19 (cellsN fj)::L) fun w=>Rd w (some (p.add ll)) (cellsN (G.drop ll)):=fun _ _ H=>by
           have:=(d0 _ _ H).part ll (G.length - ll);unfold cellsN at this ⊢;rw [List.map_drop];rw [List.take_of_length_le (by rw [List.length_drop,List.length_map]; omega)] at this;exact this
          have a5:=hid f5;have d1:=hid f6;have f7:ll=(G.take ll).length:=by rw [List.length_take,b8.out]; omega
          have f8:dd=(G.drop ll).length:=by rw [List.length_drop,b8.out]; omega
          have a6:=hid f7;have d2:=hid f8;obtain⟨N,b9⟩:=exq (G.take ll);obtain⟨R,c0⟩:=exq (G.drop ll);rw [b9] at n a5 a6;rw [c0] at n d1 d2;clear d0 f5 f6 f7 f8 b9 c0;by_cases J:PI.book N=true
          ·replace n:=hid (show(if PI.book R=true then _ else _)=T by rw [<- n.out,if_pos J]);by_cases Q:PI.book R=true
           ·have D:Hid (T=.ok (a7,N,R)):=by rw [<- n.out,if_pos Q]; exact hid rfl
            have Y:=hid J;have d3:=hid Q;clear n J Q;go_wp2_with fail
            refine Zb (L:=Row 3 1 (.slice (some p) mm z) mm (cellsN G)::Rr gr l a7::XpB gx gr vo most vb::Bok gb fj::Row 3 1 (.slice (some C) 19 19) 19 (cellsN fj)::L) [some (.slice (some p) mm z),some (.int .i64 ll),some (.slice (some p) ll z),none,some (.slice (some p) mm z),some (.int .i64 ll),some (.slice (some (p.add ll)) dd (z - ll)),none,none,none] (fun ix vx=>match ix with | 3=>(fun u=>∃g,u=.pointer (some ⟨g,0,none⟩)) vx | 7=>(fun u=>∃g,u=.pointer (some ⟨g,0,none⟩)) vx | 8=>(fun u=>∃g,u=.pointer (some ⟨g,0,none⟩)) vx | 9=>(fun u=>∃g,u=.pointer (some ⟨g,0,none⟩)) vx | _=>True) (fun ix vx=>match ix with | 3=>(fun u=>[Bok (ptB u) N]) vx | 7=>(fun u=>[Bok (ptB u) R]) vx | 8=>(fun u=>[Bok (ptB u) N]) vx | 9=>(fun u=>[Bok (ptB u) R]) vx | _=>[]) (fun _=>[]) 10 61
             [some 53,some 54,some 55,some 56,some 57,some 58,some 59,some 60,some 2,some 3]
             [[],[],[0,1],[2],[],[],[4,5],[6,3],[3,7,0,1,2,3],[7,8,0,1,2,3,4,5,6,7,8]]
             [[],[],[0,1],[0,1,2],[],[],[4,5],[0,1,2,3,4,5,6],[0,1,2,3,4,5,6,7],[0,1,2,3,4,5,6,7,8]]
             [[],[],[],[],[],[],[],[],[3],[7]] [[],[],[],[],[],[],[],[],[],[]] [(4,.int .i64 ll),(10,.slice (some p) mm z)]
             (by kernel_rfl) rfl (by decide) (by rfl) (by decide +kernel) rfl rfl (by simp) (W) ?hstep ?hend
            case hstep =>
             refine⟨?p0,⟨?p1,⟨?p2,⟨?p3,⟨?p4,⟨?p5,⟨?p6,⟨?p7,⟨?p8,⟨?p9,trivial⟩⟩⟩⟩⟩⟩⟩⟩⟩⟩
             case p0 | p1 | p2 | p4 | p5 =>
              intro x wx A h d o m q H K hK;replace hK:=hid hK;clear m q d;repeat (obtain⟨_,o⟩:=o)
              refine so ?_;go_step;exact hK.out _ _ rfl H
             case p3 =>
              intro x wx A h d o m q H K b;have f9:=tq m 2;have hK:Hid (∀(v:Value) (w' : World),(∃g,v=.pointer (some ⟨g,0,none⟩))->Sp w0 ((Bok (ptB v) N)::h) w'->K (A.put (some 56) v) w'):=hid b;clear b o m d;refine so ?_;go_wp2_with fail
              refine(xbook_yes (some p) ll z N H a6.out (q _ a5.out) Y.out).mono ?_;rintro _ w9 ⟨gq,rfl,H9⟩;exact hK.out _ _ ⟨gq,rfl⟩ H9
             case p6 =>
              intro x wx A h d o m q H K b;have g0:=tq m 4;have g3:=tq m 5;have hK:=hid b;clear b o m q d;refine so ?_;go_wp2_with fail
              exact hK.out _ _ rfl H
             case p7 =>
              intro x wx A h d o m q H K b;have g4:=tq m 6;have hK:Hid (∀(v:Value) (w' : World),(∃g,v=.pointer (some ⟨g,0,none⟩))->Sp w0 ((Bok (ptB v) R)::h) w'->K (A.put (some 60) v) w'):=hid b;clear b o m d;refine so ?_;go_wp2_with fail
              refine(xbook_yes (some (p.add ll)) dd (z - ll) R H d2.out (q _ d1.out) d3.out).mono ?_;rintro _ w9 ⟨gq,rfl,H9⟩;exact hK.out _ _ ⟨gq,rfl⟩ H9
             case p8 =>
              intro x wx A h d o m q H K b;have d4:∃g,(x 3)=.pointer (some ⟨g,0,none⟩):=(m 3 (by decide)).1;have d6:=(m 3 (by decide)).2 56 rfl;replace H:Sp w0 ((Bok (ptB (x 3)) N)::h) wx:=H;have hK:Hid (∀(v:Value) (w' : World),(∃g,v=.pointer (some ⟨g,0,none⟩))->Sp w0 ((Bok (ptB v) N)::h) w'->K (A.put (some 2) v) w'):=hid b;clear b o m q d;obtain⟨g9,O⟩:=d4;rw [O] at H d6;refine so ?_;go_step;exact hK.out _ _ ⟨g9,rfl⟩ H
             case p9 =>
              intro x wx A h d o m q H K b;have d7:∃g,(x 7)=.pointer (some ⟨g,0,none⟩):=(m 7 (by decide)).1;have d8:=(m 7 (by decide)).2 60 rfl;replace H:Sp w0 ((Bok (ptB (x 7)) R)::h) wx:=H;have hK:Hid (∀(v:Value) (w' : World),(∃g,v=.pointer (some ⟨g,0,none⟩))->Sp w0 ((Bok (ptB v) R)::h) w'->K (A.put (some 3) v) w'):=hid b;clear b o m q d;obtain⟨g9,O⟩:=d7;rw [O] at H d8;refine so ?_;go_step;exact hK.out _ _ ⟨g9,rfl⟩ H
            case hend =>
             intro x wx A hA m H;replace H:Sp w0 ((Bok (ptB (x 8)) N)::(Bok (ptB (x 9)) R)::_::_::_::_::_::L) wx:=H;have y8:∃g,(x 8)=.pointer (some ⟨g,0,none⟩):=m 8 (by decide);have y9:∃g,(x 9)=.pointer (some ⟨g,0,none⟩):=m 9 (by decide);clear m;simp only [putAll,Act.put,List.setIfInBounds_toArray,List.set_cons_succ,List.set_cons_zero,Nat.reduceAdd] at hA;subst hA;obtain⟨ga,ea⟩:=y8;obtain⟨ge,eb⟩:=y9;rw [ea,eb] at H ⊢;clear ea eb;go_wp2_with fail
             go_ret2;exact XPost.yes D.out ⟨ga,ge,rfl,H.pick 7 [1,0,3,4]⟩
           ·have D:Hid (T=.error 20):=by rw [<- n.out,if_neg Q]; exact hid rfl
            have c1 : PI.book R=false:=by simpa using Q
            have Y:=hid J;have d3:=hid c1;clear n J Q c1;go_wp2_with fail
            refine Zb (L:=Row 3 1 (.slice (some p) mm z) mm (cellsN G)::Rr gr l a7::XpB gx gr vo most vb::Bok gb fj::Row 3 1 (.slice (some C) 19 19) 19 (cellsN fj)::L) [some (.slice (some p) mm z),some (.int .i64 ll),some (.slice (some p) ll z),none,some (.slice (some p) mm z),some (.int .i64 ll),some (.slice (some (p.add ll)) dd (z - ll)),none,none,none] (fun ix vx=>match ix with | 3=>(fun u=>∃g,u=.pointer (some ⟨g,0,none⟩)) vx | 7=>(fun _=>False) vx | 8=>(fun u=>∃g,u=.pointer (some ⟨g,0,none⟩)) vx | _=>True) (fun ix vx=>match ix with | 3=>(fun u=>[Bok (ptB u) N]) vx | _=>[]) (fun _=>[]) 10 61
             [some 53,some 54,some 55,some 56,some 57,some 58,some 59,some 60,some 2,some 3]
             [[],[],[0,1],[2],[],[],[4,5],[6,3],[3,7,0,1,2,3],[7,8,0,1,2,3,4,5,6,7,8]]
             [[],[],[0,1],[0,1,2],[],[],[4,5],[0,1,2,3,4,5,6],[0,1,2,3,4,5,6,7],[0,1,2,3,4,5,6,7,8]]
             [[],[],[],[],[],[],[],[],[],[]] [[],[],[],[],[],[],[],[],[],[]] [(4,.int .i64 ll),(10,.slice (some p) mm z)]
             (by kernel_rfl) rfl (by decide) (by rfl) (by decide +kernel) rfl rfl (by simp) (W) ?hstep ?hend
            case hstep =>
             refine⟨?p0,⟨?p1,⟨?p2,⟨?p3,⟨?p4,⟨?p5,⟨?p6,⟨?p7,⟨?p8,⟨?p9,trivial⟩⟩⟩⟩⟩⟩⟩⟩⟩⟩
             case p0 | p1 | p2 | p4 | p5 =>
              intro x wx A h d o m q H K hK;replace hK:=hid hK;clear m q d;repeat (obtain⟨_,o⟩:=o)
              refine so ?_;go_step;exact hK.out _ _ rfl H
             case p3 =>
              intro x wx A h d o m q H K b;have f9:=tq m 2;have hK:Hid (∀(v:Value) (w' : World),(∃g,v=.pointer (some ⟨g,0,none⟩))->Sp w0 ((Bok (ptB v) N)::h) w'->K (A.put (some 56) v) w'):=hid b;clear b o m d;refine so ?_;go_wp2_with fail
              refine(xbook_yes (some p) ll z N H a6.out (q _ a5.out) Y.out).mono ?_;rintro _ w9 ⟨gq,rfl,H9⟩;exact hK.out _ _ ⟨gq,rfl⟩ H9
             case p6 =>
              intro x wx A h d o m q H K b;have g0:=tq m 4;have g3:=tq m 5;have hK:=hid b;clear b o m q d;refine so ?_;go_wp2_with fail
              exact hK.out _ _ rfl H
             case p7 =>
              intro x wx A h d o m q H K b;replace d:=hid d;have g4:=tq m 6;have hK:=hid b;clear b o m;refine so ?_;go_wp2_with fail
              refine(Xu (some (p.add ll)) dd (z - ll) R H d2.out (q _ d1.out) (by omega) d3.out).mono ?_;rintro _ w9 ⟨rfl,H9⟩;go_wp2;exact⟨d.out,XPost.no D.out ((H9.sub q).pick 5 [])⟩
             case p8 =>
              intro x wx A h d o m q H K b;have d4:∃g,(x 3)=.pointer (some ⟨g,0,none⟩):=(m 3 (by decide)).1;have d6:=(m 3 (by decide)).2 56 rfl;have hK:=hid b;clear b o d;exact((m 7 (by decide)).1:False).elim
             case p9 =>
              intro x wx A h d o m q H K b;have d7:False:=(m 7 (by decide)).1;have d8:=(m 7 (by decide)).2 60 rfl;have hK:=hid b;clear b o d;exact((m 7 (by decide)).1:False).elim
            case hend =>
             intro x wx A hA m H;replace H:Sp w0 ((Bok (ptB (x 3)) N)::_::_::_::_::_::L) wx:=H;have y7:False:=m 7 (by decide);clear m;simp only [putAll,Act.put,List.setIfInBounds_toArray,List.set_cons_succ,List.set_cons_zero,Nat.reduceAdd] at hA;subst hA;exact y7.elim
          ·have D:Hid (T=.error 20):=by rw [<- n.out,if_neg J]; exact hid rfl
           have c2 : PI.book N=false:=by simpa using J
           have Y:=hid c2;clear n J c2;go_wp2_with fail
           refine Zb (L:=Row 3 1 (.slice (some p) mm z) mm (cellsN G)::Rr gr l a7::XpB gx gr vo most vb::Bok gb fj::Row 3 1 (.slice (some C) 19 19) 19 (cellsN fj)::L) [some (.slice (some p) mm z),some (.int .i64 ll),some (.slice (some p) ll z),none,some (.slice (some p) mm z),some (.int .i64 ll),some (.slice (some (p.add ll)) dd (z - ll)),none,none,none] (fun ix vx=>match ix with | 3=>(fun _=>False) vx | _=>True) (fun _ _=>[]) (fun _=>[]) 10 61
            [some 53,some 54,some 55,some 56,some 57,some 58,some 59,some 60,some 2,some 3]
            [[],[],[0,1],[2],[],[],[4,5],[6,3],[3,7,0,1,2,3],[7,8,0,1,2,3,4,5,6,7,8]]
            [[],[],[0,1],[0,1,2],[],[],[4,5],[0,1,2,3,4,5,6],[0,1,2,3,4,5,6,7],[0,1,2,3,4,5,6,7,8]]
            [[],[],[],[],[],[],[],[],[],[]] [[],[],[],[],[],[],[],[],[],[]] [(4,.int .i64 ll),(10,.slice (some p) mm z)]
            (by kernel_rfl) rfl (by decide) (by rfl) (by decide +kernel) rfl rfl (by simp) (W) ?hstep ?hend
           case hstep =>
            refine⟨?p0,⟨?p1,⟨?p2,⟨?p3,⟨?p4,⟨?p5,⟨?p6,⟨?p7,⟨?p8,⟨?p9,trivial⟩⟩⟩⟩⟩⟩⟩⟩⟩⟩
            case p0 | p1 | p2 | p4 | p5 =>
             intro x wx A h d o m q H K hK;replace hK:=hid hK;clear m q d;repeat (obtain⟨_,o⟩:=o)
             refine so ?_;go_step;exact hK.out _ _ rfl H
            case p3 =>
             intro x wx A h d o m q H K b;replace d:=hid d;have f9:=tq m 2;have hK:=hid b;clear b o m;refine so ?_;go_wp2_with fail
             refine(Xu (some p) ll z N H a6.out (q _ a5.out) (by omega) Y.out).mono ?_;rintro _ w9 ⟨rfl,H9⟩;go_wp2;exact⟨d.out,XPost.no D.out ((H9.sub q).pick 5 [])⟩
            case p6 =>
             intro x wx A h d o m q H K b;have g0:=tq m 4;have g3:=tq m 5;have hK:=hid b;clear b o m q d;refine so ?_;go_wp2_with fail
             exact hK.out _ _ rfl H
            case p7 =>
             intro x wx A h d o m q H K b;have g4:=tq m 6;have hK:=hid b;clear b o d;exact((m 3 (by decide)).1:False).elim
            case p8 =>
             intro x wx A h d o m q H K b;have d4:False:=(m 3 (by decide)).1;have d6:=(m 3 (by decide)).2 56 rfl;have hK:=hid b;clear b o d;exact((m 3 (by decide)).1:False).elim
            case p9 =>
             intro x wx A h d o m q H K b;have d7:True:=(m 7 (by decide)).1;have d8:=(m 7 (by decide)).2 60 rfl;have hK:=hid b;clear b o d;exact((m 3 (by decide)).1:False).elim
           case hend =>
            intro x wx A hA m H;replace H:Sp w0 (_::_::_::_::_::L) wx:=H;have y3:False:=m 3 (by decide);clear m;simp only [putAll,Act.put,List.setIfInBounds_toArray,List.set_cons_succ,List.set_cons_zero,Nat.reduceAdd] at hA;subst hA;exact y3.elim
       ·have D:Hid (T=.error 20):=by rw [<- n.out,if_neg M]; exact hid rfl
        have HB:=hid (Xu (some C) 19 19 fj H5 P.out.symm (row_ent 0 rfl) (by omega) (by simpa using M));clear M n;go_wp2_with fail
        refine HB.out.mono ?_;rintro _ w6 ⟨rfl,H6⟩;go_wp2;exact⟨rfl,XPost.no D.out (H6.pick 3 [])⟩
end Go.Proofs.YtnjpnmpemhldcaaGreatDoor

