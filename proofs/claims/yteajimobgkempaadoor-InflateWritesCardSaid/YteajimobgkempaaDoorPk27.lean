/- A pack. -/
import Derived.Test.YteajimobgkempaaDoorPk26
set_option linter.all false
set_option maxRecDepth 100000
set_option maxHeartbeats 8000000
namespace Go.Proofs.YteajimobgkempaaDoor
variable {w0 w:World} {L:List Pr}
open Go.RowKit
namespace PI
theorem bok {α β:Type} (a:α) (f:α->Except Nat β):(Except.ok a:Except Nat α).bind f=f a:=rfl
theorem bno {α β:Type} (e:Nat) (f:α->Except Nat β):(Except.error e:Except Nat α).bind f=.error e:=rfl
theorem fill_len {many:Nat} {acc:List Nat} {v k a:Nat} {r:Nat × List Nat} (h:fill many acc v k a=.ok r) (ha:acc.length<=many):r.2.length<=many:=by
 unfold fill at h;split at h
 ·cases h
 ·cases h; simp; omega
theorem lens_done {B:List Bool} {m:List Nat} {many:Nat} : ∀(f a:Nat) (acc:List Nat) (r:Nat × List Nat),acc.length<=many->lens B m many f a acc=.ok r->r.2.length=many:=by
 intro f;induction f with
 | zero=>intro a acc r _ h; cases h
 | succ f ih =>
  intro a acc r c h;rw [lens] at h;split at h
  ·obtain⟨s,b,h⟩:=bind_ok h;refine ih _ _ _ ?_ h;unfold stepL at b;obtain⟨q,e,b⟩:=bind_ok b;split at b
   ·split at b
    ·cases b
    ·obtain⟨n,d,b⟩:=bind_ok b;exact fill_len b c
   split at b
   ·obtain⟨n,d,b⟩:=bind_ok b;exact fill_len b c
   split at b
   ·obtain⟨n,d,b⟩:=bind_ok b;exact fill_len b c
   ·exact fill_len b c
  ·cases h
   show acc.length=many;omega
theorem orderT_lt (j:Nat) (h:j<19):orderT.getD j 0<19:=by revert j; decide
theorem firsts_step {B:List Bool} {c j a:Nat} {f:List Nat} (h:j<c) (hc:c<=19):firsts B ((orderT.take c).drop j) a f=(number B a 3).bind fun r=>firsts B ((orderT.take c).drop (j+1)) r.1 (f.set (orderT.getD j 0) r.2):=by
 have b:j<(orderT.take c).length:=by rw [List.length_take]; show j<min c 19; omega
 rw [List.drop_eq_getElem_cons b,firsts];have e:(orderT.take c)[j]=orderT.getD j 0:=by
  rw [List.getElem_take,List.getD_eq_getElem?_getD,List.getElem?_eq_getElem (show j<orderT.length from(by show j<19; omega))]; rfl
 rw [e]
theorem dynamic_ok {B:List Bool} {a:Nat} {r:Nat × List Nat × List Nat} (h:dynamic B a=.ok r):book r.2.1=true/\book r.2.2=true/\r.2.1.length<=1000/\r.2.2.length<=1000:=by
 unfold dynamic at h;obtain⟨l,g,h⟩:=bind_ok h;obtain⟨d,i,h⟩:=bind_ok h;obtain⟨c,j,h⟩:=bind_ok h;split at h
 ·cases h
 rename_i h0
 obtain⟨f,k,h⟩:=bind_ok h;split at h
 ·obtain⟨q,e,h⟩:=bind_ok h;have b:=lens_done _ _ _ _ (Nat.zero_le _) e;split at h
  ·cases h
  split at h
  ·split at h
   ·rename_i h1 h2 h3
    cases h
    refine⟨h2,h3,?_,?_⟩
    ·show(q.2.take _).length<=1000;rw [List.length_take]; omega
    ·show(q.2.drop _).length<=1000;rw [List.length_drop]; omega
   ·cases h
  ·cases h
 ·cases h
end PI
theorem rd_take {w:World} {A:Option Addr} {xs:List Value} (h:Rd w A xs) (k:Nat):Rd w A (xs.take k):=fun hn=>by
 obtain⟨a,e,b⟩:=h (by rintro rfl; simp at hn);refine⟨a,e,fun j u hu=>?_⟩;rw [List.getElem?_take] at hu;split at hu
 ·exact b j u hu
 ·cases hu
theorem slice_of {e:TypeId} {VA:Option Addr} {n vc:Nat} {xs:List Value} {M:List Pr} (H:Sp w0 M w) (k:Nat) (hk:M[k]?=some (Row e 1 (.slice VA n vc) n xs)) (hn:0<n) (hx:xs.length=n):∃ad,VA=some ad:=by
 obtain⟨c,d,a,b,_,_⟩:=H.row_rd k hk;injection a with a
 subst a;obtain⟨ad,e,_⟩:=b (by intro h; rw [h] at hx; simp at hx; omega);exact⟨ad,e⟩
theorem Vo (gx gr:Nat) (l:List UInt8) (most at_:Nat) (vo vb:Value) (TL TA:Option Addr) (cl ca:Nat) (H:Sp w0 (Rr gr l at_::XpB gx gr vo most vb::L) w) (ha:at_<=8 * l.length) (hl:l.length<=100000000) (hT:Ent L (Tabs TL TA cl ca)) :
  Calls Tryd.prog 99 #[.pointer (some ⟨gx,0,none⟩)] w
   (XPost w0 L (PI.dynamic (PBits.ofB l) at_) fun r e w'=>∃g1 g2,e=.returned (.tuple #[.pointer (some ⟨g1,0,none⟩),.pointer (some ⟨g2,0,none⟩)])/\Sp w0 (Bok g2 r.2.2::Bok g1 r.2.1::Rr gr l r.1::XpB gx gr vo most vb::L) w'):=by
 obtain⟨i0,hi,g6,g7,g8⟩:=info_parts infoJ;obtain⟨T,a0⟩:=exq (PI.dynamic (PBits.ofB l) at_);rw [a0];unfold PI.dynamic at a0;have n:=hid a0;have HL:=hid hl;have h0:=hid hT;clear a0 hT;have G:=hid (Zl gx gr l most at_ 5 vo vb H ha (by omega) HL.out);go_enter Tryd.func99,Tryd.ntmps99
 go_wp2_with fail
 refine G.out.mono ?_;intro P i3 z;cases hr:PI.number (PBits.ofB l) at_ 5 with
 | error c =>
  rw [hr] at z;obtain⟨rfl,H1⟩:=z;have E:Hid (T=.error c):=by rw [<- n.out,hr]; exact hid rfl
  clear hr G n;go_wp2;exact⟨rfl,XPost.no E.out H1⟩
 | ok r =>
  obtain⟨e1,y⟩:=PI.number_ok hr;have h1:=PI.numAt_small (PBits.ofB l) at_ 5 5 (by omega);subst e1;obtain⟨n5,J⟩:=exq (PI.numAt (PBits.ofB l) at_ 5);rw [hr] at z;rw [J] at hr h1 z;rw [PBits.ofB_length] at y;obtain⟨rfl,H1⟩:=z;rw [hr,PI.bok] at n
  dsimp only at n
  clear hr G J;obtain⟨ll,e0⟩:=exq (n5+257);have z1:(n5:Int)+257=(ll:Int):=by omega
  have b1:ll<=300/\257<=ll:=by omega
  have h3:=hid e0;clear e0;have G:=hid (Zl gx gr l most (at_+5) 5 vo vb H1 y (by omega) HL.out);go_wp2_with fail
  refine G.out.mono ?_;intro P i4 z;cases hr:PI.number (PBits.ofB l) (at_+5) 5 with
  | error c =>
   rw [hr] at z;obtain⟨rfl,H2⟩:=z;have E:Hid (T=.error c):=by rw [<- n.out,hr]; exact hid rfl
   clear hr G n;go_wp2;exact⟨rfl,XPost.no E.out H2⟩
  | ok r =>
   obtain⟨e1,y⟩:=PI.number_ok hr;have h4:=PI.numAt_small (PBits.ofB l) (at_+5) 5 5 (by omega);subst e1;obtain⟨d5,J⟩:=exq (PI.numAt (PBits.ofB l) (at_+5) 5);rw [hr] at z;rw [J] at hr h4 z;rw [PBits.ofB_length] at y;obtain⟨rfl,H2⟩:=z;rw [hr,PI.bok] at n
   dsimp only at n
   clear hr G J;obtain⟨dd,e3⟩:=exq (d5+1);have z2:(d5:Int)+1=(dd:Int):=by omega
   have b3:dd<=40/\1<=dd:=by omega
   have h5:=hid e3;clear e3;have G:=hid (Zl gx gr l most (at_+5+5) 4 vo vb H2 y (by omega) HL.out);go_wp2_with fail
   refine G.out.mono ?_;intro P i5 z;cases hr:PI.number (PBits.ofB l) (at_+5+5) 4 with
   | error c =>
    rw [hr] at z;obtain⟨rfl,H3⟩:=z;have E:Hid (T=.error c):=by rw [<- n.out,hr]; exact hid rfl
    clear hr G n;go_wp2;exact⟨rfl,XPost.no E.out H3⟩
   | ok r =>
    obtain⟨e1,y⟩:=PI.number_ok hr;have h7:=PI.numAt_small (PBits.ofB l) (at_+5+5) 4 4 (by omega);subst e1;obtain⟨c4,J⟩:=exq (PI.numAt (PBits.ofB l) (at_+5+5) 4);rw [hr] at z;rw [J] at hr h7 z;rw [PBits.ofB_length] at y;obtain⟨rfl,H3⟩:=z;rw [hr,PI.bok] at n
    dsimp only at n
    clear hr G J;obtain⟨a3,e4⟩:=exq (at_+5+5+4);rw [e4] at n H3 y;obtain⟨cc,e5⟩:=exq (c4+4);rw [h3.out,h5.out,e5] at n;have z3:(c4:Int)+4=(cc:Int):=by omega
    obtain⟨b1,b2⟩:=b1;obtain⟨b3,b4⟩:=b3;have b5:cc<=19:=by omega
    clear e4 e5 H H1 H2;by_cases U:286<ll∨30<dd
    ·have E:Hid (T=.error 20):=by rw [<- n.out,if_pos U]; exact hid rfl
     clear n;by_cases i6:286<ll
     ·have q1:(ll:Int) > 286:=by omega
      go_wp2;exact⟨rfl,XPost.no E.out H3.tail2⟩
     ·have q1:¬ (ll:Int) > 286:=by omega
      have q2:(dd:Int) > 30:=by omega
      go_wp2;exact⟨rfl,XPost.no E.out H3.tail2⟩
    ·have q1:¬ (ll:Int) > 286:=by omega
     have q2:¬ (dd:Int) > 30:=by omega
     replace n:=hid (show(PI.firsts (PBits.ofB l) (PI.orderT.take cc) a3 (List.replicate 19 0)).bind _=T by rw [<- n.out,if_neg U]);have b6:ll<=286:=by omega
     have b7:dd<=30:=by omega
     clear U;go_wp2_with (at_make; refine wpList_make_sp rfl _ _ _ rfl 3 i0 (.int .i64 0) Tryd.underlying51 hi g6 g7 rfl 19 rfl rfl (by rw [g8]; omega) (by unfold maxLen; omega) H3 ?_)
     intro D w4 H4;obtain⟨FT,c6⟩:=exq (PI.firsts (PBits.ofB l) (PI.orderT.take cc) a3 (List.replicate 19 0));rw [c6] at n;have e6:=hid c6;replace H4:Sp w0 (Row 3 1 (.slice (some D) 19 19) 19 (cellsN (List.replicate 19 0))::Rr gr l a3::XpB gx gr vo most vb::L) w4:=H4;have i7:(cc:Int)<=19:=by omega
     have i8:(0:Int)<=(cc:Int):=by omega
     clear c6 H3;go_wp2_with fail
     go_loopw [31] (fun c31 wr=>∃(j a:Nat) (fj:List Nat),c31=.int .i64 j/\j<=cc/\a<=8 * l.length/\fj.length=19/\PI.firsts (PBits.ofB l) ((PI.orderT.take cc).drop j) a fj=FT/\Sp w0 (Row 3 1 (.slice (some D) 19 19) 19 (cellsN fj)::Rr gr l a::XpB gx gr vo most vb::L) wr) (fun c31 _=>cc - (intOf c31).toNat)
     case atStart=>exact⟨0,a3,List.replicate 19 0,rfl,Nat.zero_le _,y,by simp,e6.out,H4⟩
     case round =>
      obtain⟨j,a,fj,rfl,hj,e7,a1,a2,H5⟩:=hrel;clear H4 e6;by_cases e8:j<cc
      ·have k1:(j:Int)<(cc:Int):=by omega
       have a4:=PI.firsts_step (B:=PBits.ofB l) (a:=a) (f:=fj) e8 b5;rw [a2] at a4;have V:=(h0.out _ _ (H5.pick 3 [])).order j (by omega);have c3:wr.cell? ((⟨3,0,none⟩:Addr).add j)=some (.int .i64 (PI.orderT.getD j 0:Nat)):=by rw [addr0]; exact V
       have a9:=PI.orderT_lt j (by omega);obtain⟨s,hs⟩:=exq (PI.orderT.getD j 0);rw [hs] at a4 c3 a9 V;have a5:=hid a4;have Q:=hid a1;have k2:j<cc:=e8;have G:=hid (Zl gx gr l most a 3 vo vb (H5.pick 3 [1,2,0]) e7 (by omega) HL.out);clear a4 hs a2 a1;go_wp2_with fail
       refine G.out.mono ?_;intro P w6 z;cases hr:PI.number (PBits.ofB l) a 3 with
       | error c =>
        rw [hr] at z;obtain⟨rfl,H6⟩:=z;have E:Hid (T=.error c):=by rw [<- n.out,a5.out,hr]; exact hid rfl
        clear hr G n a5;go_wp2;exact⟨rfl,XPost.no E.out H6.tail⟩
       | ok r =>
        obtain⟨e1,f0⟩:=PI.number_ok hr;subst e1;obtain⟨xv,f1⟩:=exq (PI.numAt (PBits.ofB l) a 3);rw [hr] at z;rw [f1] at hr z;rw [PBits.ofB_length] at f0;obtain⟨rfl,H6⟩:=z;have HN:Hid (PI.firsts (PBits.ofB l) ((PI.orderT.take cc).drop (j+1)) (a+3) (fj.set s xv)=FT):=by
         rw [a5.out,hr]; exact hid rfl
        obtain⟨i9,c9,P,_,W,i2,b0⟩:=Sp.rowSet (H6.pick 3 [2,0,1]) (i:=s) (by omega);injection P with P e10 e11
        injection P with P
        subst P;subst e11;clear e10;have c7:∃u,w6.cell? (D.add s)=some u:=by
         rw [W];exact⟨_,List.getElem?_eq_getElem (by rw [cellsN,List.length_map,Q.out]; exact a9)⟩
        obtain⟨u,hu⟩:=c7;have HS:=hid (b0 (.int .i64 xv));clear hr G a5 W b0 c3 V f1;go_wp2_with fail
        go_roundw
        case rel =>
         refine⟨j+1,a+3,fj.set s xv,by go_num,by omega,f0,by rw [List.length_set]; exact Q.out,HN.out,?_⟩;have ec:cellsN (fj.set s xv)=(cellsN fj).set s (.int .i64 xv):=by unfold cellsN; rw [List.map_set]
         rw [ec];exact HS.out
        case measure=>first | (simp [intOf]; omega) | simp [intOf]
      ·have k1:¬ (j:Int)<(cc:Int):=by omega
       obtain rfl:j=cc:=by omega
       have b8:FT=.ok (a,fj):=by
        rw [<- a2,List.drop_eq_nil_of_le (by rw [List.length_take]; omega)]; rfl
       rw [b8,PI.bok] at n
       dsimp only at n
       have Q:=hid a1;clear a2 b8 a1;by_cases N:PI.book fj=true
       ·replace n:=hid (show(PI.lens (PBits.ofB l) fj (ll+dd) (ll+dd+1) a []).bind _=T by rw [<- n.out,if_pos N]);have f2:=PI.book_sum N;have HB:=hid (xbook_yes (some D) 19 19 fj H5 Q.out.symm (row_ent 0 rfl) N);clear N;go_wp2_with fail
        refine HB.out.mono ?_;rintro _ w6 ⟨gb,rfl,H6⟩;clear HB H5;obtain⟨mm,c8⟩:=exq (ll+dd);have y4:(ll:Int)+(dd:Int)=(mm:Int):=by omega
        rw [c8] at n;have d0:fj.length<=1000:=by rw [Q.out]; omega
        have G:=hid (WP gx gr gb l most a mm vo vb fj (H6.pick 4 [2,3,0,1]) e7 HL.out f2 d0 (by omega));have j0:=hid c8;clear c8;go_wp2_with fail
        refine G.out.mono ?_;intro P w7 z;cases hr:PI.lens (PBits.ofB l) fj mm (mm+1) a [] with
        | error c =>
         rw [hr] at z;obtain⟨rfl,X⟩:=z;have E:Hid (T=.error c):=by rw [<- n.out,hr]; exact hid rfl
         clear hr G n;go_wp2;exact⟨rfl,XPost.no E.out X.tail⟩
        | ok r =>
         obtain⟨a7,I⟩:=r;rw [hr] at z n;rw [PI.bok] at n
         dsimp only at n
         have F:I.length=mm:=PI.lens_done _ _ _ _ (Nat.zero_le _) hr;obtain⟨v7,rfl,X⟩:=z;obtain⟨VA,C,rfl,f3,f4⟩:=Row.form X 0 rfl;simp only at X f3 ⊢;rw [F] at X f3 ⊢;obtain⟨q,rfl⟩:=slice_of X 0 rfl (by omega) (by rw [cellsN,List.length_map]; exact F);have b9:=hid F;have j4:=hid f4;have Y:w7.cell? (q.add 256)=some (.int .i64 ((I.getD 256 0:Nat):Int)):=by
          obtain⟨j6,e2,h8⟩:=(row_ent 0 rfl _ _ X).at_ (k:=256) (by rw [cellsN,List.length_map,F]; omega);injection e2 with e2
          subst e2;rw [h8];have h2:256<I.length:=by rw [F]; omega
          rw [List.getD_eq_getElem?_getD,List.getElem?_eq_getElem h2];simp [cellsN]
         obtain⟨x6,f5⟩:=exq (I.getD 256 0);rw [f5] at Y n;have i1:w7.cell? ⟨q.block,q.off+256,none⟩=some (.int .i64 x6):=Y;have k3:(256:Int)<(mm:Int):=by omega
         clear hr G F f4 f5 H6;by_cases h6:x6=0
         ·have E:Hid (T=.error 20):=by rw [<- n.out,if_pos h6]; exact hid rfl
          have k4:((x6:Int) == 0)=true:=by simp [h6]
          have k5:(x6:Int)=0:=by omega
          clear n;go_wp2;exact⟨rfl,XPost.no E.out (X.pick 5 [])⟩
         ·have k4:((x6:Int) == 0)=false:=by rw [beq_eq_false_iff_ne]; omega
          replace n:=hid (show(if PI.book (I.take ll)=true then _ else _)=T by rw [<- n.out,if_neg h6]);have j1:(ll:Int)<=(mm:Int):=by omega
          have j2:(ll:Int)<=(C:Int):=by omega
          have j3:¬ C=ll:=by omega
          have j5:mm - ll=dd:=by omega
          have d1:Ent (Row 3 1 (.slice (some q) mm C) mm (cellsN I)::Rr gr l a7::XpB gx gr vo most vb::Bok gb fj::Row 3 1 (.slice (some D) 19 19) 19 (cellsN fj)::L) fun w=>Rd w (some q) (cellsN I):=row_ent 0 rfl;have f6:Ent (Row 3 1 (.slice (some q) mm C) mm (cellsN I)::Rr gr l a7::XpB gx gr vo most vb::Bok gb fj::Row 3 1 (.slice (some D) 19 19) 19 (cellsN fj)::L) fun w=>Rd w (some q) (cellsN (I.take ll)):=fun _ _ H=>by
           have:=rd_take (d1 _ _ H) ll;unfold cellsN at this ⊢;rw [List.map_take]; exact this
          have f7:Ent (Row 3 1 (.slice (some q) mm C) mm (cellsN I)::Rr gr l a7::XpB gx gr vo most vb::Bok gb fj::Row 3 1 (.slice (some D) 19 19) 19 (cellsN fj)::L) fun w=>Rd w (some (q.add ll)) (cellsN (I.drop ll)):=fun _ _ H=>by
           have:=(d1 _ _ H).part ll (I.length - ll);unfold cellsN at this ⊢;rw [List.map_drop];rw [List.take_of_length_le (by rw [List.length_drop,List.length_map]; omega)] at this;exact this
          have a6:=hid f6;have d2:=hid f7;have f8:ll=(I.take ll).length:=by rw [List.length_take,b9.out]; omega
          have f9:dd=(I.drop ll).length:=by rw [List.length_drop,b9.out]; omega
          have a8:=hid f8;have d3:=hid f9;obtain⟨O,c0⟩:=exq (I.take ll);obtain⟨S,c1⟩:=exq (I.drop ll);rw [c0] at n a6 a8;rw [c1] at n d2 d3;clear d1 f6 f7 f8 f9 c0 c1;by_cases M:PI.book O=true
          ·replace n:=hid (show(if PI.book S=true then _ else _)=T by rw [<- n.out,if_pos M]);by_cases R:PI.book S=true
           ·have E:Hid (T=.ok (a7,O,S)):=by rw [<- n.out,if_pos R]; exact hid rfl
            have Z:=hid M;have d4:=hid R;clear n M R;go_wp2_with fail
            refine wp_region_sc (L:=Row 3 1 (.slice (some q) mm C) mm (cellsN I)::Rr gr l a7::XpB gx gr vo most vb::Bok gb fj::Row 3 1 (.slice (some D) 19 19) 19 (cellsN fj)::L) [some (.slice (some q) mm C),some (.int .i64 ll),some (.slice (some q) ll C),none,some (.slice (some q) mm C),some (.int .i64 ll),some (.slice (some (q.add ll)) dd (C - ll)),none,none,none] (fun ix vx=>match ix with | 3=>(fun u=>∃g,u=.pointer (some ⟨g,0,none⟩)) vx | 7=>(fun u=>∃g,u=.pointer (some ⟨g,0,none⟩)) vx | 8=>(fun u=>∃g,u=.pointer (some ⟨g,0,none⟩)) vx | 9=>(fun u=>∃g,u=.pointer (some ⟨g,0,none⟩)) vx | _=>True) (fun ix vx=>match ix with | 3=>(fun u=>[Bok (ptB u) O]) vx | 7=>(fun u=>[Bok (ptB u) S]) vx | 8=>(fun u=>[Bok (ptB u) O]) vx | 9=>(fun u=>[Bok (ptB u) S]) vx | _=>[]) (fun _=>[]) 10 61
             [some 53,some 54,some 55,some 56,some 57,some 58,some 59,some 60,some 2,some 3]
             [[],[],[0,1],[2],[],[],[4,5],[6,3],[3,7,0,1,2,3],[7,8,0,1,2,3,4,5,6,7,8]]
             [[],[],[0,1],[0,1,2],[],[],[4,5],[0,1,2,3,4,5,6],[0,1,2,3,4,5,6,7],[0,1,2,3,4,5,6,7,8]]
             [[],[],[],[],[],[],[],[],[3],[7]] [[],[],[],[],[],[],[],[],[],[]] [(4,.int .i64 ll),(10,.slice (some q) mm C)]
             (by kernel_rfl) rfl (by decide) (by rfl) (by decide +kernel) rfl rfl (by simp) (X) ?hstep ?hend
            case hstep =>
             refine⟨?p0,⟨?p1,⟨?p2,⟨?p3,⟨?p4,⟨?p5,⟨?p6,⟨?p7,⟨?p8,⟨?p9,trivial⟩⟩⟩⟩⟩⟩⟩⟩⟩⟩
             case p0 | p1 | p2 | p4 | p5 =>
              intro x wx A h d o m t H K p;replace p:=hid p;clear m t d;repeat (obtain⟨_,o⟩:=o)
              refine so ?_;go_step;exact p.out _ _ rfl H
             case p3 =>
              intro x wx A h d o m t H K b;have g0:=tq m 2;have p:Hid (∀(v:Value) (w' : World),(∃g,v=.pointer (some ⟨g,0,none⟩))->Sp w0 ((Bok (ptB v) O)::h) w'->K (A.put (some 56) v) w'):=hid b;clear b o m d;refine so ?_;go_wp2_with fail
              refine(xbook_yes (some q) ll C O H a8.out (t _ a6.out) Z.out).mono ?_;rintro _ w9 ⟨gq,rfl,H9⟩;exact p.out _ _ ⟨gq,rfl⟩ H9
             case p6 =>
              intro x wx A h d o m t H K b;have g3:=tq m 4;have g4:=tq m 5;have p:=hid b;clear b o m t d;refine so ?_;go_wp2_with fail
              exact p.out _ _ rfl H
             case p7 =>
              intro x wx A h d o m t H K b;have g5:=tq m 6;have p:Hid (∀(v:Value) (w' : World),(∃g,v=.pointer (some ⟨g,0,none⟩))->Sp w0 ((Bok (ptB v) S)::h) w'->K (A.put (some 60) v) w'):=hid b;clear b o m d;refine so ?_;go_wp2_with fail
              refine(xbook_yes (some (q.add ll)) dd (C - ll) S H d3.out (t _ d2.out) d4.out).mono ?_;rintro _ w9 ⟨gq,rfl,H9⟩;exact p.out _ _ ⟨gq,rfl⟩ H9
             case p8 =>
              intro x wx A h d o m t H K b;have d6:∃g,(x 3)=.pointer (some ⟨g,0,none⟩):=(m 3 (by decide)).1;have d7:=(m 3 (by decide)).2 56 rfl;replace H:Sp w0 ((Bok (ptB (x 3)) O)::h) wx:=H;have p:Hid (∀(v:Value) (w' : World),(∃g,v=.pointer (some ⟨g,0,none⟩))->Sp w0 ((Bok (ptB v) O)::h) w'->K (A.put (some 2) v) w'):=hid b;clear b o m t d;obtain⟨g9,P⟩:=d6;rw [P] at H d7;refine so ?_;go_step;exact p.out _ _ ⟨g9,rfl⟩ H
             case p9 =>
              intro x wx A h d o m t H K b;have d8:∃g,(x 7)=.pointer (some ⟨g,0,none⟩):=(m 7 (by decide)).1;have d9:=(m 7 (by decide)).2 60 rfl;replace H:Sp w0 ((Bok (ptB (x 7)) S)::h) wx:=H;have p:Hid (∀(v:Value) (w' : World),(∃g,v=.pointer (some ⟨g,0,none⟩))->Sp w0 ((Bok (ptB v) S)::h) w'->K (A.put (some 3) v) w'):=hid b;clear b o m t d;obtain⟨g9,P⟩:=d8;rw [P] at H d9;refine so ?_;go_step;exact p.out _ _ ⟨g9,rfl⟩ H
            case hend =>
             intro x wx A hA m H;replace H:Sp w0 ((Bok (ptB (x 8)) O)::(Bok (ptB (x 9)) S)::_::_::_::_::_::L) wx:=H;have y8:∃g,(x 8)=.pointer (some ⟨g,0,none⟩):=m 8 (by decide);have y9:∃g,(x 9)=.pointer (some ⟨g,0,none⟩):=m 9 (by decide);clear m;simp only [putAll,Act.put,List.setIfInBounds_toArray,List.set_cons_succ,List.set_cons_zero,Nat.reduceAdd] at hA;subst hA;obtain⟨ga,ea⟩:=y8;obtain⟨ge,eb⟩:=y9;rw [ea,eb] at H ⊢;clear ea eb;go_wp2_with fail
             go_ret2;exact XPost.yes E.out ⟨ga,ge,rfl,H.pick 7 [1,0,3,4]⟩
           ·have E:Hid (T=.error 20):=by rw [<- n.out,if_neg R]; exact hid rfl
            have c2 : PI.book S=false:=by simpa using R
            have Z:=hid M;have d4:=hid c2;clear n M R c2;go_wp2_with fail
            refine wp_region_sc (L:=Row 3 1 (.slice (some q) mm C) mm (cellsN I)::Rr gr l a7::XpB gx gr vo most vb::Bok gb fj::Row 3 1 (.slice (some D) 19 19) 19 (cellsN fj)::L) [some (.slice (some q) mm C),some (.int .i64 ll),some (.slice (some q) ll C),none,some (.slice (some q) mm C),some (.int .i64 ll),some (.slice (some (q.add ll)) dd (C - ll)),none,none,none] (fun ix vx=>match ix with | 3=>(fun u=>∃g,u=.pointer (some ⟨g,0,none⟩)) vx | 7=>(fun _=>False) vx | 8=>(fun u=>∃g,u=.pointer (some ⟨g,0,none⟩)) vx | _=>True) (fun ix vx=>match ix with | 3=>(fun u=>[Bok (ptB u) O]) vx | _=>[]) (fun _=>[]) 10 61
             [some 53,some 54,some 55,some 56,some 57,some 58,some 59,some 60,some 2,some 3]
             [[],[],[0,1],[2],[],[],[4,5],[6,3],[3,7,0,1,2,3],[7,8,0,1,2,3,4,5,6,7,8]]
             [[],[],[0,1],[0,1,2],[],[],[4,5],[0,1,2,3,4,5,6],[0,1,2,3,4,5,6,7],[0,1,2,3,4,5,6,7,8]]
             [[],[],[],[],[],[],[],[],[],[]] [[],[],[],[],[],[],[],[],[],[]] [(4,.int .i64 ll),(10,.slice (some q) mm C)]
             (by kernel_rfl) rfl (by decide) (by rfl) (by decide +kernel) rfl rfl (by simp) (X) ?hstep ?hend
            case hstep =>
             refine⟨?p0,⟨?p1,⟨?p2,⟨?p3,⟨?p4,⟨?p5,⟨?p6,⟨?p7,⟨?p8,⟨?p9,trivial⟩⟩⟩⟩⟩⟩⟩⟩⟩⟩
             case p0 | p1 | p2 | p4 | p5 =>
              intro x wx A h d o m t H K p;replace p:=hid p;clear m t d;repeat (obtain⟨_,o⟩:=o)
              refine so ?_;go_step;exact p.out _ _ rfl H
             case p3 =>
              intro x wx A h d o m t H K b;have g0:=tq m 2;have p:Hid (∀(v:Value) (w' : World),(∃g,v=.pointer (some ⟨g,0,none⟩))->Sp w0 ((Bok (ptB v) O)::h) w'->K (A.put (some 56) v) w'):=hid b;clear b o m d;refine so ?_;go_wp2_with fail
              refine(xbook_yes (some q) ll C O H a8.out (t _ a6.out) Z.out).mono ?_;rintro _ w9 ⟨gq,rfl,H9⟩;exact p.out _ _ ⟨gq,rfl⟩ H9
             case p6 =>
              intro x wx A h d o m t H K b;have g3:=tq m 4;have g4:=tq m 5;have p:=hid b;clear b o m t d;refine so ?_;go_wp2_with fail
              exact p.out _ _ rfl H
             case p7 =>
              intro x wx A h d o m t H K b;replace d:=hid d;have g5:=tq m 6;have p:=hid b;clear b o m;refine so ?_;go_wp2_with fail
              refine(YO (some (q.add ll)) dd (C - ll) S H d3.out (t _ d2.out) (by omega) d4.out).mono ?_;rintro _ w9 ⟨rfl,H9⟩;go_wp2;exact⟨d.out,XPost.no E.out ((H9.sub t).pick 5 [])⟩
             case p8 =>
              intro x wx A h d o m t H K b;have d6:∃g,(x 3)=.pointer (some ⟨g,0,none⟩):=(m 3 (by decide)).1;have d7:=(m 3 (by decide)).2 56 rfl;have p:=hid b;clear b o d;exact((m 7 (by decide)).1:False).elim
             case p9 =>
              intro x wx A h d o m t H K b;have d8:False:=(m 7 (by decide)).1;have d9:=(m 7 (by decide)).2 60 rfl;have p:=hid b;clear b o d;exact((m 7 (by decide)).1:False).elim
            case hend =>
             intro x wx A hA m H;replace H:Sp w0 ((Bok (ptB (x 3)) O)::_::_::_::_::_::L) wx:=H;have y7:False:=m 7 (by decide);clear m;simp only [putAll,Act.put,List.setIfInBounds_toArray,List.set_cons_succ,List.set_cons_zero,Nat.reduceAdd] at hA;subst hA;exact y7.elim
          ·have E:Hid (T=.error 20):=by rw [<- n.out,if_neg M]; exact hid rfl
           have c5 : PI.book O=false:=by simpa using M
           have Z:=hid c5;clear n M c5;go_wp2_with fail
           refine wp_region_sc (L:=Row 3 1 (.slice (some q) mm C) mm (cellsN I)::Rr gr l a7::XpB gx gr vo most vb::Bok gb fj::Row 3 1 (.slice (some D) 19 19) 19 (cellsN fj)::L) [some (.slice (some q) mm C),some (.int .i64 ll),some (.slice (some q) ll C),none,some (.slice (some q) mm C),some (.int .i64 ll),some (.slice (some (q.add ll)) dd (C - ll)),none,none,none] (fun ix vx=>match ix with | 3=>(fun _=>False) vx | _=>True) (fun _ _=>[]) (fun _=>[]) 10 61
            [some 53,some 54,some 55,some 56,some 57,some 58,some 59,some 60,some 2,some 3]
            [[],[],[0,1],[2],[],[],[4,5],[6,3],[3,7,0,1,2,3],[7,8,0,1,2,3,4,5,6,7,8]]
            [[],[],[0,1],[0,1,2],[],[],[4,5],[0,1,2,3,4,5,6],[0,1,2,3,4,5,6,7],[0,1,2,3,4,5,6,7,8]]
            [[],[],[],[],[],[],[],[],[],[]] [[],[],[],[],[],[],[],[],[],[]] [(4,.int .i64 ll),(10,.slice (some q) mm C)]
            (by kernel_rfl) rfl (by decide) (by rfl) (by decide +kernel) rfl rfl (by simp) (X) ?hstep ?hend
           case hstep =>
            refine⟨?p0,⟨?p1,⟨?p2,⟨?p3,⟨?p4,⟨?p5,⟨?p6,⟨?p7,⟨?p8,⟨?p9,trivial⟩⟩⟩⟩⟩⟩⟩⟩⟩⟩
            case p0 | p1 | p2 | p4 | p5 =>
             intro x wx A h d o m t H K p;replace p:=hid p;clear m t d;repeat (obtain⟨_,o⟩:=o)
             refine so ?_;go_step;exact p.out _ _ rfl H
            case p3 =>
             intro x wx A h d o m t H K b;replace d:=hid d;have g0:=tq m 2;have p:=hid b;clear b o m;refine so ?_;go_wp2_with fail
             refine(YO (some q) ll C O H a8.out (t _ a6.out) (by omega) Z.out).mono ?_;rintro _ w9 ⟨rfl,H9⟩;go_wp2;exact⟨d.out,XPost.no E.out ((H9.sub t).pick 5 [])⟩
            case p6 =>
             intro x wx A h d o m t H K b;have g3:=tq m 4;have g4:=tq m 5;have p:=hid b;clear b o m t d;refine so ?_;go_wp2_with fail
             exact p.out _ _ rfl H
            case p7 =>
             intro x wx A h d o m t H K b;have g5:=tq m 6;have p:=hid b;clear b o d;exact((m 3 (by decide)).1:False).elim
            case p8 =>
             intro x wx A h d o m t H K b;have d6:False:=(m 3 (by decide)).1;have d7:=(m 3 (by decide)).2 56 rfl;have p:=hid b;clear b o d;exact((m 3 (by decide)).1:False).elim
            case p9 =>
             intro x wx A h d o m t H K b;have d8:True:=(m 7 (by decide)).1;have d9:=(m 7 (by decide)).2 60 rfl;have p:=hid b;clear b o d;exact((m 3 (by decide)).1:False).elim
           case hend =>
            intro x wx A hA m H;replace H:Sp w0 (_::_::_::_::_::L) wx:=H;have y3:False:=m 3 (by decide);clear m;simp only [putAll,Act.put,List.setIfInBounds_toArray,List.set_cons_succ,List.set_cons_zero,Nat.reduceAdd] at hA;subst hA;exact y3.elim
       ·have E:Hid (T=.error 20):=by rw [<- n.out,if_neg N]; exact hid rfl
        have HB:=hid (YO (some D) 19 19 fj H5 Q.out.symm (row_ent 0 rfl) (by omega) (by simpa using N));clear N n;go_wp2_with fail
        refine HB.out.mono ?_;rintro _ w6 ⟨rfl,H6⟩;go_wp2;exact⟨rfl,XPost.no E.out (H6.pick 3 [])⟩
end Go.Proofs.YteajimobgkempaaDoor

