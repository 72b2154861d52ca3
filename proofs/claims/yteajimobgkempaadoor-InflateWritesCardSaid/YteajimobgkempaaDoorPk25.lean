/- A pack. -/
import Derived.Test.YteajimobgkempaaDoorPk24
set_option linter.all false
set_option maxRecDepth 100000
set_option maxHeartbeats 8000000
namespace Go.Proofs.YteajimobgkempaaDoor
variable {w0 w:World} {L:List Pr}
open Go.RowKit
def XPost {α:Type} (w0:World) (L:List Pr) (T:Except Nat α) (okp:α->Ending->World->Prop) (e:Ending) (w' : World):Prop :=
 match T with
 | .error c=>e=.panicked (pan c)/\Sp w0 L w'
 | .ok r=>okp r e w'
theorem XPost.no {α:Type} {w0:World} {T:Except Nat α} {okp:α->Ending->World->Prop} {c:Nat} {w' : World} (h:T=.error c) (H:Sp w0 L w'):XPost w0 L T okp (.panicked (pan c)) w':=by
 subst h; exact⟨rfl,H⟩
theorem XPost.yes {α:Type} {w0:World} {T:Except Nat α} {okp:α->Ending->World->Prop} {r:α} {e:Ending} {w' : World} (h:T=.ok r) (H:okp r e w'):XPost w0 L T okp e w':=by
 subst h; exact H
def lenV:Value->Nat
 | .slice _ n _=>n
 | _=>0
namespace PI
section
variable {B:List Bool} {m:List Nat} {many a a1 a2 c n:Nat} {acc:List Nat}
theorem stepL_err (h:sign B m a=.error c):stepL B m many a acc=.error c:=by unfold stepL; rw [h]; rfl
theorem stepL_none (h:sign B m a=.ok (a1,16)) (h0:acc.length=0):stepL B m many a acc=.error 20:=by unfold stepL; rw [h]; simp [Except.bind,h0]
theorem stepL_16 (h:sign B m a=.ok (a1,16)) (h0:¬ acc.length=0):stepL B m many a acc=(number B a1 2).bind fun n=>fill many acc (acc.getD (acc.length - 1) 0) (3+n.2) n.1:=by
 unfold stepL;rw [h];have e:∀ {α:Type} (x y:α),(if acc.length=0 then x else y)=y:=fun x y=>if_neg h0;exact e _ _
theorem stepL_17 (h:sign B m a=.ok (a1,17)):stepL B m many a acc=(number B a1 3).bind fun n=>fill many acc 0 (3+n.2) n.1:=by unfold stepL; rw [h]; rfl
theorem stepL_18 (h:sign B m a=.ok (a1,18)):stepL B m many a acc=(number B a1 7).bind fun n=>fill many acc 0 (11+n.2) n.1:=by unfold stepL; rw [h]; rfl
theorem stepL_s {s:Nat} (h:sign B m a=.ok (a1,s)) (h6:¬ s=16) (h7:¬ s=17) (h8:¬ s=18):stepL B m many a acc=fill many acc s 1 a1:=by unfold stepL; rw [h]; show(if s=16 then _ else if s=17 then _ else if s=18 then _ else _)=_; rw [if_neg h6,if_neg h7,if_neg h8]
end
theorem rows_lt (m:List Nat):∀s ∈ PH.rows m,s<m.length:=by
 intro s a;have:∀n,∀s ∈ PH.rowsB m n,s<m.length:=by
  intro n;induction n with
  | zero=>intro s a; cases a
  | succ n ih =>
   intro s a;rw [PH.rowsB] at a;rcases List.mem_append.1 a with a | a
   ·exact ih s a
   ·unfold PH.idx at a;exact List.mem_range.1 (List.mem_filter.1 a).1
 exact this 15 s a
theorem getD_le {l:List Nat} {b:Nat} (h:∀x ∈ l,x<=b) (i:Nat):l.getD i 0<=b:=by
 rw [List.getD_eq_getElem?_getD];cases hg:l[i]? with
 | none=>exact Nat.zero_le _
 | some x=>exact h x (List.mem_of_getElem? hg)
theorem next_lt (m:List Nat) (l:List Bool):∀k n,(PH.nextFrom m l k n).2.2<=m.length:=by
 intro k;induction k with
 | zero=>intro n; exact Nat.zero_le _
 | succ k ih =>
  intro n;rw [PH.nextFrom];split
  ·exact Nat.zero_le _
  split
  ·dsimp only
   exact getD_le (l:=PH.rows m) (b:=m.length) (fun x hx=>Nat.le_of_lt (rows_lt m x hx)) _
  ·exact ih _
theorem sign_lt {B:List Bool} {m:List Nat} {a:Nat} {r:Nat × Nat} (h:sign B m a=.ok r):r.2<=m.length:=by
 have b:=next_lt m (B.drop a) (mostN m) 0;unfold sign at h;split at h
 ·cases h; exact b
 ·cases h
end PI
theorem WP (gx gr gb:Nat) (l:List UInt8) (most at_ many:Nat) (vo vb:Value) (m:List Nat) (H:Sp w0 (Rr gr l at_::XpB gx gr vo most vb::Bok gb m::L) w) (ha:at_<=8 * l.length) (hl:l.length<=100000000) (hs:PH.sum m<=32768) (hm:m.length<=1000) (hmany:many<=1000) :
  Calls Tryd.prog 141 #[.pointer (some ⟨gx,0,none⟩),.pointer (some ⟨gb,0,none⟩),.int .i64 many] w
   (XPost w0 L (PI.lens (PBits.ofB l) m many (many+1) at_ []) fun r e w'=>∃v,e=.returned v/\Sp w0 (Row 3 1 v r.2.length (cellsN r.2)::Rr gr l r.1::XpB gx gr vo most vb::Bok gb m::L) w'):=by
 obtain⟨i0,hi,a2,a3,a4⟩:=info_parts infoJ;obtain⟨T,hT⟩:=exq (PI.lens (PBits.ofB l) m many (many+1) at_ []);rw [hT];have HT:=hid hT;have HL:=hid hl;have HS:=hid hs;clear hT hs;go_enter Tryd.func141,Tryd.ntmps141
 go_wp2_with fail
 go_loopw [7] (fun c7 wr=>∃(a f:Nat) (acc:List Nat),a<=8 * l.length/\acc.length<=many/\many<acc.length+f/\(∀x ∈ acc,x<=1000)/\PI.lens (PBits.ofB l) m many f a acc=T/\Sp w0 (Row 3 1 c7 acc.length (cellsN acc)::Rr gr l a::XpB gx gr vo most vb::Bok gb m::L) wr) (fun c7 _=>many - lenV c7)
 case atStart=>exact⟨at_,many+1,[],ha,Nat.zero_le _,by simp,fun x hx=>(by cases hx),HT.out,H.rowNil _ _⟩
 case round =>
  obtain⟨a,f,acc,b1,c3,hf,b2,I,H1⟩:=hrel;obtain⟨VA,vc,rfl,c4,b3⟩:=Row.form H1 0 rfl;obtain⟨n,hn⟩:=exq acc.length;rw [hn] at c3 hf c4 H1 ⊢;obtain⟨f,rfl⟩:∃f',f=f'+1:=⟨f - 1,by omega⟩;rw [PI.lens,hn] at I;have B:=hid hn;have R:=hid b2;have a5:=hid b3;clear hn b2 b3 H HT;by_cases b4:n<many
  ·have k1:(n:Int)<(many:Int):=by omega
   rw [if_pos b4] at I;have b:=hid I;have h1:=ZO gx gr gb l most a vo vb m (H1.pick 4 [1,2,3,0]) b1 HL.out HS.out (by omega);have HC:=hid h1;clear I h1;go_wp2_with fail
   refine HC.out.mono ?_;intro e9 w2 F;cases hr:PI.sign (PBits.ofB l) m a with
   | error c =>
    rw [hr] at F;obtain⟨rfl,S⟩:=F;have C:Hid (T=.error c):=by rw [<- b.out,PI.stepL_err hr]; rfl
    clear hr HC b;go_wp2;exact⟨rfl,XPost.no C.out S.tail⟩
   | ok r =>
    obtain⟨j,s⟩:=r;rw [hr] at F;obtain⟨rfl,S⟩:=F;have h2:=PI.sign_ok (by rw [PBits.ofB_length]; exact b1) hr;rw [PBits.ofB_length] at h2;have U:j<=8 * l.length:=h2.2;have d0:s<=1000:=Nat.le_trans (PI.sign_lt hr) hm;have V:=hid hr;clear hr HC h2;show _;by_cases b5:s=16
    ·subst b5;by_cases a6:n=0
     ·have k2:(n:Int)=0:=by omega
      have k3:((n:Int) == 0)=true:=by simpa using k2
      have C:Hid (T=.error 20):=by rw [<- b.out,PI.stepL_none V.out (by rw [B.out]; exact a6)]; rfl
      subst a6;clear b V;go_wp2;exact⟨rfl,XPost.no C.out S.tail.tail2.tail⟩
     ·have k2:((n:Int) == 0)=false:=by rw [beq_eq_false_iff_ne]; omega
      have P:=hid (PI.stepL_16 (many:=many) V.out (by rw [B.out]; exact a6));obtain⟨J,b6⟩:=exq (n - 1);have y1:(n:Int) - 1=(J:Int):=by omega
      have y2:(J:Int)<(n:Int):=by omega
      obtain⟨z,hz⟩:=exq (acc.getD J 0);have N:∀(M:List Pr) (W:World) (W0:World) (k:Nat),M[k]?=some (Row 3 1 (.slice VA n vc) n (cellsN acc))->Sp W0 M W->∃ad,VA=some ad/\W.cell? (ad.add J)=some (.int .i64 z):=by
       intro M W W0 k hk HM;obtain⟨ad,e,c5⟩:=(row_ent k hk W0 W HM).at_ (k:=J) (by rw [cellsN,List.length_map,B.out]; omega);refine⟨ad,e,c5.trans ?_⟩;have b7:J<acc.length:=by rw [B.out]; omega
       rw [<- hz,List.getD_eq_getElem?_getD,List.getElem?_eq_getElem b7];simp [cellsN]
      obtain⟨ad,rfl,_⟩:=N _ _ _ 3 rfl S;have b8:=hid N;have d1:z<=1000:=by
       rw [<- hz,List.getD_eq_getElem?_getD];cases hg:acc[J]? with
       | none=>exact Nat.zero_le _
       | some x=>exact R.out x (List.mem_of_getElem? hg)
      have HZ:Hid (acc.getD (acc.length - 1) 0=z):=by rw [B.out,b6,hz]; exact hid rfl
      clear N hz b6;have hq:=Zl gx gr l most j 2 vo vb S U (by omega) HL.out;cases hr2:PI.number (PBits.ofB l) j 2 with
      | error c =>
       have C:Hid (T=.error c):=by rw [<- b.out,P.out,hr2]; rfl
       have a7:=hid hr2;clear hq hr2 b P V;go_wp2_with fail
       refine wp_region_sc (L:=Bok gb m::Row 3 1 (.slice (some ad) n vc) n (cellsN acc)::L) [some (.slice (some ad) n vc),some (.slice (some ad) n vc),some (.int .i64 n),some (.int .i64 J),some (.pointer (some (ad.add J))),some (.int .i64 z),some (.pointer (some ⟨gx,0,none⟩)),none,none,some (.int .i64 z),none] (fun ix vx=>match ix with | 7=>(fun _=>False) vx | _=>True) (fun _ _=>[]) (fun ix=>match ix with | 7=>[Rr gr l j,XpB gx gr vo most vb] | _=>[]) 11 57
        [some 24,some 25,some 26,some 27,some 28,some 29,some 30,some 31,some 32,some 8,some 9]
        [[],[],[1],[2],[0,3],[4],[],[6],[7],[5,7,0,1,2,3,4,5],[8,9,0,1,2,3,4,5,6,7,8,9]]
        [[],[],[1],[1,2],[0,1,2,3],[0,1,2,3,4],[],[6],[6,7],[0,1,2,3,4,5,6,7],[0,1,2,3,4,5,6,7,8,9]]
        [[],[],[],[],[],[],[],[],[],[],[]] [[],[],[],[],[],[],[],[],[],[],[]] [(0,.pointer (some ⟨gx,0,none⟩)),(7,.slice (some ad) n vc)]
        (by kernel_rfl) rfl (by decide) (by rfl) (by decide +kernel) rfl rfl (by simp) (S) ?hstep ?hend
       case hstep =>
        refine⟨?p0,⟨?p1,⟨?p2,⟨?p3,⟨?p4,⟨?p5,⟨?p6,⟨?p7,⟨?p8,⟨?p9,⟨?p10,trivial⟩⟩⟩⟩⟩⟩⟩⟩⟩⟩⟩
        case p0 | p1 | p2 | p3 | p4 | p6 | p9 =>
         intro x wx A q h D p Q H K G;replace G:=hid G;clear p Q h;repeat (obtain⟨_,D⟩:=D)
         refine so ?_;go_step;exact G.out _ _ rfl H
        case p5 =>
         intro x wx A q h D p Q H K i;have c6:=tq p 4;have G:=hid i;clear i D p h;have hc:wx.cell? (ad.add J)=some (.int .i64 z):=Q (fun w=>w.cell? (ad.add J)=some (.int .i64 z)) (fun _ _ H=>by obtain⟨c8,e9,F⟩:=b8.out _ _ _ 1 rfl H; injection e9 with e9; rw [e9]; exact F) _ _ H;refine so ?_;go_step;exact G.out _ _ rfl H
        case p7 =>
         intro x wx A q h D p Q H K i;replace h:=hid h;have c9:=tq p 6;replace H:Sp w0 (_::_::q) wx:=H;have G:=hid i;clear i D p;refine so ?_;go_wp2_with fail
         have F:=Zl gx gr l most j 2 vo vb H U (by omega) HL.out;rw [a7.out] at F;refine F.mono ?_;clear F;rintro _ w9 ⟨rfl,H9⟩;go_wp2;exact⟨h.out,XPost.no C.out (H9.sub Q).tail2⟩
        case p8 =>
         intro x wx A q h D p Q H K i;have d2:False:=(p 7 (by decide)).1;have d3:=(p 7 (by decide)).2 31 rfl;have G:=hid i;clear i D h;exact((p 7 (by decide)).1:False).elim
        case p10 =>
         intro x wx A q h D p Q H K i;have d4:True:=(p 8 (by decide)).1;have d5:=(p 8 (by decide)).2 32 rfl;have G:=hid i;clear i D h;exact((p 7 (by decide)).1:False).elim
       case hend =>
        intro x wx A hA p H;replace H:Sp w0 (_::_::L) wx:=H;have y7:False:=p 7 (by decide);clear p;simp only [putAll,Act.put,List.setIfInBounds_toArray,List.set_cons_succ,List.set_cons_zero,Nat.reduceAdd] at hA;subst hA;exact y7.elim
      | ok r2 =>
       obtain⟨e1,X⟩:=PI.number_ok hr2;have hx:=PI.numAt_small (PBits.ofB l) j 2 2 (by omega);subst e1;obtain⟨xn,E⟩:=exq (PI.numAt (PBits.ofB l) j 2);rw [E] at hr2 hx;rw [PBits.ofB_length] at X;have a7:=hid hr2;obtain⟨kk,y⟩:=exq (3+xn);have y3:(3:Int)+(xn:Int)=(kk:Int):=by omega
       have a8:1<=kk:=by omega
       have b9:kk<=4096:=by omega
       have g:Hid (PI.stepL (PBits.ofB l) m many a acc=PI.fill many acc z kk (j+2)):=by
        rw [P.out,hr2];show PI.fill many acc _ (3+xn) (j+2)=_;rw [HZ.out,y]
       clear hq hr2 E y P V;go_wp2_with fail
       refine wp_region_sc (L:=Bok gb m::Row 3 1 (.slice (some ad) n vc) n (cellsN acc)::L) [some (.slice (some ad) n vc),some (.slice (some ad) n vc),some (.int .i64 n),some (.int .i64 J),some (.pointer (some (ad.add J))),some (.int .i64 z),some (.pointer (some ⟨gx,0,none⟩)),some (.int .i64 xn),some (.int .i64 kk),some (.int .i64 z),some (.int .i64 kk)] (fun _ _=>True) (fun ix vx=>match ix with | 7=>(fun _=>[Rr gr l (j+2),XpB gx gr vo most vb]) vx | _=>[]) (fun ix=>match ix with | 7=>[Rr gr l j,XpB gx gr vo most vb] | _=>[]) 11 57
        [some 24,some 25,some 26,some 27,some 28,some 29,some 30,some 31,some 32,some 8,some 9]
        [[],[],[1],[2],[0,3],[4],[],[6],[7],[5,7,0,1,2,3,4,5],[8,9,0,1,2,3,4,5,6,7,8,9]]
        [[],[],[1],[1,2],[0,1,2,3],[0,1,2,3,4],[],[6],[6,7],[0,1,2,3,4,5,6,7],[0,1,2,3,4,5,6,7,8,9]]
        [[],[],[],[],[],[],[],[],[],[],[]] [[],[],[],[],[],[],[],[],[],[],[]] [(0,.pointer (some ⟨gx,0,none⟩)),(7,.slice (some ad) n vc)]
        (by kernel_rfl) rfl (by decide) (by rfl) (by decide +kernel) rfl rfl (by simp) (S) ?hstep ?hend
       case hstep =>
        refine⟨?p0,⟨?p1,⟨?p2,⟨?p3,⟨?p4,⟨?p5,⟨?p6,⟨?p7,⟨?p8,⟨?p9,⟨?p10,trivial⟩⟩⟩⟩⟩⟩⟩⟩⟩⟩⟩
        case p0 | p1 | p2 | p3 | p4 | p6 | p8 | p9 | p10 =>
         intro x wx A q h D p Q H K G;replace G:=hid G;clear p Q h;repeat (obtain⟨_,D⟩:=D)
         refine so ?_;go_step;exact G.out _ _ rfl H
        case p5 =>
         intro x wx A q h D p Q H K i;have c6:=tq p 4;have G:=hid i;clear i D p h;have hc:wx.cell? (ad.add J)=some (.int .i64 z):=Q (fun w=>w.cell? (ad.add J)=some (.int .i64 z)) (fun _ _ H=>by obtain⟨c8,e9,F⟩:=b8.out _ _ _ 1 rfl H; injection e9 with e9; rw [e9]; exact F) _ _ H;refine so ?_;go_step;exact G.out _ _ rfl H
        case p7 =>
         intro x wx A q h D p Q H K i;have c9:=tq p 6;replace H:Sp w0 (_::_::q) wx:=H;have G:=hid i;clear i D p Q h;refine so ?_;go_wp2_with fail
         have F:=Zl gx gr l most j 2 vo vb H U (by omega) HL.out;rw [a7.out] at F;refine F.mono ?_;clear F;rintro _ w9 ⟨rfl,H9⟩;exact G.out _ _ rfl H9
       case hend =>
        intro x wx A hA p H;replace H:Sp w0 (_::_::_::_::L) wx:=H;have y9:x 9=.int .i64 z:=p 9 (by decide);have c0:x 10=.int .i64 kk:=p 10 (by decide);clear p;simp only [putAll,Act.put,List.setIfInBounds_toArray,List.set_cons_succ,List.set_cons_zero,Nat.reduceAdd] at hA;subst hA;rw [y9,c0];clear y9 c0;by_cases d:many - n<kk
        ·have j1:(kk:Int) > (many:Int) - (n:Int):=by omega
         have C:Hid (T=.error 20):=by
          rw [<- b.out,g.out];unfold PI.fill;rw [B.out,if_pos d]; exact hid rfl
         clear b g;go_wp2;exact⟨rfl,XPost.no C.out (H.pick 4 [])⟩
        ·have j1:¬ (kk:Int) > (many:Int) - (n:Int):=by omega
         have O:Hid (PI.lens (PBits.ofB l) m many f (j+2) (acc++List.replicate kk z)=T):=by
          rw [<- b.out,g.out];unfold PI.fill;rw [B.out,if_neg d]; exact hid rfl
         clear b g;go_wp2_with fail
         have Y:=H.newBk [.int .i64 z] 3;refine(repeatI_ok _ 1 (.int .i64 z) kk Y (fun _ _ H=>Rd.of_blk (H.blk 0 rfl)) rfl (by omega) (by omega)).mono ?_;rintro _ w4 ⟨gq,rfl,Z⟩;have H6:=Z.pick 6 [5,0,2,3,4];have a0:=a5.out;go_wp2_with (at_builtin; refine wpList_append_sp rfl _ _ 51 rfl 3 i0 (.int .i64 0) 1 8 Tryd.underlying51 hi a2 a3 a4 rfl (by decide) _ n (cellsN acc) rfl H6 (some ⟨gq,0,none⟩) kk kk (List.replicate kk (.int .i64 z)) rfl (by rw [List.length_replicate,Nat.mul_one]) (row_ent 1 rfl _ _ H6) (fun u hu=>by rw [(List.mem_replicate.1 hu).2]; rfl) (by unfold maxLen; omega) (by omega) ?_)
         intro v5 w5 H7 _;obtain⟨a9,b0,rfl,_,_⟩:=Row.form H7 0 rfl;have t:(acc++List.replicate kk z).length=n+kk:=by rw [List.length_append,List.length_replicate,B.out]
         have o:=hid t;clear t Y Z;go_wp2;go_roundw
         case rel =>
          refine⟨(j+2),f,acc++List.replicate kk z,by omega,by rw [o.out]; omega,by rw [o.out]; omega,fun x hx=>?_,O.out,?_⟩
          ·rcases List.mem_append.1 hx with hx | hx
           ·exact R.out x hx
           ·rw [(List.mem_replicate.1 hx).2]; omega
          ·rw [o.out];have ec:cellsN (acc++List.replicate kk z)=cellsN acc++List.replicate kk (.int .i64 z):=by unfold cellsN; rw [List.map_append,List.map_replicate] <;> rfl
           rw [ec];exact H7.pick 5 [0,2,3,4]
         case measure=>simp only [lenV]; omega
    ·have d6:((s:Int) == 16)=false:=by rw [beq_eq_false_iff_ne]; omega
     by_cases c1:s=17
     ·subst c1;have P:=hid (PI.stepL_17 (acc:=acc) (many:=many) V.out);have hq:=Zl gx gr l most j 3 vo vb S U (by omega) HL.out;have HQ:=hid hq;clear hq V;go_wp2_with fail
      refine HQ.out.mono ?_;intro e8 w3 h8;cases hr2:PI.number (PBits.ofB l) j 3 with
      | error c =>
       rw [hr2] at h8;obtain⟨rfl,H3⟩:=h8;have C:Hid (T=.error c):=by rw [<- b.out,P.out,hr2]; rfl
       clear hr2 HQ b P;go_wp2;exact⟨rfl,XPost.no C.out H3.tail2⟩
      | ok r2 =>
       obtain⟨e1,X⟩:=PI.number_ok hr2;have hx:=PI.numAt_small (PBits.ofB l) j 3 3 (by omega);subst e1;obtain⟨x,E⟩:=exq (PI.numAt (PBits.ofB l) j 3);rw [hr2] at h8;rw [E] at hr2 hx h8;rw [PBits.ofB_length] at X;obtain⟨rfl,H3⟩:=h8;obtain⟨kk,y⟩:=exq (3+x);have y3:(3:Int)+(x:Int)=(kk:Int):=by omega
       have a8:1<=kk:=by omega
       have b9:kk<=4096:=by omega
       have g:Hid (PI.stepL (PBits.ofB l) m many a acc=PI.fill many acc 0 kk (j+3)):=by
        rw [P.out,hr2];show PI.fill many acc _ (3+x) (j+3)=_;rw [y]
       clear hr2 E y P HQ;show _;by_cases d:many - n<kk
       ·have j1:(kk:Int) > (many:Int) - (n:Int):=by omega
        have C:Hid (T=.error 20):=by
         rw [<- b.out,g.out];unfold PI.fill;rw [B.out,if_pos d]; exact hid rfl
        clear b g;go_wp2;exact⟨rfl,XPost.no C.out (H3.pick 4 [])⟩
       ·have j1:¬ (kk:Int) > (many:Int) - (n:Int):=by omega
        have O:Hid (PI.lens (PBits.ofB l) m many f (j+3) (acc++List.replicate kk 0)=T):=by
         rw [<- b.out,g.out];unfold PI.fill;rw [B.out,if_neg d]; exact hid rfl
        clear b g;go_wp2_with fail
        have Y:=H3.newBk [.int .i64 0] 3;refine(repeatI_ok _ 1 (.int .i64 0) kk Y (fun _ _ H=>Rd.of_blk (H.blk 0 rfl)) rfl (by omega) (by omega)).mono ?_;rintro _ w4 ⟨gq,rfl,Z⟩;have H6:=Z.pick 6 [5,0,2,3,4];have a0:=a5.out;go_wp2_with (at_builtin; refine wpList_append_sp rfl _ _ 51 rfl 3 i0 (.int .i64 0) 1 8 Tryd.underlying51 hi a2 a3 a4 rfl (by decide) _ n (cellsN acc) rfl H6 (some ⟨gq,0,none⟩) kk kk (List.replicate kk (.int .i64 0)) rfl (by rw [List.length_replicate,Nat.mul_one]) (row_ent 1 rfl _ _ H6) (fun u hu=>by rw [(List.mem_replicate.1 hu).2]; rfl) (by unfold maxLen; omega) (by omega) ?_)
        intro v5 w5 H7 _;obtain⟨a9,b0,rfl,_,_⟩:=Row.form H7 0 rfl;have t:(acc++List.replicate kk 0).length=n+kk:=by rw [List.length_append,List.length_replicate,B.out]
        have o:=hid t;clear t Y Z;go_wp2;go_roundw
        case rel =>
         refine⟨(j+3),f,acc++List.replicate kk 0,by omega,by rw [o.out]; omega,by rw [o.out]; omega,fun x hx=>?_,O.out,?_⟩
         ·rcases List.mem_append.1 hx with hx | hx
          ·exact R.out x hx
          ·rw [(List.mem_replicate.1 hx).2]; omega
         ·rw [o.out];have ec:cellsN (acc++List.replicate kk 0)=cellsN acc++List.replicate kk (.int .i64 0):=by unfold cellsN; rw [List.map_append,List.map_replicate] <;> rfl
          rw [ec];exact H7.pick 5 [0,2,3,4]
        case measure=>simp only [lenV]; omega
     ·have d7:((s:Int) == 17)=false:=by rw [beq_eq_false_iff_ne]; omega
      by_cases c2:s=18
      ·subst c2;have P:=hid (PI.stepL_18 (acc:=acc) (many:=many) V.out);have hq:=Zl gx gr l most j 7 vo vb S U (by omega) HL.out;have HQ:=hid hq;clear hq V;go_wp2_with fail
       refine HQ.out.mono ?_;intro e8 w3 h8;cases hr2:PI.number (PBits.ofB l) j 7 with
       | error c =>
        rw [hr2] at h8;obtain⟨rfl,H3⟩:=h8;have C:Hid (T=.error c):=by rw [<- b.out,P.out,hr2]; rfl
        clear hr2 HQ b P;go_wp2;exact⟨rfl,XPost.no C.out H3.tail2⟩
       | ok r2 =>
        obtain⟨e1,X⟩:=PI.number_ok hr2;have hx:=PI.numAt_small (PBits.ofB l) j 7 7 (by omega);subst e1;obtain⟨x,E⟩:=exq (PI.numAt (PBits.ofB l) j 7);rw [hr2] at h8;rw [E] at hr2 hx h8;rw [PBits.ofB_length] at X;obtain⟨rfl,H3⟩:=h8;obtain⟨kk,y⟩:=exq (11+x);have y3:(11:Int)+(x:Int)=(kk:Int):=by omega
        have a8:1<=kk:=by omega
        have b9:kk<=4096:=by omega
        have g:Hid (PI.stepL (PBits.ofB l) m many a acc=PI.fill many acc 0 kk (j+7)):=by
         rw [P.out,hr2];show PI.fill many acc _ (11+x) (j+7)=_;rw [y]
        clear hr2 E y P HQ;show _;by_cases d:many - n<kk
        ·have j1:(kk:Int) > (many:Int) - (n:Int):=by omega
         have C:Hid (T=.error 20):=by
          rw [<- b.out,g.out];unfold PI.fill;rw [B.out,if_pos d]; exact hid rfl
         clear b g;go_wp2;exact⟨rfl,XPost.no C.out (H3.pick 4 [])⟩
        ·have j1:¬ (kk:Int) > (many:Int) - (n:Int):=by omega
         have O:Hid (PI.lens (PBits.ofB l) m many f (j+7) (acc++List.replicate kk 0)=T):=by
          rw [<- b.out,g.out];unfold PI.fill;rw [B.out,if_neg d]; exact hid rfl
         clear b g;go_wp2_with fail
         have Y:=H3.newBk [.int .i64 0] 3;refine(repeatI_ok _ 1 (.int .i64 0) kk Y (fun _ _ H=>Rd.of_blk (H.blk 0 rfl)) rfl (by omega) (by omega)).mono ?_;rintro _ w4 ⟨gq,rfl,Z⟩;have H6:=Z.pick 6 [5,0,2,3,4];have a0:=a5.out;go_wp2_with (at_builtin; refine wpList_append_sp rfl _ _ 51 rfl 3 i0 (.int .i64 0) 1 8 Tryd.underlying51 hi a2 a3 a4 rfl (by decide) _ n (cellsN acc) rfl H6 (some ⟨gq,0,none⟩) kk kk (List.replicate kk (.int .i64 0)) rfl (by rw [List.length_replicate,Nat.mul_one]) (row_ent 1 rfl _ _ H6) (fun u hu=>by rw [(List.mem_replicate.1 hu).2]; rfl) (by unfold maxLen; omega) (by omega) ?_)
         intro v5 w5 H7 _;obtain⟨a9,b0,rfl,_,_⟩:=Row.form H7 0 rfl;have t:(acc++List.replicate kk 0).length=n+kk:=by rw [List.length_append,List.length_replicate,B.out]
         have o:=hid t;clear t Y Z;go_wp2;go_roundw
         case rel =>
          refine⟨(j+7),f,acc++List.replicate kk 0,by omega,by rw [o.out]; omega,by rw [o.out]; omega,fun x hx=>?_,O.out,?_⟩
          ·rcases List.mem_append.1 hx with hx | hx
           ·exact R.out x hx
           ·rw [(List.mem_replicate.1 hx).2]; omega
          ·rw [o.out];have ec:cellsN (acc++List.replicate kk 0)=cellsN acc++List.replicate kk (.int .i64 0):=by unfold cellsN; rw [List.map_append,List.map_replicate] <;> rfl
           rw [ec];exact H7.pick 5 [0,2,3,4]
         case measure=>simp only [lenV]; omega
      ·have d8:((s:Int) == 18)=false:=by rw [beq_eq_false_iff_ne]; omega
       have g:=hid (PI.stepL_s (acc:=acc) (many:=many) V.out b5 c1 c2);obtain⟨kk,y⟩:∃kk:Nat,(1:Nat)=kk:=⟨_,rfl⟩;have a8:1<=1:=Nat.le_refl _;clear V y;by_cases d:many - n<1
       ·have j1:(1:Int) > (many:Int) - (n:Int):=by omega
        have C:Hid (T=.error 20):=by
         rw [<- b.out,g.out];unfold PI.fill;rw [B.out,if_pos d]; exact hid rfl
        clear b g;go_wp2;exact⟨rfl,XPost.no C.out (S.pick 4 [])⟩
       ·have j1:¬ (1:Int) > (many:Int) - (n:Int):=by omega
        have O:Hid (PI.lens (PBits.ofB l) m many f j (acc++List.replicate 1 s)=T):=by
         rw [<- b.out,g.out];unfold PI.fill;rw [B.out,if_neg d]; exact hid rfl
        clear b g;go_wp2_with fail
        have Y:=S.newBk [.int .i64 s] 3;refine(repeatI_ok _ 1 (.int .i64 s) 1 Y (fun _ _ H=>Rd.of_blk (H.blk 0 rfl)) rfl (by omega) (by omega)).mono ?_;rintro _ w4 ⟨gq,rfl,Z⟩;have H6:=Z.pick 6 [5,0,2,3,4];have a0:=a5.out;go_wp2_with (at_builtin; refine wpList_append_sp rfl _ _ 51 rfl 3 i0 (.int .i64 0) 1 8 Tryd.underlying51 hi a2 a3 a4 rfl (by decide) _ n (cellsN acc) rfl H6 (some ⟨gq,0,none⟩) 1 1 (List.replicate 1 (.int .i64 s)) rfl (by rw [List.length_replicate,Nat.mul_one]) (row_ent 1 rfl _ _ H6) (fun u hu=>by rw [(List.mem_replicate.1 hu).2]; rfl) (by unfold maxLen; omega) (by omega) ?_)
        intro v5 w5 H7 _;obtain⟨a9,b0,rfl,_,_⟩:=Row.form H7 0 rfl;have t:(acc++List.replicate 1 s).length=n+1:=by rw [List.length_append,List.length_replicate,B.out]
        have o:=hid t;clear t Y Z;go_wp2;go_roundw
        case rel =>
         refine⟨j,f,acc++List.replicate 1 s,by omega,by rw [o.out]; omega,by rw [o.out]; omega,fun x hx=>?_,O.out,?_⟩
         ·rcases List.mem_append.1 hx with hx | hx
          ·exact R.out x hx
          ·rw [(List.mem_replicate.1 hx).2]; omega
         ·rw [o.out];have ec:cellsN (acc++List.replicate 1 s)=cellsN acc++List.replicate 1 (.int .i64 s):=by unfold cellsN; rw [List.map_append,List.map_replicate] <;> rfl
          rw [ec];exact H7.pick 5 [0,2,3,4]
        case measure=>simp only [lenV]; omega
  ·have k1:¬ (n:Int)<(many:Int):=by omega
   rw [if_neg b4] at I;have b:=hid I.symm;clear I;go_wp2_with fail
   go_ret;exact XPost.yes b.out ⟨_,rfl,by rw [B.out]; exact H1⟩
end Go.Proofs.YteajimobgkempaaDoor

