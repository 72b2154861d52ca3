/- A pack. -/
import Derived.Test.YteajimobgkempaaDoorPk27
set_option linter.all false
set_option maxRecDepth 100000
set_option maxHeartbeats 8000000
namespace Go.Proofs.YteajimobgkempaaDoor
variable {w0 w:World} {L:List Pr}
open Go.RowKit
namespace PI
theorem getD_mem {t:List (Nat × Nat)} {s:Nat} (h:s<t.length):t.getD s (0,0) ∈ t:=by
 rw [List.getD_eq_getElem?_getD,List.getElem?_eq_getElem h];exact List.getElem_mem h
theorem away_one:∀p ∈ awayT,1<=p.1:=by decide
theorem count_far {B:List Bool} {s a:Nat} {r:Nat × Nat} (h:count B awayT s a=.ok r):1<=r.2/\r.2<=200000:=by
 unfold count at h;split at h
 ·rename_i hs
  obtain⟨q,b,h⟩:=bind_ok h;obtain⟨rfl,_⟩:=number_ok b;have d:=away_one _ (getD_mem hs);have c:=YN _ (getD_mem hs);have e:=numAt_small B a (awayT.getD s (0,0)).2 13 c.2;cases h
  show 1<=_+_/\_+_<=200000;omega
 ·cases h
theorem length_le {B:List Bool} {s a:Nat} {r:Nat × Nat} (h:length B s a=.ok r):r.2<=200000:=by
 unfold length at h;split at h
 ·cases h; show 258<=200000; omega
 ·unfold count at h;split at h
  ·rename_i hs
   obtain⟨q,b,h⟩:=bind_ok h;obtain⟨rfl,_⟩:=number_ok b;have c:=Yl _ (getD_mem hs);have d:=numAt_small B a (lengthsT.getD s (0,0)).2 13 c.2;cases h
   show _+_<=200000;omega
  ·cases h
section
variable {B:List Bool} {most a a1 s:Nat} {m d:List Nat} {out:List UInt8}
theorem stepP_err {c:Nat} (h:sign B m a=.error c):stepP B most m d a out=.error c:=by unfold stepP; rw [h]; rfl
theorem stepP_end (h:sign B m a=.ok (a1,256)):stepP B most m d a out=.ok (true,a1,out):=by unfold stepP; rw [h]; rfl
theorem stepP_lit (h:sign B m a=.ok (a1,s)) (hs:s<256):stepP B most m d a out=if most - out.length<1 then .error 22 else .ok (false,a1,out++[UInt8.ofNat s]):=by
 unfold stepP;rw [h,bok]
 dsimp only
 rw [if_neg (by omega),if_pos hs]
theorem stepP_cpy (h:sign B m a=.ok (a1,s)) (hs:256<s):stepP B most m d a out=(length B (s - 257) a1).bind fun n=>(sign B d n.1).bind fun t=>(count B awayT t.2 t.1).bind fun k =>
   if out.length<k.2 then .error 20 else if most - out.length<n.2 then .error 22 else .ok (false,k.1,copy k.2 n.2 out):=by
 unfold stepP;rw [h,bok]
 dsimp only
 rw [if_neg (by omega),if_neg (by omega)]
theorem pressed_step {f:Nat} : pressed B most m d (f+1) a out=(stepP B most m d a out).bind fun r=>if r.1 then .ok r.2 else pressed B most m d f r.2.1 r.2.2:=rfl
end
end PI
def atOf (gr:Nat) (w:World):Nat:=match w.cell? ⟨gr,1,none⟩ with
 | some (.int _ n)=>n.toNat
 | _=>0
theorem Ym {gr a:Nat} {l:List UInt8} (H:Sp w0 (Rr gr l a::L) w):atOf gr w=a:=by
 obtain⟨_,_,_,_,_,b,_⟩:=Zo H;unfold atOf;rw [b]; rfl
theorem Yn (gx gr ga gd:Nat) (l out0:List UInt8) (most at_:Nat) (vo0 vb:Value) (m d:List Nat) (TL TA:Option Addr) (cl ca:Nat)
  (H:Sp w0 (Rr gr l at_::XpB gx gr vo0 most vb::Bok ga m::Bok gd d::Row 5 1 vo0 out0.length (cells8 out0)::L) w) (ha:at_<=8 * l.length) (hl:l.length<=100000000) (ho:out0.length<=most) (hm:most<=1000000000)
  (hs1:PH.sum m<=32768) (hs2:PH.sum d<=32768) (hm1:m.length<=1000) (hd1:d.length<=1000) (hT:Ent L (Tabs TL TA cl ca)) :
  Calls Tryd.prog 97 #[.pointer (some ⟨gx,0,none⟩),.pointer (some ⟨ga,0,none⟩),.pointer (some ⟨gd,0,none⟩)] w
   (XPost w0 L (PI.pressed (PBits.ofB l) most m d ((PBits.ofB l).length+1) at_ out0) fun r e w'=>e=.returned (.tuple #[])/\∃vo',Sp w0 (Rr gr l r.1::XpB gx gr vo' most vb::Bok ga m::Bok gd d::Row 5 1 vo' r.2.length (cells8 r.2)::L) w'):=by
 obtain⟨i0,hi,c2,c3,c4⟩:=info_parts info8;obtain⟨T,b2⟩:=exq (PI.pressed (PBits.ofB l) most m d ((PBits.ofB l).length+1) at_ out0);rw [b2];have c5:=hid b2;have HL:=hid hl;have G:=hid hT;have e8:=hid hs1;have a5:=hid hs2;have HM:=hid hm;clear b2 hT hs1 hs2;go_enter Tryd.func97,Tryd.ntmps97
 go_wp2_with fail
 go_loopw [] (fun wr=>∃(a f:Nat) (vo:Value) (out:List UInt8),a<=8 * l.length/\8 * l.length<a+f/\out.length<=most/\PI.pressed (PBits.ofB l) most m d f a out=T/\Sp w0 (Rr gr l a::XpB gx gr vo most vb::Bok ga m::Bok gd d::Row 5 1 vo out.length (cells8 out)::L) wr) (fun wr=>8 * l.length+1 - atOf gr wr)
 case atStart=>exact⟨at_,(PBits.ofB l).length+1,vo0,out0,ha,by rw [PBits.ofB_length]; omega,ho,c5.out,H⟩
 case round =>
  obtain⟨a,f,vo,out,c6,hf,c7,b3,H1⟩:=hrel;clear H c5;obtain⟨f,rfl⟩:∃f',f=f'+1:=⟨f - 1,by omega⟩;rw [PI.pressed_step] at b3;have B:=hid b3;have HA:Hid (atOf gr wr=a):=hid (Ym H1);obtain⟨N,O,rfl,h5,c8⟩:=Row.form H1 4 rfl;have f0:=hid c8;have HQ:=hid (ZO gx gr ga l most a _ vb m H1 c6 HL.out e8.out (by omega));clear b3 c8;go_wp2_with fail
  refine HQ.out.mono ?_;intro e9 w2 E;cases hr:PI.sign (PBits.ofB l) m a with
  | error c =>
   rw [hr] at E;obtain⟨rfl,U⟩:=E;have I:Hid (T=.error c):=by rw [<- B.out,PI.stepP_err hr]; exact hid rfl
   clear hr HQ B;go_wp2;exact⟨rfl,XPost.no I.out (U.pick 2 [])⟩
  | ok r =>
   obtain⟨a1,s⟩:=r;rw [hr] at E;obtain⟨rfl,U⟩:=E;have h2:=PI.sign_ok (by rw [PBits.ofB_length]; exact c6) hr;rw [PBits.ofB_length] at h2;have b4:a1<=8 * l.length:=h2.2;have d0:a<a1:=h2.1;have h7:s<=1000:=Nat.le_trans (PI.sign_lt hr) hm1;have V:=hid hr;simp only at U;clear hr HQ h2 H1;show _;by_cases h6:s=256
   ·subst h6;have I:Hid (T=.ok (a1,out)):=by rw [<- B.out,PI.stepP_end V.out]; exact hid rfl
    clear B V;go_wp2_with fail
    first
     | go_end0
     | refine bodyPost_ret (results_none rfl _ _ _) rfl ?_
    exact XPost.yes I.out ⟨rfl,_,U⟩
   ·have g6:((s:Int) == 256)=false:=by rw [beq_eq_false_iff_ne]; omega
    have h8 : ¬ (s:Int)=256:=by omega
    by_cases f1:s<256
    ·have g7:(s:Int)<256:=by omega
     have F:=hid (PI.stepP_lit (most:=most) (d:=d) (out:=out) V.out f1);have J:=hid (Z8 gx gr most out.length O 1 N vb (U.pick 2 [1]) c7 (by omega) (by omega));clear V;go_wp2_with fail
     refine J.out.mono ?_;rintro _ w3 ⟨rfl,p⟩;have P:=p.sep U;by_cases C:most - out.length<1
     ·rw [if_pos C];have I:Hid (T=.error 22):=by rw [<- B.out,F.out,if_pos C]; exact hid rfl
      clear B F J;go_wp2;exact⟨rfl,XPost.no I.out (P.pick 5 [])⟩
     ·rw [if_neg C];have HN:Hid (PI.pressed (PBits.ofB l) most m d f a1 (out++[UInt8.ofNat s])=T):=by rw [<- B.out,F.out,if_neg C]; exact hid rfl
      have c1:w3.cell? ⟨gx,1,none⟩=some (.slice N out.length O):=P.cell 1 rfl 1;have i1:IntKind.u8.wrap (s:Int)=(s:Int):=by
       have:(s:Int) % 256=(s:Int):=by omega
       simp [IntKind.wrap_u8,this]
      have H4:=P.newBk [.int .u8 s] 5;have g5:=f0.out;have d1:maxLen=9223372036854775807:=rfl;clear B F J U p;go_wp2_with (at_builtin; refine wpList_append_sp rfl _ _ 25 rfl 5 i0 (.int .u8 0) 1 1 Tryd.underlying25 hi c2 c3 c4 rfl (by decide) _ out.length (cells8 out) rfl (H4.pick 6 [5,0,1,2,3,4]) (some ⟨w3.heap.size,0,none⟩) 1 1 [.int .u8 s] rfl rfl (Rd.of_blk (H4.blk 0 rfl)) (by intro u hu; rw [List.mem_singleton.1 hu]; rfl) (by have:=HM.out; omega) (by have:=HM.out; omega) ?_)
      intro v8 w8 H8 _;obtain⟨a6,a7,rfl,_,_⟩:=Row.form H8 0 rfl;have S:=H8.pick 6 [3,0,2,4,5];have c1:w8.cell? ⟨gx,1,none⟩=some (.slice N out.length O):=S.cell 0 rfl 1;have z1:w8.frozen? ⟨gx,1,none⟩=false:=S.frozen 0 rfl 1;have d2:=S.set 1 (.slice a6 (out.length+1) a7);have HX:=hid d2;clear H8 d2 H4 P d1;go_wp2;have d3:Sp w0 (Rr gr l a1::XpB gx gr (.slice a6 (out.length+1) a7) most vb::Bok ga m::Bok gd d::Row 5 1 (.slice a6 (out.length+1) a7) (out.length+1) (cells8 out++[.int .u8 s])::L) _:=HX.out.pick 5 [2,0,3,4,1];go_roundw
      case rel =>
       have X:(out++[UInt8.ofNat s]).length=out.length+1:=by simp
       have ec:cells8 (out++[UInt8.ofNat s])=cells8 out++[.int .u8 s]:=by
        have:(UInt8.ofNat s).toNat=s:=by rw [UInt8.toNat_ofNat']; omega
        simp [cells8,this]
       refine⟨a1,f,.slice a6 (out.length+1) a7,out++[UInt8.ofNat s],b4,by omega,by rw [X]; omega,HN.out,?_⟩;rw [X,ec];exact d3
      case measure =>
       have:=Ym d3;rw [this,HA.out];omega
    ·have g7:¬ (s:Int)<256:=by omega
     have F:=hid (PI.stepP_cpy (most:=most) (d:=d) (out:=out) V.out (by omega));obtain⟨s1,hs1⟩:=exq (s - 256);obtain⟨s2,hs2⟩:=exq (s - 257);have y1:(s:Int) - 256=(s1:Int):=by omega
     have y2:(s1:Int) - 1=(s2:Int):=by omega
     rw [hs2] at F;have d4:s2<=1000000:=by omega
     have HQ:=hid (Vn gx gr l most a1 s2 _ vb TL TA cl ca U b4 HL.out (fun w0 w h=>G.out w0 w (h.pick 3 [])) d4);clear V hs1 hs2;go_wp2_with fail
     refine HQ.out.mono ?_;intro e9 w3 E;cases hr:PI.length (PBits.ofB l) s2 a1 with
     | error c =>
      rw [hr] at E;obtain⟨rfl,P⟩:=E;have I:Hid (T=.error c):=by rw [<- B.out,F.out,hr]; exact hid rfl
      clear hr HQ B F;go_wp2;exact⟨rfl,XPost.no I.out (P.pick 3 [])⟩
     | ok r =>
      obtain⟨a2,n⟩:=r;rw [hr] at E;obtain⟨rfl,P⟩:=E;have i2:n<=200000:=PI.length_le hr;have h3:=PI.length_ok hr;have Y:a2<=8 * l.length:=by have:=h3.2 (by rw [PBits.ofB_length]; exact b4); rw [PBits.ofB_length] at this; exact this
      have d5:a<a2:=Nat.lt_of_lt_of_le d0 h3.1;rw [hr,PI.bok] at F;simp only at P F;clear hr HQ h3 U;have hq:=ZO gx gr gd l most a2 _ vb d (P.pick 5 [0,1,3,2,4]) Y HL.out a5.out (by omega);have Z:=(G.out _ _ (P.pick 5 [])).far;cases hr:PI.sign (PBits.ofB l) d a2 with
      | error c =>
       have I:Hid (T=.error c):=by rw [<- B.out,F.out,hr]; exact hid rfl
       have V:=hid hr;clear hr hq B F Z;go_wp2_with fail
       refine wp_region_sc (L:=Bok ga m::Row 5 1 (.slice N out.length O) out.length (cells8 out)::L) [some (.pointer (some ⟨gx,0,none⟩)),some (.pointer (some ⟨gx,0,none⟩)),some (.pointer (some ⟨gd,0,none⟩)),none,some (.slice TA 30 ca),none,none] (fun ix vx=>match ix with | 3=>(fun _=>False) vx | _=>True) (fun _ _=>[]) (fun ix=>match ix with | 3=>[Rr gr l a2,XpB gx gr (.slice N out.length O) most vb,Bok gd d] | _=>[]) 7 79
        [some 36,some 37,some 38,some 39,some 40,some 41,some 8]
        [[],[],[],[1,2],[],[0,3,4,3],[5,5,0,1,2,3,4,5]]
        [[],[],[],[1,2],[],[0,1,2,3,4],[0,1,2,3,4,5]]
        [[],[],[],[],[],[],[]] [[],[],[],[],[],[],[]] [(0,.pointer (some ⟨gx,0,none⟩)),(2,.pointer (some ⟨gd,0,none⟩))]
        (by kernel_rfl) rfl (by decide) (by rfl) (by decide +kernel) rfl rfl (by simp) (P.pick 5 [0,1,3,2,4]) ?hstep ?hend
       case hstep =>
        refine⟨?p0,⟨?p1,⟨?p2,⟨?p3,⟨?p4,⟨?p5,⟨?p6,trivial⟩⟩⟩⟩⟩⟩⟩
        case p0 | p1 | p2 =>
         intro x wx A g j y o D H K p;replace p:=hid p;clear o D j;repeat (obtain⟨_,y⟩:=y)
         refine so ?_;go_step;exact p.out _ _ rfl H
        case p3 =>
         intro x wx A g j y o D H K b;replace j:=hid j;have d6:=tq o 1;have d7:=tq o 2;replace H:Sp w0 (_::_::_::g) wx:=H;have p:=hid b;clear b y o;refine so ?_;go_wp2_with fail
         have E:=ZO gx gr gd l most a2 _ vb d H Y HL.out a5.out (by omega);rw [V.out] at E;refine E.mono ?_;clear E;rintro _ w9 ⟨rfl,S⟩;go_wp2;exact⟨j.out,XPost.no I.out ((S.sub D).pick 2 [])⟩
        case p4 =>
         intro x wx A g j y o D H K b;have p:=hid b;clear b y o j;have d8:=D (fun w=>w.cell? ⟨2,0,none⟩=some (.slice TA 30 ca)) (fun w0 w h=>(G.out w0 w (h.pick 2 [])).far) _ _ H;refine so ?_;go_step;exact p.out _ _ rfl H
        case p5 =>
         intro x wx A g j y o D H K b;have d9:=tq o 0;have i3:False:=(o 3 (by decide)).1;have e0:=(o 3 (by decide)).2 39 rfl;have e1:=tq o 4;have p:=hid b;clear b y j;exact((o 3 (by decide)).1:False).elim
        case p6 =>
         intro x wx A g j y o D H K b;have f2:True:=(o 5 (by decide)).1;have f3:=(o 5 (by decide)).2 41 rfl;have p:=hid b;clear b y j;exact((o 3 (by decide)).1:False).elim
       case hend =>
        intro x wx A hA o H;replace H:Sp w0 (_::_::L) wx:=H;have y3:False:=o 3 (by decide);clear o;simp only [putAll,Act.put,List.setIfInBounds_toArray,List.set_cons_succ,List.set_cons_zero,Nat.reduceAdd] at hA;subst hA;exact y3.elim
      | ok r =>
       obtain⟨a3,t⟩:=r;have h2:=PI.sign_ok (by rw [PBits.ofB_length]; exact Y) hr;rw [PBits.ofB_length] at h2;have b5:a3<=8 * l.length:=h2.2;have e2:a<a3:=Nat.lt_trans d5 h2.1;have i4:t<=1000:=Nat.le_trans (PI.sign_lt hr) hd1;have V:=hid hr;rw [hr,PI.bok] at F;simp only at F;clear hr hq h2;cases hr2:PI.count (PBits.ofB l) PI.awayT t a3 with
       | error c =>
        have I:Hid (T=.error c):=by rw [<- B.out,F.out,hr2]; exact hid rfl
        have b6:=hid hr2;clear hr2 B F Z;go_wp2_with fail
        refine wp_region_sc (L:=Bok ga m::Row 5 1 (.slice N out.length O) out.length (cells8 out)::L) [some (.pointer (some ⟨gx,0,none⟩)),some (.pointer (some ⟨gx,0,none⟩)),some (.pointer (some ⟨gd,0,none⟩)),some (.int .i64 t),some (.slice TA 30 ca),none,none] (fun ix vx=>match ix with | 5=>(fun _=>False) vx | _=>True) (fun ix vx=>match ix with | 3=>(fun _=>[Rr gr l a3,XpB gx gr (.slice N out.length O) most vb,Bok gd d]) vx | _=>[]) (fun ix=>match ix with | 3=>[Rr gr l a2,XpB gx gr (.slice N out.length O) most vb,Bok gd d] | _=>[]) 7 79
         [some 36,some 37,some 38,some 39,some 40,some 41,some 8]
         [[],[],[],[1,2],[],[0,3,4,3],[5,5,0,1,2,3,4,5]]
         [[],[],[],[1,2],[],[0,1,2,3,4],[0,1,2,3,4,5]]
         [[],[],[],[],[],[3],[]] [[],[],[],[],[],[],[]] [(0,.pointer (some ⟨gx,0,none⟩)),(2,.pointer (some ⟨gd,0,none⟩))]
         (by kernel_rfl) rfl (by decide) (by rfl) (by decide +kernel) rfl rfl (by simp) (P.pick 5 [0,1,3,2,4]) ?hstep ?hend
        case hstep =>
         refine⟨?p0,⟨?p1,⟨?p2,⟨?p3,⟨?p4,⟨?p5,⟨?p6,trivial⟩⟩⟩⟩⟩⟩⟩
         case p0 | p1 | p2 =>
          intro x wx A g j y o D H K p;replace p:=hid p;clear o D j;repeat (obtain⟨_,y⟩:=y)
          refine so ?_;go_step;exact p.out _ _ rfl H
         case p3 =>
          intro x wx A g j y o D H K b;have d6:=tq o 1;have d7:=tq o 2;replace H:Sp w0 (_::_::_::g) wx:=H;have p:=hid b;clear b y o j;refine so ?_;go_wp2_with fail
          have E:=ZO gx gr gd l most a2 _ vb d H Y HL.out a5.out (by omega);rw [V.out] at E;refine E.mono ?_;clear E;rintro _ w9 ⟨rfl,S⟩;exact p.out _ _ rfl S
         case p4 =>
          intro x wx A g j y o D H K b;have p:=hid b;clear b y o j;have d8:=D (fun w=>w.cell? ⟨2,0,none⟩=some (.slice TA 30 ca)) (fun w0 w h=>(G.out w0 w (h.pick 2 [])).far) _ _ H;refine so ?_;go_step;exact p.out _ _ rfl H
         case p5 =>
          intro x wx A g j y o D H K b;replace j:=hid j;have d9:=tq o 0;have e0:=tq o 3;have e1:=tq o 4;replace H:Sp w0 (_::_::_::g) wx:=H;have p:=hid b;clear b y o;refine so ?_;go_wp2_with fail
          have E:=Wl gx gr l most a3 t _ vb TA 30 ca PI.awayT H b5 HL.out (fun w0 w h=>D (fun w=>Rd w TA (cellsP PI.awayT)) (fun w0 w h=>(G.out w0 w (h.pick 2 [])).fars) w0 w (h.pick 1 [])) rfl YN (by omega);rw [b6.out] at E;refine E.mono ?_;clear E;rintro _ w9 ⟨rfl,S⟩;go_wp2;exact⟨j.out,XPost.no I.out (((S.pick 1 []).sub D).pick 2 [])⟩
         case p6 =>
          intro x wx A g j y o D H K b;have f2:False:=(o 5 (by decide)).1;have f3:=(o 5 (by decide)).2 41 rfl;have p:=hid b;clear b y j;exact((o 5 (by decide)).1:False).elim
        case hend =>
         intro x wx A hA o H;replace H:Sp w0 (_::_::L) wx:=H;have y5:False:=o 5 (by decide);clear o;simp only [putAll,Act.put,List.setIfInBounds_toArray,List.set_cons_succ,List.set_cons_zero,Nat.reduceAdd] at hA;subst hA;exact y5.elim
       | ok r =>
        obtain⟨a4,back⟩:=r;have f4:=PI.count_far hr2;have h4:=PI.count_ok hr2;have f5:a4<=8 * l.length:=by have:=h4.2 (by rw [PBits.ofB_length]; exact b5); rw [PBits.ofB_length] at this; exact this
        have g8:a<a4:=Nat.lt_of_lt_of_le e2 h4.1;have b6:=hid hr2;rw [hr2,PI.bok] at F;simp only at F f4;clear hr2 h4 Z;go_wp2_with fail
        refine wp_region_sc (L:=Bok ga m::Row 5 1 (.slice N out.length O) out.length (cells8 out)::L) [some (.pointer (some ⟨gx,0,none⟩)),some (.pointer (some ⟨gx,0,none⟩)),some (.pointer (some ⟨gd,0,none⟩)),some (.int .i64 t),some (.slice TA 30 ca),some (.int .i64 back),some (.int .i64 back)] (fun _ _=>True) (fun ix vx=>match ix with | 3=>(fun _=>[Rr gr l a3,XpB gx gr (.slice N out.length O) most vb,Bok gd d]) vx | 5=>(fun _=>[Rr gr l a4,XpB gx gr (.slice N out.length O) most vb,Bok gd d]) vx | _=>[]) (fun ix=>match ix with | 3=>[Rr gr l a2,XpB gx gr (.slice N out.length O) most vb,Bok gd d] | _=>[]) 7 79
         [some 36,some 37,some 38,some 39,some 40,some 41,some 8]
         [[],[],[],[1,2],[],[0,3,4,3],[5,5,0,1,2,3,4,5]]
         [[],[],[],[1,2],[],[0,1,2,3,4],[0,1,2,3,4,5]]
         [[],[],[],[],[],[3],[]] [[],[],[],[],[],[],[]] [(0,.pointer (some ⟨gx,0,none⟩)),(2,.pointer (some ⟨gd,0,none⟩))]
         (by kernel_rfl) rfl (by decide) (by rfl) (by decide +kernel) rfl rfl (by simp) (P.pick 5 [0,1,3,2,4]) ?hstep ?hend
        case hstep =>
         refine⟨?p0,⟨?p1,⟨?p2,⟨?p3,⟨?p4,⟨?p5,⟨?p6,trivial⟩⟩⟩⟩⟩⟩⟩
         case p0 | p1 | p2 | p6 =>
          intro x wx A g j y o D H K p;replace p:=hid p;clear o D j;repeat (obtain⟨_,y⟩:=y)
          refine so ?_;go_step;exact p.out _ _ rfl H
         case p3 =>
          intro x wx A g j y o D H K b;have d6:=tq o 1;have d7:=tq o 2;replace H:Sp w0 (_::_::_::g) wx:=H;have p:=hid b;clear b y o j;refine so ?_;go_wp2_with fail
          have E:=ZO gx gr gd l most a2 _ vb d H Y HL.out a5.out (by omega);rw [V.out] at E;refine E.mono ?_;clear E;rintro _ w9 ⟨rfl,S⟩;exact p.out _ _ rfl S
         case p4 =>
          intro x wx A g j y o D H K b;have p:=hid b;clear b y o j;have d8:=D (fun w=>w.cell? ⟨2,0,none⟩=some (.slice TA 30 ca)) (fun w0 w h=>(G.out w0 w (h.pick 2 [])).far) _ _ H;refine so ?_;go_step;exact p.out _ _ rfl H
         case p5 =>
          intro x wx A g j y o D H K b;have d9:=tq o 0;have e0:=tq o 3;have e1:=tq o 4;replace H:Sp w0 (_::_::_::g) wx:=H;have p:=hid b;clear b y o j;refine so ?_;go_wp2_with fail
          have E:=Wl gx gr l most a3 t _ vb TA 30 ca PI.awayT H b5 HL.out (fun w0 w h=>D (fun w=>Rd w TA (cellsP PI.awayT)) (fun w0 w h=>(G.out w0 w (h.pick 2 [])).fars) w0 w (h.pick 1 [])) rfl YN (by omega);rw [b6.out] at E;refine E.mono ?_;clear E;rintro _ w9 ⟨rfl,S⟩;exact p.out _ _ rfl S
        case hend =>
         intro x wx A hA o H;replace H:Sp w0 (_::_::_::_::_::L) wx:=H;have y6:x 6=.int .i64 back:=o 6 (by decide);clear o;simp only [putAll,Act.put,List.setIfInBounds_toArray,List.set_cons_succ,List.set_cons_zero,Nat.reduceAdd] at hA;subst hA;rw [y6];clear y6;replace H:=H.pick 5 [0,1,3,2,4];have c1:wx.cell? ⟨gx,1,none⟩=some (.slice N out.length O):=H.cell 1 rfl 1;by_cases a9:out.length<back
         ·have k1:(back:Int) > (out.length:Int):=by omega
          have I:Hid (T=.error 20):=by rw [<- B.out,F.out,if_pos a9]; exact hid rfl
          clear B F;go_wp2;exact⟨rfl,XPost.no I.out (H.pick 5 [])⟩
         ·have k1:¬ (back:Int) > (out.length:Int):=by omega
          have a8:Hid (PI.stepP (PBits.ofB l) most m d a out=if most - out.length<n then .error 22 else .ok (false,a4,PI.copy back n out)):=by rw [F.out,if_neg a9]; exact hid rfl
          have J:=hid (Z8 gx gr most out.length O n N vb (H.pick 2 [1]) c7 (by have:=HM.out; omega) (by omega));clear F;go_wp2_with fail
          refine J.out.mono ?_;rintro _ w5 ⟨rfl,p⟩;have H5:=p.sep H;by_cases C:most - out.length<n
          ·rw [if_pos C];have I:Hid (T=.error 22):=by rw [<- B.out,a8.out,if_pos C]; exact hid rfl
           clear B a8 J;go_wp2;exact⟨rfl,XPost.no I.out (H5.pick 5 [])⟩
          ·rw [if_neg C];obtain⟨OT,b7⟩:=exq (PI.copy back n out);have HN:Hid (PI.pressed (PBits.ofB l) most m d f a4 OT=T):=by rw [<- B.out,a8.out,if_neg C,b7]; exact hid rfl
           have f6:=hid b7;clear B a8 J b7 H p c1 P;go_wp2_with fail
           go_loopw [54] (fun c54 wr=>∃(i:Nat) (vo' : Value) (o' : List UInt8),c54=.int .i64 i/\i<=n/\o'.length=out.length+i/\PI.copy back (n - i) o'=OT/\Sp w0 (Rr gr l a4::XpB gx gr vo' most vb::Bok ga m::Bok gd d::Row 5 1 vo' o'.length (cells8 o')::L) wr) (fun c54 _=>n - (intOf c54).toNat)
           case atStart=>exact⟨0,_,out,rfl,Nat.zero_le _,rfl,f6.out,H5⟩
           case round =>
            obtain⟨i,vo',o',rfl,i5,Q,a0,H6⟩:=hrel;clear H5;by_cases h0:i<n
            ·have k2:(i:Int)<(n:Int):=by omega
             obtain⟨VB,vd,rfl,_,e3⟩:=Row.form H6 4 rfl;obtain⟨q,hq⟩:=exq (o'.length);rw [hq] at H6 Q;obtain⟨R,rfl⟩:=slice_of H6 4 rfl (by omega) (by simp [cells8,hq]);obtain⟨jx,e4⟩:=exq (q - back);have y3:(q:Int) - (back:Int)=(jx:Int):=by omega
             obtain⟨bv,b8⟩:∃bv:UInt8,o'.getD jx 0=bv:=⟨_,rfl⟩;have b0:PI.copy back (n - (i+1)) (o'++[bv])=OT:=by
              rw [<- a0,show n - i=(n - (i+1))+1 by omega,PI.copy,hq,e4,b8]
             have e5:∀(M:List Pr) (W0 W:World) (k:Nat),M[k]?=some (Row 5 1 (.slice (some R) q vd) q (cells8 o'))->Sp W0 M W->W.cell? (R.add jx)=some (.int .u8 bv.toNat):=by
              intro M W0 W k hk HM;obtain⟨i6,e,f7⟩:=(row_ent k hk W0 W HM).at_ (k:=jx) (by rw [cells8,List.length_map,hq]; omega);injection e with e
              subst e;have e6:jx<o'.length:=by rw [hq]; omega
              rw [f7,<- b8,List.getD_eq_getElem?_getD,List.getElem?_eq_getElem e6];simp [cells8]
             have f8:=hid e5;have f9:=hid b0;have g0:=hid hq;have g1:=hid e3;have i7:q<=1000000000:=by have:=HM.out; omega
             have k3:(jx:Int)<(q:Int):=by omega
             have k4:0<q:=by omega
             have b9:=hid Q;clear e5 b0 a0 hq e3 b8 e4 Q;go_wp2_with fail
             refine wp_region_sc (L:=Rr gr l a4::Bok ga m::Bok gd d::L) [some (.pointer (some ⟨gx,0,none⟩)),some (.pointer (some ⟨gx,0,none⟩)),some (.pointer (some ⟨gx,0,none⟩)),some (.pointer (some ⟨gx,1,none⟩)),some (.slice (some R) q vd),some (.pointer (some ⟨gx,0,none⟩)),some (.pointer (some ⟨gx,0,none⟩)),some (.pointer (some ⟨gx,1,none⟩)),some (.slice (some R) q vd),some (.pointer (some ⟨gx,0,none⟩)),some (.pointer (some ⟨gx,0,none⟩)),some (.pointer (some ⟨gx,1,none⟩)),some (.slice (some R) q vd),some (.int .i64 q),some (.int .i64 back),some (.int .i64 jx),some (.pointer (some (R.add jx))),some (.int .u8 bv.toNat),none,none,some (.pointer (some ⟨gx,0,none⟩)),some (.pointer (some ⟨gx,1,none⟩)),some (undef)] (fun ix vx=>match ix with | 18=>(fun v=>v=.slice (some ⟨v.ownBlock.getD 0,0,none⟩) 1 1) vx | 19=>(fun _=>True) vx | _=>True) (fun ix vx=>match ix with | 18=>(fun v=>[Bk (v.ownBlock.getD 0) 5 [.int .u8 bv.toNat]]) vx | 19=>(fun v=>[Row 5 1 v (q+1) (cells8 o'++[.int .u8 bv.toNat])]) vx | 22=>(fun _=>[Ex fun u=>Star (XpB gx gr u most vb) (Row 5 1 u (q+1) (cells8 o'++[.int .u8 bv.toNat]))]) vx | _=>[]) (fun ix=>match ix with | 19=>[Row 5 1 (.slice (some R) q vd) q (cells8 o')] | 22=>[XpB gx gr (.slice (some R) q vd) most vb] | _=>[]) 23 79
              [some 56,some 57,some 58,some 59,some 60,some 61,some 62,some 63,some 64,some 65,some 66,some 67,some 68,some 69,some 70,some 71,some 72,some 73,some 74,some 75,some 76,some 77,none]
              [[],[],[1],[2],[3],[],[5],[6],[7],[],[9],[10],[11],[12],[],[13,14],[8,15],[16],[17],[4,18],[0,0,1,2,3,4,5,6,7,8,9,10,11,12,13,14,15,16,17,18,19],[20,0,1,2,3,4,5,6,7,8,9,10,11,12,13,14,15,16,17,18,19],[21,19,19,0,1,2,3,4,5,6,7,8,9,10,11,12,13,14,15,16,17,18,19]]
              [[],[],[1],[1,2],[1,2,3],[],[5],[5,6],[5,6,7],[],[9],[9,10],[9,10,11],[9,10,11,12],[],[9,10,11,12,13,14],[5,6,7,8,9,10,11,12,13,14,15],[5,6,7,8,9,10,11,12,13,14,15,16],[5,6,7,8,9,10,11,12,13,14,15,16,17],[1,2,3,4,5,6,7,8,9,10,11,12,13,14,15,16,17,18],[0,1,2,3,4,5,6,7,8,9,10,11,12,13,14,15,16,17,18,19],[0,1,2,3,4,5,6,7,8,9,10,11,12,13,14,15,16,17,18,19,20],[0,1,2,3,4,5,6,7,8,9,10,11,12,13,14,15,16,17,18,19,20,21]]
              [[],[],[],[],[],[],[],[],[],[],[],[],[],[],[],[],[],[],[],[18],[],[],[19]] [[],[],[],[],[22],[],[],[],[22],[],[],[],[22],[],[],[],[],[19],[],[],[],[],[]] [(0,.pointer (some ⟨gx,0,none⟩)),(8,.int .i64 back)]
              (by kernel_rfl) rfl (by decide) (by rfl) (by decide +kernel) rfl rfl (by simp) (H6.pick 5 [4,1,0,2,3]) ?hstep ?hend
             case hstep =>
              refine⟨?p0,⟨?p1,⟨?p2,⟨?p3,⟨?p4,⟨?p5,⟨?p6,⟨?p7,⟨?p8,⟨?p9,⟨?p10,⟨?p11,⟨?p12,⟨?p13,⟨?p14,⟨?p15,⟨?p16,⟨?p17,⟨?p18,⟨?p19,⟨?p20,⟨?p21,⟨?p22,trivial⟩⟩⟩⟩⟩⟩⟩⟩⟩⟩⟩⟩⟩⟩⟩⟩⟩⟩⟩⟩⟩⟩⟩
              case p0 | p1 | p2 | p3 | p5 | p6 | p7 | p9 | p10 | p11 | p13 | p14 | p15 | p16 | p20 | p21 =>
               intro x wx A g j y o D H K p;replace p:=hid p;clear o D j;repeat (obtain⟨_,y⟩:=y)
               refine so ?_;go_step;exact p.out _ _ rfl H
              case p4 =>
               intro x wx A g j y o D H K b;have i8:=tq o 3;replace H:Sp w0 (_::g) wx:=H;have p:=hid b;clear b y o D j;have c:wx.cell? ⟨gx,1,none⟩=some (.slice (some R) q vd):=H.cell 0 rfl 1;refine so ?_;go_step;exact p.out _ _ rfl H
              case p8 =>
               intro x wx A g j y o D H K b;have i9:=tq o 7;replace H:Sp w0 (_::g) wx:=H;have p:=hid b;clear b y o D j;have c:wx.cell? ⟨gx,1,none⟩=some (.slice (some R) q vd):=H.cell 0 rfl 1;refine so ?_;go_step;exact p.out _ _ rfl H
              case p12 =>
               intro x wx A g j y o D H K b;have j0:=tq o 11;replace H:Sp w0 (_::g) wx:=H;have p:=hid b;clear b y o D j;have c:wx.cell? ⟨gx,1,none⟩=some (.slice (some R) q vd):=H.cell 0 rfl 1;refine so ?_;go_step;exact p.out _ _ rfl H
              case p17 =>
               intro x wx A g j y o D H K b;have j1:=tq o 16;replace H:Sp w0 (_::g) wx:=H;have p:=hid b;clear b y o D j;have c:wx.cell? (R.add jx)=some (.int .u8 bv.toNat):=f8.out _ _ _ 0 rfl H;refine so ?_;go_step;exact p.out _ _ rfl H
              case p18 =>
               intro x wx A g j y o D H K b;have j2:=tq o 17;have p:=hid b;clear b y o D j;refine so ?_;go_step;exact p.out _ _ rfl (H.newBk _ _)
              case p19 =>
               intro x wx A g j y o D H K b;have g2:=tq o 4;have g3:(x 18)=.slice (some ⟨(x 18).ownBlock.getD 0,0,none⟩) 1 1:=(o 18 (by decide)).1;have c0:=(o 18 (by decide)).2 74 rfl;replace H:Sp w0 (_::(Bk ((x 18).ownBlock.getD 0) 5 [.int .u8 bv.toNat])::g) wx:=H;have p:Hid (∀(v:Value) (w' : World),True->Sp w0 ((Row 5 1 v (q+1) (cells8 o'++[.int .u8 bv.toNat]))::g) w'->K (A.put (some 75) v) w'):=hid b;clear b y o D j;obtain⟨g9,e9⟩:=exq ((x 18).ownBlock.getD 0);rw [g3] at c0;rw [e9] at c0 H;have h1:=g1.out;have d1:maxLen=9223372036854775807:=rfl;refine so ?_;refine Zi _ _ 25 rfl 5 i0 (.int .u8 0) 1 1 Tryd.underlying25 hi c2 c3 c4 rfl (by decide) (.slice (some R) q vd) q (cells8 o') (ev g2) H (some ⟨g9,0,none⟩) 1 1 [.int .u8 bv.toNat] (ev c0) rfl (Rd.of_blk (H.blk 1 rfl)) (by intro u hu; rw [List.mem_singleton.1 hu]; rfl) (by omega) (by omega) ?_;intro v1 w2 U _;exact p.out _ _ trivial U.swap.tail
              case p22 =>
               intro x wx A g j y o D H K b;have j3:=tq o 21;have j4:True:=(o 19 (by decide)).1;have g4:=(o 19 (by decide)).2 75 rfl;replace H:Sp w0 (_::(Row 5 1 (x 19) (q+1) (cells8 o'++[.int .u8 bv.toNat]))::g) wx:=H;have p:=hid b;clear b y o D j;have c:wx.cell? ⟨gx,1,none⟩=some (.slice (some R) q vd):=H.cell 0 rfl 1;have z:wx.frozen? ⟨gx,1,none⟩=false:=H.frozen 0 rfl 1;obtain⟨A1,c9,ea,_,_⟩:=Row.form H 1 rfl;refine so ?_;rw [ea] at g4 H;go_step;exact p.out _ _ rfl (Sp.ex (.slice A1 (q+1) c9) (Sp.star (H.set 1 (.slice A1 (q+1) c9))))
             case hend =>
              intro x wx A hA o H;replace H:Sp w0 (_::_::_::_::L) wx:=H;clear o;simp only [putAll,Act.put,List.setIfInBounds_toArray,List.set_cons_succ,List.set_cons_zero,Nat.reduceAdd] at hA;subst hA;obtain⟨u,H⟩:=H.unex;replace H:=H.unstar;have H7:Sp w0 (Rr gr l a4::XpB gx gr u most vb::Bok ga m::Bok gd d::Row 5 1 u (q+1) (cells8 o'++[.int .u8 bv.toNat])::L) wx:=H.pick 5 [2,0,3,4,1];have HX:=hid H7;clear H H7 H6;go_wp2;go_roundw
              case rel =>
               have X:(o'++[bv]).length=q+1:=by rw [List.length_append,g0.out]; rfl
               refine⟨i+1,u,o'++[bv],by go_num,by omega,by rw [X]; have:=b9.out; omega,f9.out,?_⟩;have ec:cells8 (o'++[bv])=cells8 o'++[.int .u8 bv.toNat]:=by simp [cells8]
               rw [X,ec];exact HX.out
              case measure=>first | (simp [intOf]; omega) | simp [intOf]
            ·have k2:¬ (i:Int)<(n:Int):=by omega
             obtain rfl:i=n:=by omega
             rw [Nat.sub_self] at a0;have e7 : o'=OT:=a0;subst e7;have b1:o'.length<=most:=by omega
             have b9:=hid b1;clear a0 Q b1;go_wp2_with fail
             go_roundw
             case rel=>exact⟨a4,f,vo',o',f5,by omega,b9.out,HN.out,H6⟩
             case measure =>
              have:=Ym H6;rw [this,HA.out];omega
end Go.Proofs.YteajimobgkempaaDoor

