/- A pack. -/
import Derived.Test.YteajimobgkempaaGreatDoorPk08
set_option linter.all false
set_option maxRecDepth 100000
set_option maxHeartbeats 8000000
namespace Go.Proofs.YteajimobgkempaaGreatDoor
variable {w0 w:World} {L:List Pr}
open Go.RowKit
abbrev keyK:PK->Int:=PK.c
theorem TP (ad:Addr) (n c:Nat) (l:List PK) (a b:Nat) (H:Sp w0 (RowK (.slice (some ad) n c) l::L) w) (hn:n=l.length) (hl:n<=1000000) (hab:a<=b) (hbn:b<=n) :
  Calls Tryz.prog 155 #[.slice (some ad) n c,.int .i64 a,.int .i64 b,cmpF] w fun e w'=>e=.returned (.tuple #[]) /\
   Sp w0 (RowK (.slice (some ad) n c) (l.take a++SS.isort keyK ((l.drop a).take (b - a))++l.drop b)::L) w':=by
 have HN:=hid hn;clear hn;go_enter Tryz.func155,Tryz.ntmps155
 go_wp2_with fail
 go_loopw [8] (fun iv wr=>∃i:Nat,iv=.int .i64 i/\a<i/\(i<=b∨i=a+1)/\Sp w0 (RowK (.slice (some ad) n c) (l.take a++SS.isort keyK ((l.drop a).take (i - a))++l.drop i)::L) wr) (fun iv _=>b+1 - (intOf iv).toNat)
 case atStart =>
  refine⟨a+1,by go_num,by omega,.inr rfl,?_⟩;have e:SS.isort keyK ((l.drop a).take (a+1 - a))=(l.drop a).take 1:=by
   rw [show a+1 - a=1 by omega];rcases l.drop a with _ | ⟨x,m⟩
   ·rfl
   ·rfl
  have e2:l.take a++(l.drop a).take 1++l.drop (a+1)=l:=by
   rw [List.append_assoc,<- List.drop_drop,List.take_append_drop,List.take_append_drop]
  rw [e,e2];exact H
 case round =>
  obtain⟨i,rfl,c4,c5,H⟩:=hrel;by_cases c6:i<b
  ·have k1:(i:Int)<(b:Int):=by omega
   obtain⟨P,hP⟩:=exq (l.take a);obtain⟨S,f⟩:=exq (SS.isort keyK ((l.drop a).take (i - a)));have W:i<l.length:=by rw [<- HN.out]; omega
   obtain⟨px,hx⟩:=exq (l[i]);have X:l.drop i=px::l.drop (i+1):=by rw [List.drop_eq_getElem_cons W,hx]
   have u:SS.isort keyK ((l.drop a).take (i+1 - a))=SS.put keyK S px:=by
    have U:(l.drop a).take (i+1 - a)=(l.drop a).take (i - a)++[px]:=by
     rw [show i+1 - a=(i - a)+1 by omega,List.take_add_one,List.getElem?_drop,show a+(i - a)=i by omega,List.getElem?_eq_getElem W,hx]; rfl
    rw [U,SS.isort_snoc,f]
   obtain⟨R,hR⟩:=exq (l.drop (i+1));have c7:P.length=a:=by rw [<- hP,List.length_take]; have:=HN.out; omega
   have c8:S.length=i - a:=by rw [<- f,SS.len_isort,List.length_take,List.length_drop]; omega
   have c9:i+1+R.length=n:=by rw [<- hR,List.length_drop]; have:=HN.out; omega
   have Y:SS.Srt keyK S:=by rw [<- f]; exact SS.srt_isort _
   rw [hP,f,X,hR] at H;have HP:=hid hP;have a7:=hid Y;have Z:=hid u;have HR:=hid hR;clear hP f X u hR Y hx;go_wp2_with fail
   go_loopw [9] (fun jv wr=>∃(j:Nat) (S1 S2:List PK),jv=.int .i64 j/\j=a+S1.length/\Hid (S1++S2=S)/\Hid (∀z ∈ S2,px.c<z.c)/\Sp w0 (RowK (.slice (some ad) n c) (P++S1++px::S2++R)::L) wr) (fun jv _=>(intOf jv).toNat)
   case atStart =>
    refine⟨i,S,[],rfl,by omega,hid (List.append_nil _),hid (fun _ h=>by cases h),?_⟩;rw [List.append_assoc (P++S)];exact H
   case round =>
    obtain⟨j,S1,S2,rfl,V,t,M,H⟩:=hrel;have a0:S1.length+S2.length=S.length:=by rw [<- t.out,List.length_append]
    obtain⟨D,G⟩:=exq (P++S1++px::S2++R);have d0:D.length=n:=by rw [<- G]; simp only [List.length_append,List.length_cons]; omega
    have N:j<D.length:=by omega
    have Bj:=hid N;have O:D.getD j pk0=px:=by
     rw [<- G,List.append_assoc (P++S1)];exact SS.getD_app pk0 (P++S1) (S2++R) px (by rw [List.length_append]; omega)
    have y:=hid O;have kj:(j:Int)<(n:Int):=by omega
    by_cases d1:a<j
    ·have k2:(a:Int)<(j:Int):=by omega
     obtain⟨j1,a1⟩:∃j1,j=j1+1:=⟨j - 1,by omega⟩;have y1:(j:Int) - 1=(j1:Int):=by omega
     have d2:(j1:Int)<(n:Int):=by omega
     obtain⟨B,py,rfl⟩:∃B py,S1=B++[py]:=⟨S1.dropLast,S1.getLast (by rintro rfl; simp at V; omega),(List.dropLast_concat_getLast _).symm⟩;rw [List.length_append,List.length_singleton] at V a0;have a2:D.getD j1 pk0=py:=by
      rw [<- G,show P++(B++[py])++px::S2++R=(P++B)++py::(px::S2++R) by simp];exact SS.getD_app pk0 (P++B) _ py (by rw [List.length_append]; omega)
     have C:=hid a2;have I:j1<D.length:=by omega
     have Q:=hid I;have HD:=hid G;rw [G] at H;obtain⟨r,hr⟩:=exq (decide (cmpI px.c py.c<0));have HJ:=hid V;have E:=hid a1;clear G O a2 N I V a1;go_wp2_with fail
     refine Zb (L:=RowK (.slice (some ad) n c) D::L) [some (.int .i64 j),some (.int .i64 a),some (.bool true),some (.bool true),some (cmpF),some (.slice (some ad) n c),some (.int .i64 j),some (.pointer (some (ad.add (j * 3)))),some (px.val),some (.slice (some ad) n c),some (.int .i64 j),some (.int .i64 j1),some (.pointer (some (ad.add (j1 * 3)))),some (py.val),some (.int .i64 (cmpI px.c py.c)),some (.bool r),some (.bool r)] (fun _ _=>True) (fun _ _=>[]) (fun _=>[]) 17 53
      [some 18,some 19,some 20,some 21,some 22,some 23,some 24,some 25,some 26,some 27,some 28,some 29,some 30,some 31,some 32,some 33,some 34]
      [[],[],[0,1],[2],[3],[3],[3],[5,6,3],[7,3],[3],[3],[10,3],[9,11,3],[12,3],[4,8,13,3,3],[14,3],[3,15]]
      [[],[],[0,1],[0,1,2],[0,1,2,3],[0,1,2,3],[0,1,2,3],[0,1,2,3,5,6],[0,1,2,3,5,6,7],[0,1,2,3],[0,1,2,3],[0,1,2,3,10],[0,1,2,3,9,10,11],[0,1,2,3,9,10,11,12],[0,1,2,3,4,5,6,7,8,9,10,11,12,13],[0,1,2,3,4,5,6,7,8,9,10,11,12,13,14],[0,1,2,3,4,5,6,7,8,9,10,11,12,13,14,15]]
      [[],[],[],[],[],[],[],[],[],[],[],[],[],[],[],[],[]] [[],[],[],[],[],[],[],[],[],[],[],[],[],[],[],[],[]] [(0,.slice (some ad) n c),(1,.int .i64 a),(3,cmpF),(9,.int .i64 j)]
      (by kernel_rfl) rfl (by decide) (by rfl) (by decide +kernel) rfl rfl (by simp) (H) ?hstep ?hend
     case hstep =>
      refine⟨?p0,⟨?p1,⟨?p2,⟨?p3,⟨?p4,⟨?p5,⟨?p6,⟨?p7,⟨?p8,⟨?p9,⟨?p10,⟨?p11,⟨?p12,⟨?p13,⟨?p14,⟨?p15,⟨?p16,trivial⟩⟩⟩⟩⟩⟩⟩⟩⟩⟩⟩⟩⟩⟩⟩⟩⟩
      case p0 | p1 | p2 | p3 | p16 =>
       intro x wx A k g o f q H K p;replace p:=hid p;clear f q g;repeat (obtain⟨_,o⟩:=o)
       refine so ?_;go_step;exact p.out _ _ rfl H
      case p4 =>
       intro x wx A k g o f q H K d;have e3:A.tmps[3]?.getD undef=cmpF:=Za o (3,cmpF) (by simp) (by rfl);have s:=(f 3 (by decide)).1;have p:=hid d;clear d o f q g;refine sgT s ?_;go_step;exact p.out _ _ rfl H
      case p5 =>
       intro x wx A k g o f q H K d;have e0:A.tmps[0]?.getD undef=.slice (some ad) n c:=Za o (0,_) (by simp) (by rfl);have s:=(f 3 (by decide)).1;have p:=hid d;clear d o f q g;refine sgT s ?_;go_step;exact p.out _ _ rfl H
      case p6 =>
       intro x wx A k g o f q H K d;have e9:A.tmps[9]?.getD undef=.int .i64 j:=Za o (9,_) (by simp) (by rfl);have s:=(f 3 (by decide)).1;have p:=hid d;clear d o f q g;refine sgT s ?_;go_step;exact p.out _ _ rfl H
      case p7 =>
       intro x wx A k g o f q H K d;have a8:=tq f 5;have a9:=tq f 6;have s:=(f 3 (by decide)).1;have p:=hid d;clear d o f q g;refine sgT s ?_;go_step;exact p.out _ _ rfl H
      case p8 =>
       intro x wx A k g o f q H K d;have a3:=tq f 7;have s:=(f 3 (by decide)).1;have p:=hid d;clear d o f g;refine sgT s ?_;exact Zc 143 _ rfl _ px.cells (ev a3) (by rw [<- y.out]; exact q (fun w=>∀jj vv,(D.getD j pk0).cells[jj]?=some vv->w.cell? ((ad.add (j * 3)).add jj)=some vv) (fun _ _ H=>RowK.rd H 0 rfl j Bj.out) _ _ H) Tryz.isAgg143 Tryz.sizeOf143 (p.out _ _ rfl H)
      case p9 =>
       intro x wx A k g o f q H K d;have e0:A.tmps[0]?.getD undef=.slice (some ad) n c:=Za o (0,_) (by simp) (by rfl);have s:=(f 3 (by decide)).1;have p:=hid d;clear d o f q g;refine sgT s ?_;go_step;exact p.out _ _ rfl H
      case p10 =>
       intro x wx A k g o f q H K d;have e9:A.tmps[9]?.getD undef=.int .i64 j:=Za o (9,_) (by simp) (by rfl);have s:=(f 3 (by decide)).1;have p:=hid d;clear d o f q g;refine sgT s ?_;go_step;exact p.out _ _ rfl H
      case p11 =>
       intro x wx A k g o f q H K d;have b0:=tq f 10;have s:=(f 3 (by decide)).1;have p:=hid d;clear d o f q g;refine sgT s ?_;go_step;exact p.out _ _ rfl H
      case p12 =>
       intro x wx A k g o f q H K d;have b1:=tq f 9;have b2:=tq f 11;have s:=(f 3 (by decide)).1;have p:=hid d;clear d o f q g;refine sgT s ?_;go_step;exact p.out _ _ rfl H
      case p13 =>
       intro x wx A k g o f q H K d;have a4:=tq f 12;have s:=(f 3 (by decide)).1;have p:=hid d;clear d o f g;refine sgT s ?_;exact Zc 143 _ rfl _ py.cells (ev a4) (by rw [<- C.out]; exact q (fun w=>∀jj vv,(D.getD j1 pk0).cells[jj]?=some vv->w.cell? ((ad.add (j1 * 3)).add jj)=some vv) (fun _ _ H=>RowK.rd H 0 rfl j1 Q.out) _ _ H) Tryz.isAgg143 Tryz.sizeOf143 (p.out _ _ rfl H)
      case p14 =>
       intro x wx A k g o f q H K d;have b3:=tq f 4;have b4:=tq f 8;have b5:=tq f 13;have s:=(f 3 (by decide)).1;have p:=hid d;clear d o f q g;refine sgT s ?_;unfold cmpF at *;go_wp2_with fail
       refine(YN px py H).mono ?_;rintro _ w9 ⟨rfl,H9⟩;exact p.out _ _ rfl H9
      case p15 =>
       intro x wx A k g o f q H K d;have b6:=tq f 14;have s:=(f 3 (by decide)).1;have p:=hid d;clear d o f q g;refine sgT s ?_;go_step;exact p.out _ _ rfl H
     case hend =>
      intro x wx A J f H;replace H:Sp w0 (_::L) wx:=H;have F:x 16=.bool r:=f 16 (by decide);clear f;simp only [putAll,Act.put,List.setIfInBounds_toArray,List.set_cons_succ,List.set_cons_zero,Nat.reduceAdd] at J;subst J;rw [F];clear F;have a5:r=decide (px.c<py.c):=by
       rw [<- hr];unfold cmpI;by_cases h:px.c<py.c
       ·rw [if_pos h,decide_eq_true h]; rfl
       ·rw [if_neg h,decide_eq_false h];split <;> rfl
      cases r
      ·go_wp2_with fail
       go_roundw
       case rel =>
        refine⟨i+1,by go_num,by omega,.inl (by omega),?_⟩;have a6:py.c<=px.c:=by
         have:=of_decide_eq_false a5.symm;omega
        have h9:SS.put keyK S px=B++[py]++px::S2:=by
         rw [<- t.out];refine SS.put_at (fun z hz=>?_) M.out;rcases List.mem_append.1 hz with hz | hz
         ·have h8:=a7.out;rw [<- t.out] at h8;have h7:=(List.pairwise_append.1 (List.pairwise_append.1 h8).1).2.2 z hz py (List.mem_singleton.2 rfl);exact Int.le_trans h7 a6
         ·rw [List.mem_singleton.1 hz]; exact a6
        rw [HP.out,Z.out,HR.out,h9];have e:P++(B++[py]++px::S2)++R=D:=by rw [<- HD.out]; simp
        rw [e];exact H
       case measure=>first | (simp [intOf]; omega) | simp [intOf]
      ·go_wp2_with fail
       refine Zb (L:=L) [some (.slice (some ad) n c),some (.int .i64 j),some (.slice (some ad) n c),some (.int .i64 j),some (.int .i64 j1),some (.slice (some ad) n c),some (.int .i64 j),some (.int .i64 j1),some (.pointer (some (ad.add (j1 * 3)))),some (py.val),some (.slice (some ad) n c),some (.int .i64 j),some (.pointer (some (ad.add (j * 3)))),some (px.val),some (.pointer (some (ad.add (j * 3)))),none,some (.pointer (some (ad.add (j1 * 3)))),none] (fun _ _=>True) (fun ix vx=>match ix with | 15=>(fun _=>[RowK (.slice (some ad) n c) (D.set j py)]) vx | 17=>(fun _=>[RowK (.slice (some ad) n c) ((D.set j py).set j1 px)]) vx | _=>[]) (fun ix=>match ix with | 15=>[RowK (.slice (some ad) n c) D] | _=>[]) 18 53
        [some 37,some 38,some 39,some 40,some 41,some 42,some 43,some 44,some 45,some 46,some 47,some 48,some 49,some 50,some 51,none,some 52,none]
        [[],[],[],[],[3],[],[],[6],[5,7],[8],[],[],[10,11],[12],[0,1,0,1,5,6,7,8,9,13],[14,9,0,1,5,6,7,8,9,13],[2,4,0,1,2,3,4,5,6,7,8,9,10,11,12,13,14,15],[16,13,15,0,1,2,3,4,5,6,7,8,9,10,11,12,13,14,15]]
        [[],[],[],[],[3],[],[],[6],[5,6,7],[5,6,7,8],[],[],[10,11],[10,11,12],[0,1,5,6,7,8,9,10,11,12,13],[0,1,5,6,7,8,9,10,11,12,13,14],[0,1,2,3,4,5,6,7,8,9,10,11,12,13,14,15],[0,1,2,3,4,5,6,7,8,9,10,11,12,13,14,15,16]]
        [[],[],[],[],[],[],[],[],[],[],[],[],[],[],[],[],[],[15]] [[],[],[],[],[],[],[],[],[],[15],[],[],[],[15],[],[],[],[]] [(0,.slice (some ad) n c),(9,.int .i64 j)]
        (by kernel_rfl) rfl (by decide) (by rfl) (by decide +kernel) rfl rfl (by simp) (H) ?hstep ?hend
       case hstep =>
        refine⟨?p0,⟨?p1,⟨?p2,⟨?p3,⟨?p4,⟨?p5,⟨?p6,⟨?p7,⟨?p8,⟨?p9,⟨?p10,⟨?p11,⟨?p12,⟨?p13,⟨?p14,⟨?p15,⟨?p16,⟨?p17,trivial⟩⟩⟩⟩⟩⟩⟩⟩⟩⟩⟩⟩⟩⟩⟩⟩⟩⟩
        case p0 | p1 | p2 | p3 | p4 | p5 | p6 | p7 | p8 | p10 | p11 | p12 | p14 | p16 =>
         intro x wx A k g o f q H K p;replace p:=hid p;clear f q g;repeat (obtain⟨_,o⟩:=o)
         refine so ?_;go_step;exact p.out _ _ rfl H
        case p9 =>
         intro x wx A k g o f q H K d;have b7:=tq f 8;replace H:Sp w0 (_::k) wx:=H;have p:=hid d;clear d o f q g;refine so ?_;exact Zc 143 _ rfl _ py.cells (ev b7) (by rw [<- C.out]; exact RowK.rd H 0 rfl j1 Q.out) Tryz.isAgg143 Tryz.sizeOf143 (p.out _ _ rfl H)
        case p13 =>
         intro x wx A k g o f q H K d;have b8:=tq f 12;replace H:Sp w0 (_::k) wx:=H;have p:=hid d;clear d o f q g;refine so ?_;exact Zc 143 _ rfl _ px.cells (ev b8) (by rw [<- y.out]; exact RowK.rd H 0 rfl j Bj.out) Tryz.isAgg143 Tryz.sizeOf143 (p.out _ _ rfl H)
        case p15 =>
         intro x wx A k g o f q H K d;have b9:=tq f 14;have c0:=tq f 9;replace H:Sp w0 (_::k) wx:=H;have p:Hid (∀(v:Value) (w' : World),(True)->Sp w0 ((RowK (.slice (some ad) n c) (D.set j py))::k) w'->K (A.put none v) w'):=hid d;clear d o f q g;obtain⟨w9,T,H9⟩:=RowK.store (i:=j) py H Bj.out;refine so ?_;exact Zl 143 _ _ rfl _ py.cells (ev b9) (ev c0) T Tryz.sizeOf143 (p.out undef _ trivial H9)
        case p17 =>
         intro x wx A k g o f q H K d;have c1:=tq f 16;have c2:=tq f 13;replace H:Sp w0 (_::k) wx:=H;have p:Hid (∀(v:Value) (w' : World),(True)->Sp w0 ((RowK (.slice (some ad) n c) ((D.set j py).set j1 px))::k) w'->K (A.put none v) w'):=hid d;clear d o f q g;obtain⟨w9,T,H9⟩:=RowK.store (i:=j1) px H (by rw [List.length_set]; exact Q.out);refine so ?_;exact Zl 143 _ _ rfl _ px.cells (ev c1) (ev c2) T Tryz.sizeOf143 (p.out undef _ trivial H9)
       case hend =>
        intro x wx A J f H;replace H:Sp w0 (_::L) wx:=H;clear f;simp only [putAll,Act.put,List.setIfInBounds_toArray,List.set_cons_succ,List.set_cons_zero,Nat.reduceAdd] at J;subst J;go_wp2_with fail
        go_roundw
        case rel =>
         refine⟨j1,B,py::S2,by go_num,by have:=HJ.out; have:=E.out; omega,hid (by rw [<- t.out]; simp),hid (fun z hz=>?_),?_⟩
         ·rcases List.mem_cons.1 hz with rfl | hz
          ·exact of_decide_eq_true a5.symm
          ·exact M.out z hz
         ·have c3:j≠j1:=by have:=E.out; omega
          have e:(D.set j py).set j1 px=P++B++px::(py::S2)++R:=by
           have U:=SS.sw_app pk0 (P++B) [] (S2++R) py px (i:=j1) (j:=j) (by rw [List.length_append]; have:=HJ.out; have:=E.out; omega) (by rw [List.length_append]; have:=HJ.out; have:=E.out; simp; omega);have e0:P++B++py::[]++px::(S2++R)=D:=by rw [<- HD.out]; simp
           rw [e0,SS.sw_comm pk0 D j1 j c3.symm] at U;unfold SS.sw at U;rw [y.out,C.out] at U;rw [U]; simp
          rw [<- e];exact H
        case measure =>
         have:=E.out;first | (simp [intOf]; omega) | simp [intOf]
    ·have k2:¬ (a:Int)<(j:Int):=by omega
     have HD:=hid G;rw [G] at H;have HJ:=hid V;clear G O N V;go_wp2_with fail
     refine Zb (L:=RowK (.slice (some ad) n c) D::L) [some (.int .i64 j),some (.int .i64 a),some (.bool false),some (.bool false),some (undef),some (undef),some (undef),some (undef),some (undef),some (undef),some (undef),some (undef),some (undef),some (undef),some (undef),some (undef),some (.bool false)] (fun _ _=>True) (fun _ _=>[]) (fun _=>[]) 17 53
      [some 18,some 19,some 20,some 21,some 22,some 23,some 24,some 25,some 26,some 27,some 28,some 29,some 30,some 31,some 32,some 33,some 34]
      [[],[],[0,1],[2],[3],[3],[3],[5,6,3],[7,3],[3],[3],[10,3],[9,11,3],[12,3],[4,8,13,3,3],[14,3],[3,15]]
      [[],[],[0,1],[0,1,2],[0,1,2,3],[0,1,2,3],[0,1,2,3],[0,1,2,3,5,6],[0,1,2,3,5,6,7],[0,1,2,3],[0,1,2,3],[0,1,2,3,10],[0,1,2,3,9,10,11],[0,1,2,3,9,10,11,12],[0,1,2,3,4,5,6,7,8,9,10,11,12,13],[0,1,2,3,4,5,6,7,8,9,10,11,12,13,14],[0,1,2,3,4,5,6,7,8,9,10,11,12,13,14,15]]
      [[],[],[],[],[],[],[],[],[],[],[],[],[],[],[],[],[]] [[],[],[],[],[],[],[],[],[],[],[],[],[],[],[],[],[]] [(0,.slice (some ad) n c),(1,.int .i64 a),(3,cmpF),(9,.int .i64 j)]
      (by kernel_rfl) rfl (by decide) (by rfl) (by decide +kernel) rfl rfl (by simp) (H) ?hstep ?hend
     case hstep =>
      refine⟨?p0,⟨?p1,⟨?p2,⟨?p3,⟨?p4,⟨?p5,⟨?p6,⟨?p7,⟨?p8,⟨?p9,⟨?p10,⟨?p11,⟨?p12,⟨?p13,⟨?p14,⟨?p15,⟨?p16,trivial⟩⟩⟩⟩⟩⟩⟩⟩⟩⟩⟩⟩⟩⟩⟩⟩⟩
      case p0 | p1 | p2 | p3 | p16 =>
       intro x wx A k g o f q H K p;replace p:=hid p;clear f q g;repeat (obtain⟨_,o⟩:=o)
       refine so ?_;go_step;exact p.out _ _ rfl H
      case p4 =>
       intro x wx A k g o f q H K d;have e3:A.tmps[3]?.getD undef=cmpF:=Za o (3,cmpF) (by simp) (by rfl);have s:=(f 3 (by decide)).1;have p:=hid d;clear d o f q g;exact sgF s (p.out _ _ rfl H)
      case p5 =>
       intro x wx A k g o f q H K d;have e0:A.tmps[0]?.getD undef=.slice (some ad) n c:=Za o (0,_) (by simp) (by rfl);have s:=(f 3 (by decide)).1;have p:=hid d;clear d o f q g;exact sgF s (p.out _ _ rfl H)
      case p6 =>
       intro x wx A k g o f q H K d;have e9:A.tmps[9]?.getD undef=.int .i64 j:=Za o (9,_) (by simp) (by rfl);have s:=(f 3 (by decide)).1;have p:=hid d;clear d o f q g;exact sgF s (p.out _ _ rfl H)
      case p7 =>
       intro x wx A k g o f q H K d;have a8:=tq f 5;have a9:=tq f 6;have s:=(f 3 (by decide)).1;have p:=hid d;clear d o f q g;exact sgF s (p.out _ _ rfl H)
      case p8 =>
       intro x wx A k g o f q H K d;have a3:=tq f 7;have s:=(f 3 (by decide)).1;have p:=hid d;clear d o f g;exact sgF s (p.out _ _ rfl H)
      case p9 =>
       intro x wx A k g o f q H K d;have e0:A.tmps[0]?.getD undef=.slice (some ad) n c:=Za o (0,_) (by simp) (by rfl);have s:=(f 3 (by decide)).1;have p:=hid d;clear d o f q g;exact sgF s (p.out _ _ rfl H)
      case p10 =>
       intro x wx A k g o f q H K d;have e9:A.tmps[9]?.getD undef=.int .i64 j:=Za o (9,_) (by simp) (by rfl);have s:=(f 3 (by decide)).1;have p:=hid d;clear d o f q g;exact sgF s (p.out _ _ rfl H)
      case p11 =>
       intro x wx A k g o f q H K d;have b0:=tq f 10;have s:=(f 3 (by decide)).1;have p:=hid d;clear d o f q g;exact sgF s (p.out _ _ rfl H)
      case p12 =>
       intro x wx A k g o f q H K d;have b1:=tq f 9;have b2:=tq f 11;have s:=(f 3 (by decide)).1;have p:=hid d;clear d o f q g;exact sgF s (p.out _ _ rfl H)
      case p13 =>
       intro x wx A k g o f q H K d;have a4:=tq f 12;have s:=(f 3 (by decide)).1;have p:=hid d;clear d o f g;exact sgF s (p.out _ _ rfl H)
      case p14 =>
       intro x wx A k g o f q H K d;have b3:=tq f 4;have b4:=tq f 8;have b5:=tq f 13;have s:=(f 3 (by decide)).1;have p:=hid d;clear d o f q g;exact sgF s (p.out _ _ rfl H)
      case p15 =>
       intro x wx A k g o f q H K d;have b6:=tq f 14;have s:=(f 3 (by decide)).1;have p:=hid d;clear d o f q g;exact sgF s (p.out _ _ rfl H)
     case hend =>
      intro x wx A J f H;replace H:Sp w0 (_::L) wx:=H;have F:x 16=.bool false:=f 16 (by decide);clear f;simp only [putAll,Act.put,List.setIfInBounds_toArray,List.set_cons_succ,List.set_cons_zero,Nat.reduceAdd] at J;subst J;rw [F];clear F;go_wp2_with fail
      go_roundw
      case rel =>
       refine⟨i+1,by go_num,by omega,.inl (by omega),?_⟩;have h0:S1=[]:=List.eq_nil_of_length_eq_zero (by have:=HJ.out; omega);subst h0;have h9:SS.put keyK S px=px::S2:=by
        rw [<- t.out];exact SS.put_front M.out
       rw [HP.out,Z.out,HR.out,h9];have e:P++px::S2++R=D:=by rw [<- HD.out]; simp
       rw [e];exact H
      case measure=>first | (simp [intOf]; omega) | simp [intOf]
  ·have k1:¬ (i:Int)<(b:Int):=by omega
   go_wp2_with fail
   go_end0;refine⟨rfl,?_⟩;have e:l.take a++SS.isort keyK ((l.drop a).take (i - a))++l.drop i=l.take a++SS.isort keyK ((l.drop a).take (b - a))++l.drop b:=by
    rcases Nat.lt_or_ge b i with h | h
    ·obtain rfl:i=a+1:=by omega
     obtain rfl:b=a:=by omega
     have e1:SS.isort keyK ((l.drop b).take (b+1 - b))=(l.drop b).take 1:=by
      rw [show b+1 - b=1 by omega];rcases l.drop b with _ | ⟨x,m⟩
      ·rfl
      ·rfl
     rw [e1,Nat.sub_self,List.take_zero,List.append_assoc,<- List.drop_drop,List.take_append_drop];simp [SS.isort,SS.mrg]
    ·obtain rfl:i=b:=by omega
     rfl
   rw [<- List.append_assoc,<- e];exact H
end Go.Proofs.YteajimobgkempaaGreatDoor

