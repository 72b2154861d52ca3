/- A pack. -/
import Derived.Test.YteajimobgkempaaGreatDoorPk25
set_option linter.all false
set_option maxRecDepth 100000
set_option maxHeartbeats 8000000
namespace Go.Proofs.YteajimobgkempaaGreatDoor
variable {w0 w:World} {L:List Pr}
open Go.RowKit Go.MapKept
theorem Tq {B:List UInt8} {n mb:Nat} {es:Array MapEntry} {clock:Nat} (hok:FdOk B n es clock) (k:Three)
  (H:Sp w0 (Rows (PM.places B n) es.toList::L) w) :
  ∃(V:Option Addr) (c:Nat) (rl:List MapEntry),(PM.places B n k).length<=c /\
   Sp w0 (Row 3 1 (.slice V (PM.places B n k).length c) (PM.places B n k).length (intsV (PM.places B n k))::Rows (PM.places B n) rl::L) w /\
   (∀u:World,u.heap[mb]?=some (.map es clock)->(Instr.lookup 201 (.map (some mb)) (key3 k) false).run Tryz.prog u=.ok (.slice V (PM.places B n k).length c) u) /\
   ∀(w1 w' : World) (L' : List Pr),Sp w1 (Row 3 1 (.slice V (PM.places B n k).length c) (PM.places B n k).length (intsV (PM.places B n k))::Rows (PM.places B n) rl::L') w'->Sp w1 (Rows (PM.places B n) es.toList::L') w':=by
 rcases hok.ok.find w k with ⟨_,hk⟩ | ⟨j,e,_,hj,hk⟩
 ·have g:=hok.none hk;rw [g];exact⟨none,0,es.toList,Nat.le_refl _,H.rowNil _ _,fun u hu=>Ur hok.ok hu hk,fun _ _ _ HH=>HH.tail⟩
 ·obtain⟨a,c,f,_⟩:=Ws hj;rw [f] at H;have b:=XK a e c H;rw [hk,Z7] at b;obtain⟨V,h,d,i,_⟩:=Row.form b 0 rfl;refine⟨V,h,a++c,i,by rw [<- d]; exact b,fun u hu=>by rw [<- d]; exact Us hok.ok hu hj hk,fun _ _ _ HH=>?_⟩;rw [f];refine Wq a e c ?_;rw [hk,Z7,d];exact HH
section
variable {P:Program}
theorem VH {o:Oper} {a:Act} {w:World} {K:Act->World->Prop} {Q:Exit->Act->World->Prop} (t:TypeId) (m k:Operand) (b:Bool) (ho:o.op=.lookup t m k b) (vm vk:Value) (hm:a.eval m=vm) (hk:a.eval k=vk) {v:Value} {w' : World}
  (hr:(Instr.lookup t vm vk b).run P w=.ok v w') (h:K (a.put o.dst v) w'):o.wp P a w K Q:=by
 unfold Oper.wp execOp;simp only [ho,Sem.run_bind,Sem.run_pure,Result.andThen_ok,hm,hk,hr];exact h
end
def stV (s:PM.St):Value:=.agg #[.int .i64 s.1,.int .i64 s.2.1,.int .u8 s.2.2.toNat]
theorem VJ (g at_ n l d:Nat) (A0:Option Addr) (c:Nat) (B:List UInt8) (H:Sp w0 (Fd g (.slice A0 l c) B (d:Int) n::L) w) (hl:l=B.length) (hb:Ent L (fun w=>Byt w (.slice A0 l c) B)) (hat:at_<=1000000000) (hlm:l<=1000000000) (hn:n<=at_) :
  Calls Tryz.prog 100 #[.pointer (some ⟨g,0,none⟩),.int .i64 at_] w fun e w'=>∃n',n'<=at_ /\
   e=.returned (.tuple #[stV ((PM.best B at_ d).1,(PM.best B at_ d).2,0),.bool (decide (0<(PM.best B at_ d).1))])/\Sp w0 (Fd g (.slice A0 l c) B (d:Int) n'::L) w':=by
 have U:Tryz.prog.underlying 206=some (.array 3 5):=by kernel_rfl
 have a8:=hid U;clear U;obtain⟨d4,b9⟩:l<=c/\c<=maxLen:=by
  obtain⟨_,_,e,_,h1,h2⟩:=hb _ _ H.tail;injection e with e1 e2 e3
  rw [e3,e2];exact⟨h1,h2⟩
 unfold maxLen at b9;have HL:=hid hl;have HB:=hid hb;clear hl hb;by_cases c1:at_+3<=l
 ·obtain⟨mb,S,F,N,H2⟩:=YP H;have c0:∀o,(w.alloc o).cell? ⟨g,0,none⟩=some (.slice A0 l c):=fun o=>(H2.alloc o).cell 0 rfl 0;have k1:decide ((l:Int)<at_+3)=false:=decide_eq_false (by omega);go_enter Tryz.func100,Tryz.ntmps100
  go_wp2_with fail
  clear c0 k1 N H2;have H4:=(H.newBk [.int .i64 0,.int .i64 0,.int .u8 0] 54).swap;generalize w.heap.size=r at H4 ⊢;generalize w.alloc _=w1 at H4 ⊢;refine(Tp g at_ n l A0 c B d H4 HL.out (Ent.cons _ HB.out) hat hlm).mono ?_;rintro _ w2 ⟨rfl,H5⟩;rw [show max n (min at_ (l - 2))=at_ by omega] at H5;clear H4 w1;go_wp2_with fail
  have H6:=H5.newBk [.int .i64 0,.int .i64 0,.int .u8 0] 54;generalize w2.heap.size=s at H6 ⊢;generalize w2.alloc _=w3 at H6 ⊢;clear H5 w2;obtain⟨mb,S,F,N,H7⟩:=YP (H6.pick 3 [1,0,2]);obtain⟨k,hk⟩:=exq (PM.at3 B at_);obtain⟨V,cV,rl,c3,H8,I,J⟩:=Tq (mb:=mb) N k (H7.pick 3 [2,0,1]);obtain⟨C,hC⟩:=exq (PM.places B at_ k);rw [hC] at H8 I J c3;have a5:=hid I;have M:=hid J;obtain⟨ad,rfl⟩:∃ad,A0=some ad:=by
   obtain⟨_,_,e,hr,_,_⟩:=HB.out _ _ (H.pick 1 []);obtain⟨ad,e2,_⟩:=hr.at8 (k:=at_) (by rw [<- HL.out]; omega);injection e with e
   exact⟨ad,e.trans e2⟩
  have W:Ent L (fun w=>w.cell? (ad.add at_)=some (.int .u8 k.1.toNat)/\w.cell? ⟨(ad.add at_).block,(ad.add at_).off+1,none⟩=some (.int .u8 k.2.1.toNat)/\w.cell? ⟨(ad.add at_).block,(ad.add at_).off+2,none⟩=some (.int .u8 k.2.2.toNat)):=HB.out.mono fun w' hw=>by
   rw [<- hk];exact XL hw at_ (by rw [<- HL.out]; omega)
  have c4:=hid W;have HK:=hid hk;have HC:=hid hC;have a6:=hid N;have d5:C.length<=at_:=by rw [<- hC]; exact PM.places_len _ _ _
  clear W hk I J hC N H6 H7;have k3:(at_:Int)<c:=by omega
  have k4:3<=l - at_:=by omega
  have k5:at_<=l:=by omega
  have k6:¬ c=at_:=by omega
  go_wp2_with fail
  refine Zb (L:=Row 3 1 (.slice V C.length cV) C.length (intsV C)::Rows (PM.places B at_) rl::FdB g (.slice (some ad) l c) (d:Int) mb at_::Is mb (.map S F)::Bk s 54 [.int .i64 0,.int .i64 0,.int .u8 0]::Bk r 54 [.int .i64 0,.int .i64 0,.int .u8 0]::L) [some (.pointer (some ⟨g,0,none⟩)),some (.pointer (some ⟨g,0,none⟩)),some (.pointer (some ⟨g,2,none⟩)),some (.map (some mb)),some (.pointer (some ⟨g,0,none⟩)),some (.pointer (some ⟨g,0,none⟩)),some (.pointer (some ⟨g,0,none⟩)),some (.slice (some ad) l c),some (.int .i64 at_),some (.slice (some (ad.add at_)) (l - at_) (c - at_)),some (.pointer (some (ad.add at_))),some (key3 k),some (.slice V C.length cV),some (.slice V C.length cV)] (fun _ _=>True) (fun _ _=>[]) (fun _=>[]) 14 82
   [some 24,some 25,some 26,some 27,some 28,some 29,some 30,some 31,some 32,some 33,some 34,some 35,some 36,some 7]
   [[],[0],[1],[2],[],[4],[5],[6],[],[7,8],[9],[10],[3,11],[12,0,1,2,3,4,5,6,7,8,9,10,11,12]]
   [[],[0],[0,1],[0,1,2],[],[4],[4,5],[4,5,6],[],[4,5,6,7,8],[4,5,6,7,8,9],[4,5,6,7,8,9,10],[0,1,2,3,4,5,6,7,8,9,10,11],[0,1,2,3,4,5,6,7,8,9,10,11,12]]
   [[],[],[],[],[],[],[],[],[],[],[],[],[],[]] [[],[],[],[],[],[],[],[],[],[],[],[],[],[]] [(0,.pointer (some ⟨g,0,none⟩)),(1,.int .i64 at_)]
   (by kernel_rfl) rfl (by decide) (by rfl) (by decide +kernel) rfl rfl (by simp) (H8) ?hstep ?hend
  case hstep =>
   refine⟨?p0,⟨?p1,⟨?p2,⟨?p3,⟨?p4,⟨?p5,⟨?p6,⟨?p7,⟨?p8,⟨?p9,⟨?p10,⟨?p11,⟨?p12,⟨?p13,trivial⟩⟩⟩⟩⟩⟩⟩⟩⟩⟩⟩⟩⟩⟩
   case p0 | p1 | p2 | p4 | p5 | p6 | p8 | p9 | p13 =>
    intro x wx A f m z u E H K D;replace D:=hid D;clear u E m;repeat (obtain⟨_,z⟩:=z)
    refine so ?_;go_step;exact D.out _ _ rfl H
   case p3 =>
    intro x wx A f m z u E H K a;have d6:=tq u 2;have D:=hid a;clear a z u m;have c2:wx.cell? ⟨g,2,none⟩=some (.map (some mb)):=E (fun w=>w.cell? ⟨g,2,none⟩=some (.map (some mb))) (fun _ _ H=>H.cell 2 rfl 2) _ _ H;refine so ?_;go_step;exact D.out _ _ rfl H
   case p7 =>
    intro x wx A f m z u E H K a;have d7:=tq u 6;have D:=hid a;clear a z u m;have c0:wx.cell? ⟨g,0,none⟩=some (.slice (some ad) l c):=E (fun w=>w.cell? ⟨g,0,none⟩=some (.slice (some ad) l c)) (fun _ _ H=>H.cell 2 rfl 0) _ _ H;refine so ?_;go_step;exact D.out _ _ rfl H
   case p10 =>
    intro x wx A f m z u E H K a;have d8:=tq u 9;have D:=hid a;clear a z u E m;have ha:=run_arrayAt (P:=Tryz.prog) wx 206 _ 3 (some (ad.add at_)) (l - at_) (c - at_) a8.out k4;refine so ?_;go_step;exact D.out _ _ rfl H
   case p11 =>
    intro x wx A f m z u E H K a;have d9:=tq u 10;have D:=hid a;clear a z u m;obtain⟨d0,d1,d2⟩:=E _ (Ent.pick 6 [] c4.out) _ _ H;refine so ?_;go_step;exact D.out _ _ rfl H
   case p12 =>
    intro x wx A f m z u E H K a;have c5:=tq u 3;have c6:=tq u 11;have D:=hid a;clear a z u m;have c7:wx.heap[mb]?=some (.map S F):=E (fun w=>w.heap[mb]?=some (.map S F)) (fun _ _ H=>H.is_ 3 rfl) _ _ H;refine so ?_;exact VH _ _ _ _ rfl _ _ (ev c5) (ev c6) (a5.out wx c7) (D.out _ _ rfl H)
  case hend =>
   intro x wx A O u H;replace H:Sp w0 (_::_::_::_::_::_::L) wx:=H;have a9:x 13=.slice V C.length cV:=u 13 (by decide);clear u;simp only [putAll,Act.put,List.setIfInBounds_toArray,List.set_cons_succ,List.set_cons_zero,Nat.reduceAdd] at O;subst O;rw [a9];clear a9;go_wp2;have X:PM.go B at_ ((C.take C.length).reverse) (d - 0) (0,0)=PM.best B at_ d:=by
    unfold PM.best;rw [if_pos (by rw [<- HL.out]; exact c1),HK.out,HC.out,List.take_length]; rfl
   have Y:=hid X;clear X;have Z:∀i (h:i<C.length),C[i] < at_:=fun i h=>PM.places_lt (B:=B) (k:=k) (by rw [HC.out]; exact List.getElem_mem h);have b3:=hid Z;clear Z
   go_loopw [8,9] (fun tv iv wr=>∃(j t:Nat) (b:Nat × Nat),tv=.int .i64 t/\iv=.int .i64 ((j:Int) - 1)/\t+j<=C.length/\PM.go B at_ ((C.take j).reverse) (d - t) b=PM.best B at_ d /\
    Sp w0 (Row 3 1 (.slice V C.length cV) C.length (intsV C)::Rows (PM.places B at_) rl::FdB g (.slice (some ad) l c) (d:Int) mb at_::Is mb (.map S F)::Bk s 54 [.int .i64 b.1,.int .i64 b.2,.int .u8 0]::Bk r 54 [.int .i64 0,.int .i64 0,.int .u8 0]::L) wr) (fun _ iv _=>(intOf iv+1).toNat)
   case atStart=>exact⟨C.length,0,(0,0),rfl,rfl,by omega,Y.out,H⟩
   case round =>
    obtain⟨j,t,b,rfl,rfl,e0,b4,H⟩:=hrel;obtain⟨y,G⟩:=b;have a7:=hid b4;clear b4 Y;have d1:wr.cell? ⟨g,1,none⟩=some (.int .i64 d):=H.cell 2 rfl 1;cases j with
    | zero =>
     have k7:decide ((0:Int)<=((0:Nat):Int) - 1)=false:=rfl;have hb:(y,G)=PM.best B at_ d:=a7.out;have Q:=hid hb;clear hb;obtain⟨bz,R⟩:=exq (decide (0<y));go_wp2_with fail
     refine Zb (L:=Row 3 1 (.slice V C.length cV) C.length (intsV C)::Rows (PM.places B at_) rl::FdB g (.slice (some ad) l c) (d:Int) mb at_::Is mb (.map S F)::Bk s 54 [.int .i64 y,.int .i64 G,.int .u8 0]::L) [some (.agg #[.int .i64 y,.int .i64 G,.int .u8 0]),some (.pointer (some ⟨s,0,none⟩)),some (.int .i64 y),some (.bool bz),none,some (.bool bz)] (fun _ _=>True) (fun ix vx=>match ix with | 4=>(fun _=>[Bk r 54 [.int .i64 y,.int .i64 G,.int .u8 0]]) vx | _=>[]) (fun ix=>match ix with | 4=>[Bk r 54 [.int .i64 0,.int .i64 0,.int .u8 0]] | _=>[]) 6 82
      [some 78,some 79,some 80,some 81,none,some 5]
      [[],[],[1],[2],[0,0],[3,4,0,1,2,3,4]]
      [[],[],[1],[1,2],[0],[0,1,2,3,4]]
      [[],[],[],[],[],[]] [[],[],[],[],[],[]] [(4,.pointer (some ⟨r,0,none⟩)),(6,.pointer (some ⟨s,0,none⟩))]
      (by kernel_rfl) rfl (by decide) (by rfl) (by decide +kernel) rfl rfl (by simp) (H.pick 6 [5,0,1,2,3,4]) ?hstep ?hend
     case hstep =>
      refine⟨?p0,⟨?p1,⟨?p2,⟨?p3,⟨?p4,⟨?p5,trivial⟩⟩⟩⟩⟩⟩
      case p1 | p3 | p5 =>
       intro x wx A f m z u E H K D;replace D:=hid D;clear u E m;repeat (obtain⟨_,z⟩:=z)
       refine so ?_;go_step;exact D.out _ _ rfl H
      case p0 =>
       intro x wx A f m z u E H K a;have e6:A.tmps[6]?.getD undef=.pointer (some ⟨s,0,none⟩):=Za z (6,_) (by simp) (by rfl);have D:=hid a;clear a z u m;have b0:wx.cell? ⟨s,0,none⟩=some (.int .i64 y):=E (fun w=>w.cell? ⟨s,0,none⟩=some (.int .i64 y)) (fun _ _ H=>H.cell 4 rfl 0) _ _ H;have y:wx.cell? ⟨s,1,none⟩=some (.int .i64 G):=E (fun w=>w.cell? ⟨s,1,none⟩=some (.int .i64 G)) (fun _ _ H=>H.cell 4 rfl 1) _ _ H;have G:wx.cell? ⟨s,2,none⟩=some (.int .u8 0):=E (fun w=>w.cell? ⟨s,2,none⟩=some (.int .u8 0)) (fun _ _ H=>H.cell 4 rfl 2) _ _ H;refine so ?_;go_step;exact D.out _ _ rfl H
      case p2 =>
       intro x wx A f m z u E H K a;have b5:=tq u 1;have D:=hid a;clear a z u m;have b0:wx.cell? ⟨s,0,none⟩=some (.int .i64 y):=E (fun w=>w.cell? ⟨s,0,none⟩=some (.int .i64 y)) (fun _ _ H=>H.cell 4 rfl 0) _ _ H;refine so ?_;go_step;exact D.out _ _ rfl H
      case p4 =>
       intro x wx A f m z u E H K a;have e4:A.tmps[4]?.getD undef=.pointer (some ⟨r,0,none⟩):=Za z (4,_) (by simp) (by rfl);have b6:=tq u 0;replace H:Sp w0 (_::f) wx:=H;have D:Hid (∀(v:Value) (w' : World),True->Sp w0 ((Bk r 54 [.int .i64 y,.int .i64 G,.int .u8 0])::f) w'->K (A.put none v) w'):=hid a;clear a z u E m;have z0:wx.frozen? ⟨r,0,none⟩=false:=H.frozen 0 rfl 0;have z1:wx.frozen? ⟨r,1,none⟩=false:=H.frozen 0 rfl 1;have z2:wx.frozen? ⟨r,2,none⟩=false:=H.frozen 0 rfl 2;have z3:wx.cell? ⟨r,0,none⟩=some (.int .i64 0):=H.cell 0 rfl 0;have z4:wx.cell? ⟨r,1,none⟩=some (.int .i64 0):=H.cell 0 rfl 1;have z5:wx.cell? ⟨r,2,none⟩=some (.int .u8 0):=H.cell 0 rfl 2;refine so ?_;go_step;exact D.out undef _ trivial (((H.set 0 _).set 1 _).set 2 _)
     case hend =>
      intro x wx A O u H;replace H:Sp w0 (_::_::_::_::_::_::L) wx:=H;have y5:x 5=.bool bz:=u 5 (by decide);clear u;simp only [putAll,Act.put,List.setIfInBounds_toArray,List.set_cons_succ,List.set_cons_zero,Nat.reduceAdd] at O;subst O;rw [y5];clear y5;have f0:wx.cell? ⟨r,0,none⟩=some (.int .i64 y):=H.cell 0 rfl 0;have f1:wx.cell? ⟨r,1,none⟩=some (.int .i64 G):=H.cell 0 rfl 1;have f2:wx.cell? ⟨r,2,none⟩=some (.int .u8 0):=H.cell 0 rfl 2;go_wp2;refine bodyPost_ret (v:=.tuple #[.agg #[.int .i64 y,.int .i64 G,.int .u8 0],.bool bz]) (by simp [results,Tryz.results100,go_sem,f0,f1,f2]) rfl ?_;have he:=Q.out;rw [<- he,<- R];exact⟨at_,Nat.le_refl _,rfl,Yd a6.out ((M.out _ _ _ (H.pick 6 [1,2,3,4])).pick 3 [1,2,0])⟩
    | succ i =>
     have e9:((i+1:Nat):Int) - 1=(i:Int):=by omega
     rw [e9];have k7:decide ((0:Int)<=(i:Int))=true:=decide_eq_true (by omega);by_cases e5:t<d
     ·have k8:decide ((t:Int)<(d:Int))=true:=decide_eq_true (by omega);have hi:i<C.length:=by omega
      obtain⟨V2,c2,ev,hr,_,_⟩:=H.row_rd 0 rfl;injection ev with ev _ e3
      subst ev;subst e3;obtain⟨av,rfl,b7⟩:=hr.at_ (k:=i) (by simpa [intsV] using hi);obtain⟨p,hp⟩:=exq (C[i]);have c8:p<at_:=by rw [<- hp]; exact b3.out i hi
      have ce:wr.cell? (av.add i)=some (.int .i64 p):=by
       rw [b7];simp [intsV,hp]
      have a0:PM.go B at_ (p::(C.take i).reverse) (d - t) (y,G)=PM.best B at_ d:=by
       rw [<- a7.out,List.take_succ_eq_append_getElem hi,List.reverse_append,hp]; rfl
      have a1:=hid a0;have k9:(i:Int)<(C.length:Int):=by omega
      have e7:decide ((at_:Int)<=(p:Int))=false:=decide_eq_false (by omega);clear a0 hr b7 hp e9;by_cases a2:32768<at_ - p
      ·have c9:decide ((32768:Int)<(at_:Int) - (p:Int))=true:=decide_eq_true (by omega);have hb:(y,G)=PM.best B at_ d:=by
        rw [<- a1.out,PM.go,if_neg (by omega),if_pos a2]
       have Q:=hid hb;clear hb;obtain⟨bz,R⟩:=exq (decide (0<y));go_wp2_with fail
       refine Zb (L:=Row 3 1 (.slice (some av) C.length cV) C.length (intsV C)::Rows (PM.places B at_) rl::FdB g (.slice (some ad) l c) (d:Int) mb at_::Is mb (.map S F)::Bk s 54 [.int .i64 y,.int .i64 G,.int .u8 0]::L) [some (.agg #[.int .i64 y,.int .i64 G,.int .u8 0]),some (.pointer (some ⟨s,0,none⟩)),some (.int .i64 y),some (.bool bz),none,some (.bool bz)] (fun _ _=>True) (fun ix vx=>match ix with | 4=>(fun _=>[Bk r 54 [.int .i64 y,.int .i64 G,.int .u8 0]]) vx | _=>[]) (fun ix=>match ix with | 4=>[Bk r 54 [.int .i64 0,.int .i64 0,.int .u8 0]] | _=>[]) 6 82
        [some 78,some 79,some 80,some 81,none,some 5]
        [[],[],[1],[2],[0,0],[3,4,0,1,2,3,4]]
        [[],[],[1],[1,2],[0],[0,1,2,3,4]]
        [[],[],[],[],[],[]] [[],[],[],[],[],[]] [(4,.pointer (some ⟨r,0,none⟩)),(6,.pointer (some ⟨s,0,none⟩))]
        (by kernel_rfl) rfl (by decide) (by rfl) (by decide +kernel) rfl rfl (by simp) (H.pick 6 [5,0,1,2,3,4]) ?hstep ?hend
       case hstep =>
        refine⟨?p0,⟨?p1,⟨?p2,⟨?p3,⟨?p4,⟨?p5,trivial⟩⟩⟩⟩⟩⟩
        case p1 | p3 | p5 =>
         intro x wx A f m z u E H K D;replace D:=hid D;clear u E m;repeat (obtain⟨_,z⟩:=z)
         refine so ?_;go_step;exact D.out _ _ rfl H
        case p0 =>
         intro x wx A f m z u E H K a;have e6:A.tmps[6]?.getD undef=.pointer (some ⟨s,0,none⟩):=Za z (6,_) (by simp) (by rfl);have D:=hid a;clear a z u m;have b0:wx.cell? ⟨s,0,none⟩=some (.int .i64 y):=E (fun w=>w.cell? ⟨s,0,none⟩=some (.int .i64 y)) (fun _ _ H=>H.cell 4 rfl 0) _ _ H;have y:wx.cell? ⟨s,1,none⟩=some (.int .i64 G):=E (fun w=>w.cell? ⟨s,1,none⟩=some (.int .i64 G)) (fun _ _ H=>H.cell 4 rfl 1) _ _ H;have G:wx.cell? ⟨s,2,none⟩=some (.int .u8 0):=E (fun w=>w.cell? ⟨s,2,none⟩=some (.int .u8 0)) (fun _ _ H=>H.cell 4 rfl 2) _ _ H;refine so ?_;go_step;exact D.out _ _ rfl H
        case p2 =>
         intro x wx A f m z u E H K a;have b5:=tq u 1;have D:=hid a;clear a z u m;have b0:wx.cell? ⟨s,0,none⟩=some (.int .i64 y):=E (fun w=>w.cell? ⟨s,0,none⟩=some (.int .i64 y)) (fun _ _ H=>H.cell 4 rfl 0) _ _ H;refine so ?_;go_step;exact D.out _ _ rfl H
        case p4 =>
         intro x wx A f m z u E H K a;have e4:A.tmps[4]?.getD undef=.pointer (some ⟨r,0,none⟩):=Za z (4,_) (by simp) (by rfl);have b6:=tq u 0;replace H:Sp w0 (_::f) wx:=H;have D:Hid (∀(v:Value) (w' : World),True->Sp w0 ((Bk r 54 [.int .i64 y,.int .i64 G,.int .u8 0])::f) w'->K (A.put none v) w'):=hid a;clear a z u E m;have z0:wx.frozen? ⟨r,0,none⟩=false:=H.frozen 0 rfl 0;have z1:wx.frozen? ⟨r,1,none⟩=false:=H.frozen 0 rfl 1;have z2:wx.frozen? ⟨r,2,none⟩=false:=H.frozen 0 rfl 2;have z3:wx.cell? ⟨r,0,none⟩=some (.int .i64 0):=H.cell 0 rfl 0;have z4:wx.cell? ⟨r,1,none⟩=some (.int .i64 0):=H.cell 0 rfl 1;have z5:wx.cell? ⟨r,2,none⟩=some (.int .u8 0):=H.cell 0 rfl 2;refine so ?_;go_step;exact D.out undef _ trivial (((H.set 0 _).set 1 _).set 2 _)
       case hend =>
        intro x wx A O u H;replace H:Sp w0 (_::_::_::_::_::_::L) wx:=H;have y5:x 5=.bool bz:=u 5 (by decide);clear u;simp only [putAll,Act.put,List.setIfInBounds_toArray,List.set_cons_succ,List.set_cons_zero,Nat.reduceAdd] at O;subst O;rw [y5];clear y5;have f0:wx.cell? ⟨r,0,none⟩=some (.int .i64 y):=H.cell 0 rfl 0;have f1:wx.cell? ⟨r,1,none⟩=some (.int .i64 G):=H.cell 0 rfl 1;have f2:wx.cell? ⟨r,2,none⟩=some (.int .u8 0):=H.cell 0 rfl 2;go_wp2;refine bodyPost_ret (v:=.tuple #[.agg #[.int .i64 y,.int .i64 G,.int .u8 0],.bool bz]) (by simp [results,Tryz.results100,go_sem,f0,f1,f2]) rfl ?_;have he:=Q.out;rw [<- he,<- R];exact⟨at_,Nat.le_refl _,rfl,Yd a6.out ((M.out _ _ _ (H.pick 6 [1,2,3,4])).pick 3 [1,2,0])⟩
      ·have c9:decide ((32768:Int)<(at_:Int) - (p:Int))=false:=decide_eq_false (by omega);go_wp2_with fail
       have b8:=Tn g p at_ l (some ad) c B H HL.out (Ent.pick 3 [2] (fun _ _ H=>H.cell 0 rfl 0)) (Ent.pick 6 [] HB.out) c8 hat hlm;refine b8.mono ?_;rintro _ w5 ⟨rfl,H⟩;clear b8;obtain⟨q,hq⟩:=exq (PM.mlen B p at_);rw [hq];have f0:w5.cell? ⟨s,0,none⟩=some (.int .i64 y):=H.cell 4 rfl 0;have f1:w5.cell? ⟨s,1,none⟩=some (.int .i64 G):=H.cell 4 rfl 1;have f2:w5.cell? ⟨s,2,none⟩=some (.int .u8 0):=H.cell 4 rfl 2;have z0:w5.frozen? ⟨s,0,none⟩=false:=H.frozen 4 rfl 0;have z1:w5.frozen? ⟨s,1,none⟩=false:=H.frozen 4 rfl 1;have z2:w5.frozen? ⟨s,2,none⟩=false:=H.frozen 4 rfl 2;have a3:PM.go B at_ (C.take i).reverse (d - (t+1)) (if y<q then (q,at_ - p) else (y,G))=PM.best B at_ d:=by
        have e:=a1.out;rw [PM.go,if_neg (by omega),if_neg a2,hq,Nat.sub_sub] at e;exact e
       have a4:=hid a3;clear a3 hq;by_cases T:y<q
       ·have d3:decide (y<q)=true:=decide_eq_true T;go_wp2_with fail
        go_roundw
        case rel =>
         refine⟨i,t+1,(q,at_ - p),by go_num,rfl,by omega,?_,?_⟩
         ·rw [<- a4.out,if_pos T]
         ·have e:((at_ - p:Nat):Int)=(at_:Int) - (p:Int):=by omega
          show Sp w0 (_::_::_::_::Bk s _ [.int .i64 q,.int .i64 ((at_ - p:Nat):Int),.int .u8 0]::_) _;rw [e];exact((((H.pick 5 [4,0,1,2,3]).set 0 _).set 1 _).set 2 _).pick 5 [1,2,3,4,0]
        case measure=>simp [intOf]
       ·have d3:decide (y<q)=false:=decide_eq_false T;go_wp2_with fail
        go_roundw
        case rel =>
         refine⟨i,t+1,(y,G),by go_num,rfl,by omega,?_,H⟩;rw [<- a4.out,if_neg T]
        case measure=>simp [intOf]
     ·have k8:decide ((t:Int)<(d:Int))=false:=decide_eq_false (by omega);have hb:(y,G)=PM.best B at_ d:=by
       rw [<- a7.out,show d - t=0 by omega,PM.go_zero]
      have Q:=hid hb;clear hb;obtain⟨bz,R⟩:=exq (decide (0<y));go_wp2_with fail
      refine Zb (L:=Row 3 1 (.slice V C.length cV) C.length (intsV C)::Rows (PM.places B at_) rl::FdB g (.slice (some ad) l c) (d:Int) mb at_::Is mb (.map S F)::Bk s 54 [.int .i64 y,.int .i64 G,.int .u8 0]::L) [some (.agg #[.int .i64 y,.int .i64 G,.int .u8 0]),some (.pointer (some ⟨s,0,none⟩)),some (.int .i64 y),some (.bool bz),none,some (.bool bz)] (fun _ _=>True) (fun ix vx=>match ix with | 4=>(fun _=>[Bk r 54 [.int .i64 y,.int .i64 G,.int .u8 0]]) vx | _=>[]) (fun ix=>match ix with | 4=>[Bk r 54 [.int .i64 0,.int .i64 0,.int .u8 0]] | _=>[]) 6 82
       [some 78,some 79,some 80,some 81,none,some 5]
       [[],[],[1],[2],[0,0],[3,4,0,1,2,3,4]]
       [[],[],[1],[1,2],[0],[0,1,2,3,4]]
       [[],[],[],[],[],[]] [[],[],[],[],[],[]] [(4,.pointer (some ⟨r,0,none⟩)),(6,.pointer (some ⟨s,0,none⟩))]
       (by kernel_rfl) rfl (by decide) (by rfl) (by decide +kernel) rfl rfl (by simp) (H.pick 6 [5,0,1,2,3,4]) ?hstep ?hend
      case hstep =>
       refine⟨?p0,⟨?p1,⟨?p2,⟨?p3,⟨?p4,⟨?p5,trivial⟩⟩⟩⟩⟩⟩
       case p1 | p3 | p5 =>
        intro x wx A f m z u E H K D;replace D:=hid D;clear u E m;repeat (obtain⟨_,z⟩:=z)
        refine so ?_;go_step;exact D.out _ _ rfl H
       case p0 =>
        intro x wx A f m z u E H K a;have e6:A.tmps[6]?.getD undef=.pointer (some ⟨s,0,none⟩):=Za z (6,_) (by simp) (by rfl);have D:=hid a;clear a z u m;have b0:wx.cell? ⟨s,0,none⟩=some (.int .i64 y):=E (fun w=>w.cell? ⟨s,0,none⟩=some (.int .i64 y)) (fun _ _ H=>H.cell 4 rfl 0) _ _ H;have y:wx.cell? ⟨s,1,none⟩=some (.int .i64 G):=E (fun w=>w.cell? ⟨s,1,none⟩=some (.int .i64 G)) (fun _ _ H=>H.cell 4 rfl 1) _ _ H;have G:wx.cell? ⟨s,2,none⟩=some (.int .u8 0):=E (fun w=>w.cell? ⟨s,2,none⟩=some (.int .u8 0)) (fun _ _ H=>H.cell 4 rfl 2) _ _ H;refine so ?_;go_step;exact D.out _ _ rfl H
       case p2 =>
        intro x wx A f m z u E H K a;have b5:=tq u 1;have D:=hid a;clear a z u m;have b0:wx.cell? ⟨s,0,none⟩=some (.int .i64 y):=E (fun w=>w.cell? ⟨s,0,none⟩=some (.int .i64 y)) (fun _ _ H=>H.cell 4 rfl 0) _ _ H;refine so ?_;go_step;exact D.out _ _ rfl H
       case p4 =>
        intro x wx A f m z u E H K a;have e4:A.tmps[4]?.getD undef=.pointer (some ⟨r,0,none⟩):=Za z (4,_) (by simp) (by rfl);have b6:=tq u 0;replace H:Sp w0 (_::f) wx:=H;have D:Hid (∀(v:Value) (w' : World),True->Sp w0 ((Bk r 54 [.int .i64 y,.int .i64 G,.int .u8 0])::f) w'->K (A.put none v) w'):=hid a;clear a z u E m;have z0:wx.frozen? ⟨r,0,none⟩=false:=H.frozen 0 rfl 0;have z1:wx.frozen? ⟨r,1,none⟩=false:=H.frozen 0 rfl 1;have z2:wx.frozen? ⟨r,2,none⟩=false:=H.frozen 0 rfl 2;have z3:wx.cell? ⟨r,0,none⟩=some (.int .i64 0):=H.cell 0 rfl 0;have z4:wx.cell? ⟨r,1,none⟩=some (.int .i64 0):=H.cell 0 rfl 1;have z5:wx.cell? ⟨r,2,none⟩=some (.int .u8 0):=H.cell 0 rfl 2;refine so ?_;go_step;exact D.out undef _ trivial (((H.set 0 _).set 1 _).set 2 _)
      case hend =>
       intro x wx A O u H;replace H:Sp w0 (_::_::_::_::_::_::L) wx:=H;have y5:x 5=.bool bz:=u 5 (by decide);clear u;simp only [putAll,Act.put,List.setIfInBounds_toArray,List.set_cons_succ,List.set_cons_zero,Nat.reduceAdd] at O;subst O;rw [y5];clear y5;have f0:wx.cell? ⟨r,0,none⟩=some (.int .i64 y):=H.cell 0 rfl 0;have f1:wx.cell? ⟨r,1,none⟩=some (.int .i64 G):=H.cell 0 rfl 1;have f2:wx.cell? ⟨r,2,none⟩=some (.int .u8 0):=H.cell 0 rfl 2;go_wp2;refine bodyPost_ret (v:=.tuple #[.agg #[.int .i64 y,.int .i64 G,.int .u8 0],.bool bz]) (by simp [results,Tryz.results100,go_sem,f0,f1,f2]) rfl ?_;have he:=Q.out;rw [<- he,<- R];exact⟨at_,Nat.le_refl _,rfl,Yd a6.out ((M.out _ _ _ (H.pick 6 [1,2,3,4])).pick 3 [1,2,0])⟩
 ·obtain⟨mb,S,F,N,H2⟩:=YP H;have c0:∀o,(w.alloc o).cell? ⟨g,0,none⟩=some (.slice A0 l c):=fun o=>(H2.alloc o).cell 0 rfl 0;have k1:decide ((l:Int)<at_+3)=true:=decide_eq_true (by omega);go_enter Tryz.func100,Tryz.ntmps100
  go_wp2_with fail
  have H3:=H.newBk [.int .i64 0,.int .i64 0,.int .u8 0] 54;have f0:=H3.cell 0 rfl 0;have f1:=H3.cell 0 rfl 1;have f2:=H3.cell 0 rfl 2;refine bodyPost_ret (v:=.tuple #[.agg #[.int .i64 0,.int .i64 0,.int .u8 0],.bool false]) (by simp [results,Tryz.results100,go_sem,f0,f1,f2]) rfl ?_;rw [PM.best_short B at_ d (by rw [<- HL.out]; omega)];exact⟨n,hn,rfl,H3.tail⟩
open Go.RowKit Go.MapKept
theorem Sp.emp (H:Sp w0 L w):Sp w0 (Emp::L) w:=by
 obtain⟨a,c,d,own,h⟩:=H;refine⟨a,c,d,fun b=>own b+1,fun i A hi=>?_⟩
 match i with
 | 0 =>
  obtain rfl:Emp=A:=by simpa using hi
  trivial
 | i+1=>exact cast (congrArg A (ZT fun b=>by omega)) (h i A (by simpa using hi))
theorem Uw (A0:Option Addr) (l c:Nat) (d:Int) (B:List UInt8) (H:Sp w0 L w) :
  Calls Tryz.prog 99 #[.slice A0 l c,.int .i64 d] w fun e w'=>∃g,e=.returned (.pointer (some ⟨g,0,none⟩))/\Sp w0 (Fd g (.slice A0 l c) B d 0::L) w':=by
 have a:=(H.emp.new (.map #[] 0)).newBk [.slice A0 l c,.int .i64 d,.map (some w.heap.size),.int .i64 0] 203;have e:(w.alloc (.map #[] 0)).heap.size=w.heap.size+1:=Array.size_push _;rw [e] at a;clear e;have f:∀w',Sp w0 (Bk (w.heap.size+1) 203 [.slice A0 l c,.int .i64 d,.map (some w.heap.size),.int .i64 0]::Is w.heap.size (.map #[] 0)::Emp::L) w'->Sp w0 (Fd (w.heap.size+1) (.slice A0 l c) B d 0::L) w':=by
  generalize w.heap.size+1=g;generalize w.heap.size=mb;intro w' b;exact Yd (mb:=mb) (es:=#[]) (clock:=0) ⟨MapOk.empty,fun i h=>absurd h (Nat.not_lt_zero _)⟩ b
 have b:=hid (f _ a);clear f a H;go_enter Tryz.func99,Tryz.ntmps99
 have j:=run_makeMap (P:=Tryz.prog) 201 w;go_wp2;go_ret;exact⟨_,rfl,b.out⟩
theorem Yu (s:PM.St) (w:World) :
  Calls Tryz.prog 77 #[stV s] w fun e w'=>e=.returned (.int .i64 (PM.made s:Int))/\Keep w w':=by
 obtain⟨a,b,c⟩:=s;obtain⟨m,d⟩:∃m:Int,max (a:Int) 1=m:=⟨_,rfl⟩;have e:((PM.made (a,b,c):Nat):Int)=m:=by
  unfold PM.made;rw [<- d];show((max a 1:Nat):Int)=_;omega
 unfold stV;rw [e];clear e;go_enter Tryz.func77,Tryz.ntmps77
 go_wp2;all_goals (go_ret; exact⟨Z1 (by omega),Keep.alloc _ _⟩)
end Go.Proofs.YteajimobgkempaaGreatDoor

