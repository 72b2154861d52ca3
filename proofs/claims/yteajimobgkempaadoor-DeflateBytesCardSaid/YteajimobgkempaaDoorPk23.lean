/- A pack. -/
import Derived.Test.YteajimobgkempaaDoorPk22
set_option linter.all false
set_option maxRecDepth 100000
set_option maxHeartbeats 8000000
namespace Go.Proofs.YteajimobgkempaaDoor
variable {w0 w:World} {L:List Pr}
open Go.RowKit Go.MapKept
def stCells (s:PM.St):List Value:=[.int .i64 s.1,.int .i64 s.2.1,.int .u8 s.2.2.toNat]
def stsV (l:List PM.St):List Value:=l.flatMap stCells
theorem Zl (a b:List PM.St):stsV (a++b)=stsV a++stsV b:=by simp [stsV]
theorem Xv (l:List PM.St):(stsV l).length=l.length * 3:=by
 induction l with
 | nil=>rfl
 | cons s l ih =>
  show(stCells s++stsV l).length=_;rw [List.length_append,ih,List.length_cons];show 3+_=_;omega
theorem infoSM:(Tryd.prog.info? 148).map (fun i=>(i.zero,i.size,i.bytes))=some (some (.agg #[.int .i64 0,.int .i64 0,.int .u8 0]),3,24):=by kernel_rfl
theorem Yb (s:PM.St):∀u ∈ stCells s,u.oneCell'=true:=by
 intro u a;simp only [stCells,List.mem_cons,List.not_mem_nil,or_false] at a;rcases a with rfl | rfl | rfl <;> rfl
theorem Vn (g l d:Nat) (A0:Option Addr) (c:Nat) (B:List UInt8) (H:Sp w0 (Fd g (.slice A0 l c) B (d:Int) 0::L) w) (hl:l=B.length) (hb:Ent L (fun w=>Byt w (.slice A0 l c) B)) (hlm:l<=1000000) :
  Calls Tryd.prog 44 #[.slice A0 l c,.func (.func 46) #[.pointer (some ⟨g,0,none⟩)] #[]] w (Ret fun v w'=>Sp w0 (Row 148 3 v (PM.Cut B d).length (stsV (PM.Cut B d))::L) w'):=by
 obtain⟨i0,hi,J,K,M⟩:=info_parts infoSM;have N:=hid hl;have HB:=hid hb;clear hl hb;go_enter Tryd.func44,Tryd.ntmps44
 go_wp2
 go_loopw [5,6] (fun lv iv wr=>∃(q n:Nat) (V:Option Addr) (cV:Nat) (D:List PM.St),iv=.int .i64 q/\lv=.slice V D.length cV/\q<=l/\n<=q/\D.length<=q/\D++PM.cutAt B d q=PM.Cut B d /\
   Sp w0 (Row 148 3 (.slice V D.length cV) D.length (stsV D)::Fd g (.slice A0 l c) B (d:Int) n::L) wr) (fun _ iv _=>l - (intOf iv).toNat)
 case atStart=>exact⟨0,0,none,0,[],rfl,rfl,Nat.zero_le _,Nat.le_refl _,Nat.le_refl _,(PM.Cut_at B d).symm,H.rowNil _ _⟩
 case round =>
  obtain⟨q,n,V,cV,D,rfl,rfl,hq,hn,b9,a1,H⟩:=hrel;have x:=hid a1;clear a1;by_cases O:q<l
  ·have k1:decide ((q:Int)<(l:Int))=true:=decide_eq_true (by omega);obtain⟨ad,rfl⟩:∃ad,A0=some ad:=by
    obtain⟨_,_,e,hr,_,_⟩:=HB.out _ _ (H.pick 2 []);obtain⟨ad,e2,_⟩:=hr.at8 (k:=q) (by rw [<- N.out]; omega);injection e with e
    exact⟨ad,e.trans e2⟩
   obtain⟨bx,a3⟩:∃bx:UInt8,B.getD q 0=bx:=⟨_,rfl⟩;have P:Ent L (fun w=>w.cell? (ad.add q)=some (.int .u8 bx.toNat)):=HB.out.mono fun w' hw=>by
    obtain⟨_,_,e,hr,_,_⟩:=hw;have a8:q<B.length:=by rw [<- N.out]; exact O
    obtain⟨c0,e2,hc⟩:=hr.at8 a8;injection e with e
    rw [<- e] at e2;injection e2 with e2
    rw [e2,hc,<- a3,List.getD_eq_getElem?_getD,List.getElem?_eq_getElem a8];rfl
   have a9:=hid P;have b0:=hid a3;clear P a3;obtain⟨b1,Q⟩:=exq ((PM.best B q d).1);obtain⟨b,a4⟩:=exq ((PM.best B q d).2);have c3:b1<=l - q:=by
    rcases PM.best_is B q d with h0 | ⟨far,h1,h2,h3,h4,h5,h6⟩
    ·rw [<- Q,h0]; exact Nat.zero_le _
    ·have:=PM.mlen_in (B:=B) (p:=q - far) (q:=q) (by omega);rw [<- Q,h5,N.out];show PM.mlen B (q - far) q<=_;omega
   have G:=hid Q;have b3:=hid a4;have E:=WQ g q n l d (some ad) c B H.swap N.out (Ent.cons _ HB.out) (by omega) (by omega) hn;rw [Q,a4] at E;have t:=hid E;clear Q a4 E;by_cases h0:b1=0
   ·have e0:decide (0<b1)=false:=decide_eq_false (by omega);rw [e0] at t;go_wp2_with fail
    refine t.out.mono ?_;rintro _ y ⟨n2,b4,rfl,H2⟩;unfold stV;have ce:∀o,(y.alloc o).cell? (ad.add q)=some (.int .u8 bx.toNat):=fun o=>a9.out _ _ ((H2.alloc o).pick 2 []);have h:(y.alloc (.cells #[.int .i64 0,.int .i64 0,.int .u8 bx.toNat] 148)).heap.size=y.heap.size+1:=Array.size_push _;have i:Rd ((y.alloc (.cells #[.int .i64 0,.int .i64 0,.int .u8 bx.toNat] 148)).alloc (.cells #[.int .i64 0,.int .i64 0,.int .u8 bx.toNat] 148)) (some ⟨y.heap.size+1,0,none⟩) (stCells (0,0,bx)):=by
     have:=Rd.of_blk (Blk.new (y.alloc (.cells #[.int .i64 0,.int .i64 0,.int .u8 bx.toNat] 148)) 148 [.int .i64 0,.int .i64 0,.int .u8 bx.toNat])
     rwa [h] at this
    have j:=hid i;have F:=((H2.newBk [.int .i64 0,.int .i64 0,.int .u8 bx.toNat] 148).pick 3 [2,0,1]).alloc (.cells #[.int .i64 0,.int .i64 0,.int .u8 bx.toNat] 148);have m:=hid F;clear i F h;go_wp2_with (at_builtin; refine wpList_append_sp rfl _ _ 72 rfl 148 i0 (.agg #[.int .i64 0,.int .i64 0,.int .u8 0]) 3 24 Tryd.underlying72 hi J K M rfl (by decide) (.slice V D.length cV) D.length (stsV D) rfl m.out (some ⟨y.heap.size+1,0,none⟩) 1 1 (stCells (0,0,bx)) rfl rfl j.out (Yb _) (by unfold maxLen; omega) (by omega) ?_)
    intro v5 w5 f _;clear m j;obtain⟨W,X,rfl,_,_⟩:=Row.form f 0 rfl;generalize y.heap.size=s at f ⊢;have R:=f.cell 1 rfl 0;have S:=f.cell 1 rfl 1;have T:=f.cell 1 rfl 2;simp only [List.getElem?_cons_zero,List.getElem?_cons_succ] at R S T;clear ce;go_wp2_with fail
    refine(Yy (0,0,bx) _).mono ?_;rintro _ w6 ⟨rfl,Y⟩;have Z:=Y.sep f;have a:PM.made (0,0,bx)=1:=rfl;rw [a];go_wp2;go_roundw
    case rel =>
     refine⟨q+1,n2,W,X,D++[(0,0,bx)],by go_num,by rw [List.length_append]; rfl,by omega,by omega,by rw [List.length_append]; show D.length+1<=_; omega,?_,?_⟩
     ·rw [<- x.out,PM.cutAt_lit B d q (by rw [<- N.out]; exact O) (.inl (by rw [G.out]; exact h0)),b0.out,List.append_assoc];rfl
     ·rw [List.length_append,Zl,show stsV [(0,0,bx)]=stCells (0,0,bx)++[] from rfl,List.append_nil];exact Z.pick 3 [0,2]
    case measure=>simp [intOf]; omega
   ·have e0:decide (0<b1)=true:=decide_eq_true (by omega);rw [e0] at t;by_cases c4:q+1<l
    ·have k2:decide ((q:Int)+1<(l:Int))=true:=decide_eq_true (by omega);go_wp2_with fail
     refine t.out.mono ?_;rintro _ y ⟨n2,b4,rfl,H2⟩;unfold stV;go_wp2_with fail
     have a0:=(H2.newBk [.int .i64 b1,.int .i64 b,.int .u8 0] 148).swap;generalize y.heap.size=s at a0 ⊢;generalize y.alloc _=w3 at a0 ⊢;clear H2 y;have z:=WQ g (q+1) n2 l d (some ad) c B a0 N.out (Ent.pick 2 [] HB.out) (by omega) (by omega) (by omega);obtain⟨A,a5⟩:=exq ((PM.best B (q+1) d).1);obtain⟨I,a6⟩:=exq ((PM.best B (q+1) d).2);have b5:((q+1:Nat):Int)=(q:Int)+1:=by omega
     rw [b5,a5,a6] at z;have b6:=hid a5;have c6:=hid a6;clear b5 a5 a6 a0;refine z.mono ?_;rintro _ r ⟨n3,c7,rfl,U⟩;unfold stV;have R:∀o,(r.alloc o).cell? ⟨s,0,none⟩=some (.int .i64 b1):=fun o=>(U.alloc o).cell 1 rfl 0;have S:∀o,(r.alloc o).cell? ⟨s,1,none⟩=some (.int .i64 b):=fun o=>(U.alloc o).cell 1 rfl 1;have T:∀o,(r.alloc o).cell? ⟨s,2,none⟩=some (.int .u8 0):=fun o=>(U.alloc o).cell 1 rfl 2;have z0:∀o,(r.alloc o).frozen? ⟨s,0,none⟩=false:=fun o=>(U.alloc o).frozen 1 rfl 0;have z1:∀o,(r.alloc o).frozen? ⟨s,1,none⟩=false:=fun o=>(U.alloc o).frozen 1 rfl 1;have z2:∀o,(r.alloc o).frozen? ⟨s,2,none⟩=false:=fun o=>(U.alloc o).frozen 1 rfl 2;have ce:∀o,(r.alloc o).cell? (ad.add q)=some (.int .u8 bx.toNat):=fun o=>a9.out _ _ ((U.alloc o).pick 3 []);clear z;by_cases a7:b1<A
     ·have e1:decide (0<A)=true:=decide_eq_true (by omega);have e2:decide (b1<A)=true:=decide_eq_true a7;rw [e1];have a2:PM.cutAt B d q=(0,0,bx)::PM.cutAt B d (q+1):=by
       rw [PM.cutAt_lit B d q (by rw [<- N.out]; exact O) (.inr (by rw [G.out,b6.out]; exact a7)),b0.out]
      have b7:=hid a2;clear a2;have h:((((r.alloc (.cells #[.int .i64 A,.int .i64 I,.int .u8 0] 148)).setCell ⟨s,0,none⟩ (.int .i64 0)).setCell ⟨s,1,none⟩ (.int .i64 0)).setCell ⟨s,2,none⟩ (.int .u8 bx.toNat)).heap.size=r.heap.size+1:=by simp [World.setCell]
      have i:Rd (((((r.alloc (.cells #[.int .i64 A,.int .i64 I,.int .u8 0] 148)).setCell ⟨s,0,none⟩ (.int .i64 0)).setCell ⟨s,1,none⟩ (.int .i64 0)).setCell ⟨s,2,none⟩ (.int .u8 bx.toNat)).alloc (.cells #[.int .i64 0,.int .i64 0,.int .u8 bx.toNat] 148)) (some ⟨r.heap.size+1,0,none⟩) (stCells (0,0,bx)):=by
       have:=Rd.of_blk (Blk.new ((((r.alloc (.cells #[.int .i64 A,.int .i64 I,.int .u8 0] 148)).setCell ⟨s,0,none⟩ (.int .i64 0)).setCell ⟨s,1,none⟩ (.int .i64 0)).setCell ⟨s,2,none⟩ (.int .u8 bx.toNat)) 148 [.int .i64 0,.int .i64 0,.int .u8 bx.toNat])
       rwa [h] at this
      have j:=hid i;have F:=((((((U.alloc (.cells #[.int .i64 A,.int .i64 I,.int .u8 0] 148)).pick 3 [1,0,2]).set 0 (.int .i64 0)).set 1 (.int .i64 0)).set 2 (.int .u8 bx.toNat)).pick 3 [2,0,1]).alloc (.cells #[.int .i64 0,.int .i64 0,.int .u8 bx.toNat] 148);have m:=hid F;clear i F h;go_wp2_with (at_builtin; refine wpList_append_sp rfl _ _ 72 rfl 148 i0 (.agg #[.int .i64 0,.int .i64 0,.int .u8 0]) 3 24 Tryd.underlying72 hi J K M rfl (by decide) (.slice V D.length cV) D.length (stsV D) rfl m.out (some ⟨r.heap.size+1,0,none⟩) 1 1 (stCells (0,0,bx)) rfl rfl j.out (Yb _) (by unfold maxLen; omega) (by omega) ?_)
      intro v5 w5 f _;clear m j;obtain⟨W,X,rfl,_,_⟩:=Row.form f 0 rfl;generalize r.heap.size=s at f ⊢;have R:=f.cell 1 rfl 0;have S:=f.cell 1 rfl 1;have T:=f.cell 1 rfl 2;simp only [List.getElem?_cons_zero,List.getElem?_cons_succ] at R S T;clear ce;go_wp2_with fail
      refine(Yy (0,0,bx) _).mono ?_;rintro _ w6 ⟨rfl,Y⟩;have Z:=Y.sep f;have a:PM.made (0,0,bx)=1:=rfl;rw [a];go_wp2;go_roundw
      case rel =>
       refine⟨q+1,n3,W,X,D++[(0,0,bx)],by go_num,by rw [List.length_append]; rfl,by omega,by omega,by rw [List.length_append]; show D.length+1<=_; omega,?_,?_⟩
       ·rw [<- x.out,b7.out,List.append_assoc];rfl
       ·rw [List.length_append,Zl,show stsV [(0,0,bx)]=stCells (0,0,bx)++[] from rfl,List.append_nil];exact Z.pick 3 [0,2]
      case measure=>simp [intOf]; omega
     ·have u:PM.cutAt B d q=(b1,b,0)::PM.cutAt B d (q+b1):=by
       rw [PM.cutAt_copy B d q (by rw [<- N.out]; exact O) (by rw [G.out,b6.out]; omega),G.out,b3.out]
      have C:=hid u;clear u;by_cases b8:A=0
      ·have e1:decide (0<A)=false:=decide_eq_false (by omega);rw [e1];clear b8;have h:(r.alloc (.cells #[.int .i64 A,.int .i64 I,.int .u8 0] 148)).heap.size=r.heap.size+1:=Array.size_push _;have i:Rd ((r.alloc (.cells #[.int .i64 A,.int .i64 I,.int .u8 0] 148)).alloc (.cells #[.int .i64 b1,.int .i64 b,.int .u8 0] 148)) (some ⟨r.heap.size+1,0,none⟩) (stCells (b1,b,0)):=by
        have:=Rd.of_blk (Blk.new (r.alloc (.cells #[.int .i64 A,.int .i64 I,.int .u8 0] 148)) 148 [.int .i64 b1,.int .i64 b,.int .u8 0])
        rwa [h] at this
       have j:=hid i;have F:=((U.alloc (.cells #[.int .i64 A,.int .i64 I,.int .u8 0] 148)).pick 3 [2,1,0]).alloc (.cells #[.int .i64 b1,.int .i64 b,.int .u8 0] 148);have m:=hid F;clear i F h;go_wp2_with (at_builtin; refine wpList_append_sp rfl _ _ 72 rfl 148 i0 (.agg #[.int .i64 0,.int .i64 0,.int .u8 0]) 3 24 Tryd.underlying72 hi J K M rfl (by decide) (.slice V D.length cV) D.length (stsV D) rfl m.out (some ⟨r.heap.size+1,0,none⟩) 1 1 (stCells (b1,b,0)) rfl rfl j.out (Yb _) (by unfold maxLen; omega) (by omega) ?_)
       intro v5 w5 f _;clear m j;obtain⟨W,X,rfl,_,_⟩:=Row.form f 0 rfl;generalize r.heap.size=s at f ⊢;have R:=f.cell 1 rfl 0;have S:=f.cell 1 rfl 1;have T:=f.cell 1 rfl 2;simp only [List.getElem?_cons_zero,List.getElem?_cons_succ] at R S T;clear ce;go_wp2_with fail
       refine(Yy (b1,b,0) _).mono ?_;rintro _ w6 ⟨rfl,Y⟩;have Z:=Y.sep f;have a:PM.made (b1,b,0)=b1:=(show max b1 1=b1 by omega);rw [a];go_wp2;go_roundw
       case rel =>
        refine⟨q+b1,n3,W,X,D++[(b1,b,0)],by go_num,by rw [List.length_append]; rfl,by omega,by omega,by rw [List.length_append]; show D.length+1<=_; omega,?_,?_⟩
        ·rw [<- x.out,C.out,List.append_assoc];rfl
        ·rw [List.length_append,Zl,show stsV [(b1,b,0)]=stCells (b1,b,0)++[] from rfl,List.append_nil];exact Z.pick 3 [0,2]
       case measure=>simp [intOf]; omega
      ·have e1:decide (0<A)=true:=decide_eq_true (by omega);have e2:decide (b1<A)=false:=decide_eq_false a7;rw [e1];have h:(r.alloc (.cells #[.int .i64 A,.int .i64 I,.int .u8 0] 148)).heap.size=r.heap.size+1:=Array.size_push _;have i:Rd ((r.alloc (.cells #[.int .i64 A,.int .i64 I,.int .u8 0] 148)).alloc (.cells #[.int .i64 b1,.int .i64 b,.int .u8 0] 148)) (some ⟨r.heap.size+1,0,none⟩) (stCells (b1,b,0)):=by
        have:=Rd.of_blk (Blk.new (r.alloc (.cells #[.int .i64 A,.int .i64 I,.int .u8 0] 148)) 148 [.int .i64 b1,.int .i64 b,.int .u8 0])
        rwa [h] at this
       have j:=hid i;have F:=((U.alloc (.cells #[.int .i64 A,.int .i64 I,.int .u8 0] 148)).pick 3 [2,1,0]).alloc (.cells #[.int .i64 b1,.int .i64 b,.int .u8 0] 148);have m:=hid F;clear i F h;go_wp2_with (at_builtin; refine wpList_append_sp rfl _ _ 72 rfl 148 i0 (.agg #[.int .i64 0,.int .i64 0,.int .u8 0]) 3 24 Tryd.underlying72 hi J K M rfl (by decide) (.slice V D.length cV) D.length (stsV D) rfl m.out (some ⟨r.heap.size+1,0,none⟩) 1 1 (stCells (b1,b,0)) rfl rfl j.out (Yb _) (by unfold maxLen; omega) (by omega) ?_)
       intro v5 w5 f _;clear m j;obtain⟨W,X,rfl,_,_⟩:=Row.form f 0 rfl;generalize r.heap.size=s at f ⊢;have R:=f.cell 1 rfl 0;have S:=f.cell 1 rfl 1;have T:=f.cell 1 rfl 2;simp only [List.getElem?_cons_zero,List.getElem?_cons_succ] at R S T;clear ce;go_wp2_with fail
       refine(Yy (b1,b,0) _).mono ?_;rintro _ w6 ⟨rfl,Y⟩;have Z:=Y.sep f;have a:PM.made (b1,b,0)=b1:=(show max b1 1=b1 by omega);rw [a];go_wp2;go_roundw
       case rel =>
        refine⟨q+b1,n3,W,X,D++[(b1,b,0)],by go_num,by rw [List.length_append]; rfl,by omega,by omega,by rw [List.length_append]; show D.length+1<=_; omega,?_,?_⟩
        ·rw [<- x.out,C.out,List.append_assoc];rfl
        ·rw [List.length_append,Zl,show stsV [(b1,b,0)]=stCells (b1,b,0)++[] from rfl,List.append_nil];exact Z.pick 3 [0,2]
       case measure=>simp [intOf]; omega
    ·have k2:decide ((q:Int)+1<(l:Int))=false:=decide_eq_false (by omega);have u:PM.cutAt B d q=(b1,b,0)::PM.cutAt B d (q+b1):=by
      rw [PM.cutAt_copy B d q (by rw [<- N.out]; exact O) (by rw [G.out,PM.best_short B (q+1) d (by rw [<- N.out]; omega)]; show ¬ (b1=0∨b1<0); omega),G.out,b3.out]
     have C:=hid u;clear u;go_wp2_with fail
     refine t.out.mono ?_;rintro _ y ⟨n2,b4,rfl,H2⟩;unfold stV;have h:(y.alloc (.cells #[.int .i64 b1,.int .i64 b,.int .u8 0] 148)).heap.size=y.heap.size+1:=Array.size_push _;have i:Rd ((y.alloc (.cells #[.int .i64 b1,.int .i64 b,.int .u8 0] 148)).alloc (.cells #[.int .i64 b1,.int .i64 b,.int .u8 0] 148)) (some ⟨y.heap.size+1,0,none⟩) (stCells (b1,b,0)):=by
      have:=Rd.of_blk (Blk.new (y.alloc (.cells #[.int .i64 b1,.int .i64 b,.int .u8 0] 148)) 148 [.int .i64 b1,.int .i64 b,.int .u8 0])
      rwa [h] at this
     have j:=hid i;have F:=((H2.newBk [.int .i64 b1,.int .i64 b,.int .u8 0] 148).pick 3 [2,0,1]).alloc (.cells #[.int .i64 b1,.int .i64 b,.int .u8 0] 148);have m:=hid F;clear i F h;go_wp2_with (at_builtin; refine wpList_append_sp rfl _ _ 72 rfl 148 i0 (.agg #[.int .i64 0,.int .i64 0,.int .u8 0]) 3 24 Tryd.underlying72 hi J K M rfl (by decide) (.slice V D.length cV) D.length (stsV D) rfl m.out (some ⟨y.heap.size+1,0,none⟩) 1 1 (stCells (b1,b,0)) rfl rfl j.out (Yb _) (by unfold maxLen; omega) (by omega) ?_)
     intro v5 w5 f _;clear m j;obtain⟨W,X,rfl,_,_⟩:=Row.form f 0 rfl;generalize y.heap.size=s at f ⊢;have R:=f.cell 1 rfl 0;have S:=f.cell 1 rfl 1;have T:=f.cell 1 rfl 2;simp only [List.getElem?_cons_zero,List.getElem?_cons_succ] at R S T
     skip
     go_wp2_with fail
     refine(Yy (b1,b,0) _).mono ?_;rintro _ w6 ⟨rfl,Y⟩;have Z:=Y.sep f;have a:PM.made (b1,b,0)=b1:=(show max b1 1=b1 by omega);rw [a];go_wp2;go_roundw
     case rel =>
      refine⟨q+b1,n2,W,X,D++[(b1,b,0)],by go_num,by rw [List.length_append]; rfl,by omega,by omega,by rw [List.length_append]; show D.length+1<=_; omega,?_,?_⟩
      ·rw [<- x.out,C.out,List.append_assoc];rfl
      ·rw [List.length_append,Zl,show stsV [(b1,b,0)]=stCells (b1,b,0)++[] from rfl,List.append_nil];exact Z.pick 3 [0,2]
     case measure=>simp [intOf]; omega
  ·have k1:decide ((q:Int)<(l:Int))=false:=decide_eq_false (by omega);go_wp2_with fail
   go_ret;refine⟨_,rfl,?_⟩;have e:D=PM.Cut B d:=by
    rw [<- x.out,PM.cutAt_end B d q (by rw [<- N.out]; omega),List.append_nil]
   rw [<- e];exact H.pick 2 [0]
open Go.RowKit Go.MapKept
def cutL (B:List UInt8) (d:Int):List PM.St:=if 1<=d/\d<=32768 then PM.Cut B d.toNat else []
def cutE (d:Int):Int:=if 1<=d/\d<=32768 then 0 else 1
theorem UE (l:Nat) (d:Int) (A0:Option Addr) (c:Nat) (B:List UInt8) (H:Sp w0 L w) (hl:l=B.length) (hb:Ent L (fun w=>Byt w (.slice A0 l c) B)) (hlm:l<=1000000) :
  Calls Tryd.prog 25 #[.slice A0 l c,.int .i64 d] w fun e w'=>∃v,e=.returned (.tuple #[v,.int .i64 (cutE d)])/\Sp w0 (Row 148 3 v (cutL B d).length (stsV (cutL B d))::L) w':=by
 have f:=hid hl;have h:=hid hb;clear hl hb;unfold cutE cutL;by_cases a:d<1
 ·rw [if_neg (by omega),if_neg (by omega)];have i:decide (d<1)=true:=decide_eq_true a;go_enter Tryd.func25,Tryd.ntmps25
  go_wp2;go_ret2;exact⟨_,rfl,H.rowNil _ _⟩
 ·have i:decide (d<1)=false:=decide_eq_false a;by_cases b:32768<d
  ·rw [if_neg (by omega),if_neg (by omega)];have j:decide (32768<d)=true:=decide_eq_true b;go_enter Tryd.func25,Tryd.ntmps25
   go_wp2;go_ret2;exact⟨_,rfl,H.rowNil _ _⟩
  ·rw [if_pos (by omega),if_pos (by omega)];have j:decide (32768<d)=false:=decide_eq_false b;obtain⟨n,rfl⟩:=Int.eq_ofNat_of_zero_le (show 0<=d by omega);rw [show(n:Int).toNat=n from rfl];go_enter Tryd.func25,Tryd.ntmps25
   go_wp2_with fail
   refine(Vl A0 l c (n:Int) B H).mono ?_;rintro _ o ⟨g,rfl,k⟩;go_wp2_with fail
   refine(Vn g l n A0 c B k f.out h.out hlm).mono ?_;rintro _ p ⟨v,rfl,m⟩;go_wp2;go_ret2;exact⟨_,rfl,m⟩
end Go.Proofs.YteajimobgkempaaDoor

