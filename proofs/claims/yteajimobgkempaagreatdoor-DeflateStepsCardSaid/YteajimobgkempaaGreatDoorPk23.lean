/- A pack. -/
import Derived.Test.YteajimobgkempaaGreatDoorPk22
set_option linter.all false
set_option maxRecDepth 100000
set_option maxHeartbeats 8000000
namespace Go.Proofs.YteajimobgkempaaGreatDoor
variable {w0 w:World} {L:List Pr}
open Go.RowKit Go.MapKept
def stCells (s:PM.St):List Value:=[.int .i64 s.1,.int .i64 s.2.1,.int .u8 s.2.2.toNat]
def stsV (l:List PM.St):List Value:=l.flatMap stCells
theorem ZF (a b:List PM.St):stsV (a++b)=stsV a++stsV b:=by simp [stsV]
theorem XS (l:List PM.St):(stsV l).length=l.length * 3:=by
 induction l with
 | nil=>rfl
 | cons s l ih =>
  show(stCells s++stsV l).length=_;rw [List.length_append,ih,List.length_cons];show 3+_=_;omega
theorem infoSM:(Tryz.prog.info? 54).map (fun i=>(i.zero,i.size,i.bytes))=some (some (.agg #[.int .i64 0,.int .i64 0,.int .u8 0]),3,24):=by kernel_rfl
theorem XD (s:PM.St):∀u ∈ stCells s,u.oneCell'=true:=by
 intro u a;simp only [stCells,List.mem_cons,List.not_mem_nil,or_false] at a;rcases a with rfl | rfl | rfl <;> rfl
theorem Uf (g l d:Nat) (A0:Option Addr) (c:Nat) (B:List UInt8) (H:Sp w0 (Fd g (.slice A0 l c) B (d:Int) 0::L) w) (hl:l=B.length) (hb:Ent L (fun w=>Byt w (.slice A0 l c) B)) (hlm:l<=1000000) :
  Calls Tryz.prog 98 #[.slice A0 l c,.func (.func 100) #[.pointer (some ⟨g,0,none⟩)] #[]] w (Ret fun v w'=>Sp w0 (Row 54 3 v (PM.Cut B d).length (stsV (PM.Cut B d))::L) w'):=by
 obtain⟨i0,hi,J,K,M⟩:=info_parts infoSM;have N:=hid hl;have HB:=hid hb;clear hl hb;go_enter Tryz.func98,Tryz.ntmps98
 go_wp2
 go_loopw [5,6] (fun lv iv wr=>∃(q n:Nat) (V:Option Addr) (cV:Nat) (D:List PM.St),iv=.int .i64 q/\lv=.slice V D.length cV/\q<=l/\n<=q/\D.length<=q/\D++PM.cutAt B d q=PM.Cut B d /\
   Sp w0 (Row 54 3 (.slice V D.length cV) D.length (stsV D)::Fd g (.slice A0 l c) B (d:Int) n::L) wr) (fun _ iv _=>l - (intOf iv).toNat)
 case atStart=>exact⟨0,0,none,0,[],rfl,rfl,Nat.zero_le _,Nat.le_refl _,Nat.le_refl _,(PM.Cut_at B d).symm,H.rowNil _ _⟩
 case round =>
  obtain⟨q,n,V,cV,D,rfl,rfl,hq,hn,b9,a1,H⟩:=hrel;have x:=hid a1;clear a1;by_cases O:q<l
  ·have k1:decide ((q:Int)<(l:Int))=true:=decide_eq_true (by omega);obtain⟨ad,rfl⟩:∃ad,A0=some ad:=by
    obtain⟨_,_,e,hr,_,_⟩:=HB.out _ _ (H.pick 2 []);obtain⟨ad,e2,_⟩:=hr.at8 (k:=q) (by rw [<- N.out]; omega);injection e with e
    exact⟨ad,e.trans e2⟩
   obtain⟨bx,a3⟩:∃bx:UInt8,B.getD q 0=bx:=⟨_,rfl⟩;have P:Ent L (fun w=>w.cell? (ad.add q)=some (.int .u8 bx.toNat)):=HB.out.mono fun w' hw=>by
    obtain⟨_,_,e,hr,_,_⟩:=hw;have a8:q<B.length:=by rw [<- N.out]; exact O
    obtain⟨c0,e2,hc⟩:=hr.at8 a8;injection e with e
    rw [<- e] at e2;injection e2 with e2
    rw [e2,hc,<- a3,List.getD_eq_getElem?_getD,List.getElem?_eq_getElem a8];rfl
   have a9:=hid P;have b0:=hid a3;clear P a3;obtain⟨b1,Q⟩:=exq ((PM.best B q d).1);obtain⟨b,a4⟩:=exq ((PM.best B q d).2);have c3:b1<=l - q:=by
    rcases PM.best_is B q d with h0 | ⟨far,h1,h2,h3,h4,h5,h6⟩
    ·rw [<- Q,h0]; exact Nat.zero_le _
    ·have:=PM.mlen_in (B:=B) (p:=q - far) (q:=q) (by omega);rw [<- Q,h5,N.out];show PM.mlen B (q - far) q<=_;omega
   have G:=hid Q;have b3:=hid a4;have E:=Vl g q n l d (some ad) c B H.swap N.out (Ent.cons _ HB.out) (by omega) (by omega) hn;rw [Q,a4] at E;have t:=hid E;clear Q a4 E;by_cases h0:b1=0
   ·have e0:decide (0<b1)=false:=decide_eq_false (by omega);rw [e0] at t;go_wp2_with fail
    refine t.out.mono ?_;rintro _ y ⟨n2,b4,rfl,H2⟩;unfold stV;have ce:∀o,(y.alloc o).cell? (ad.add q)=some (.int .u8 bx.toNat):=fun o=>a9.out _ _ ((H2.alloc o).pick 2 []);have h:(y.alloc (.cells #[.int .i64 0,.int .i64 0,.int .u8 bx.toNat] 54)).heap.size=y.heap.size+1:=Array.size_push _;have i:Rd ((y.alloc (.cells #[.int .i64 0,.int .i64 0,.int .u8 bx.toNat] 54)).alloc (.cells #[.int .i64 0,.int .i64 0,.int .u8 bx.toNat] 54)) (some ⟨y.heap.size+1,0,none⟩) (stCells (0,0,bx)):=by
     have:=Rd.of_blk (Blk.new (y.alloc (.cells #[.int .i64 0,.int .i64 0,.int .u8 bx.toNat] 54)) 54 [.int .i64 0,.int .i64 0,.int .u8 bx.toNat])
     rwa [h] at this
    have j:=hid i;have F:=((H2.newBk [.int .i64 0,.int .i64 0,.int .u8 bx.toNat] 54).pick 3 [2,0,1]).alloc (.cells #[.int .i64 0,.int .i64 0,.int .u8 bx.toNat] 54);have m:=hid F;clear i F h;go_wp2_with (at_builtin; refine wpList_append_sp rfl _ _ 22 rfl 54 i0 (.agg #[.int .i64 0,.int .i64 0,.int .u8 0]) 3 24 Tryz.underlying22 hi J K M rfl (by decide) (.slice V D.length cV) D.length (stsV D) rfl m.out (some ⟨y.heap.size+1,0,none⟩) 1 1 (stCells (0,0,bx)) rfl rfl j.out (XD _) (by unfold maxLen; omega) (by omega) ?_)
    intro v5 w5 f _;clear m j;obtain⟨W,X,rfl,_,_⟩:=Row.form f 0 rfl;generalize y.heap.size=s at f ⊢;have R:=f.cell 1 rfl 0;have S:=f.cell 1 rfl 1;have T:=f.cell 1 rfl 2;simp only [List.getElem?_cons_zero,List.getElem?_cons_succ] at R S T;clear ce;go_wp2_with fail
    refine(Yz (0,0,bx) _).mono ?_;rintro _ w6 ⟨rfl,Y⟩;have Z:=Y.sep f;have a:PM.made (0,0,bx)=1:=rfl;rw [a];go_wp2;go_roundw
    case rel =>
     refine⟨q+1,n2,W,X,D++[(0,0,bx)],by go_num,by rw [List.length_append]; rfl,by omega,by omega,by rw [List.length_append]; show D.length+1<=_; omega,?_,?_⟩
     ·rw [<- x.out,PM.cutAt_lit B d q (by rw [<- N.out]; exact O) (.inl (by rw [G.out]; exact h0)),b0.out,List.append_assoc];rfl
     ·rw [List.length_append,ZF,show stsV [(0,0,bx)]=stCells (0,0,bx)++[] from rfl,List.append_nil];exact Z.pick 3 [0,2]
    case measure=>simp [intOf]; omega
   ·have e0:decide (0<b1)=true:=decide_eq_true (by omega);rw [e0] at t;by_cases c4:q+1<l
    ·have k2:decide ((q:Int)+1<(l:Int))=true:=decide_eq_true (by omega);go_wp2_with fail
     refine t.out.mono ?_;rintro _ y ⟨n2,b4,rfl,H2⟩;unfold stV;go_wp2_with fail
     have a0:=(H2.newBk [.int .i64 b1,.int .i64 b,.int .u8 0] 54).swap;generalize y.heap.size=s at a0 ⊢;generalize y.alloc _=w3 at a0 ⊢;clear H2 y;have z:=Vl g (q+1) n2 l d (some ad) c B a0 N.out (Ent.pick 2 [] HB.out) (by omega) (by omega) (by omega);obtain⟨A,a5⟩:=exq ((PM.best B (q+1) d).1);obtain⟨I,a6⟩:=exq ((PM.best B (q+1) d).2);have b5:((q+1:Nat):Int)=(q:Int)+1:=by omega
     rw [b5,a5,a6] at z;have b6:=hid a5;have c6:=hid a6;clear b5 a5 a6 a0;refine z.mono ?_;rintro _ r ⟨n3,c7,rfl,U⟩;unfold stV;have R:∀o,(r.alloc o).cell? ⟨s,0,none⟩=some (.int .i64 b1):=fun o=>(U.alloc o).cell 1 rfl 0;have S:∀o,(r.alloc o).cell? ⟨s,1,none⟩=some (.int .i64 b):=fun o=>(U.alloc o).cell 1 rfl 1;have T:∀o,(r.alloc o).cell? ⟨s,2,none⟩=some (.int .u8 0):=fun o=>(U.alloc o).cell 1 rfl 2;have z0:∀o,(r.alloc o).frozen? ⟨s,0,none⟩=false:=fun o=>(U.alloc o).frozen 1 rfl 0;have z1:∀o,(r.alloc o).frozen? ⟨s,1,none⟩=false:=fun o=>(U.alloc o).frozen 1 rfl 1;have z2:∀o,(r.alloc o).frozen? ⟨s,2,none⟩=false:=fun o=>(U.alloc o).frozen 1 rfl 2;have ce:∀o,(r.alloc o).cell? (ad.add q)=some (.int .u8 bx.toNat):=fun o=>a9.out _ _ ((U.alloc o).pick 3 []);clear z;by_cases a7:b1<A
     ·have e1:decide (0<A)=true:=decide_eq_true (by omega);have e2:decide (b1<A)=true:=decide_eq_true a7;rw [e1];have a2:PM.cutAt B d q=(0,0,bx)::PM.cutAt B d (q+1):=by
       rw [PM.cutAt_lit B d q (by rw [<- N.out]; exact O) (.inr (by rw [G.out,b6.out]; exact a7)),b0.out]
      have b7:=hid a2;clear a2;have h:((((r.alloc (.cells #[.int .i64 A,.int .i64 I,.int .u8 0] 54)).setCell ⟨s,0,none⟩ (.int .i64 0)).setCell ⟨s,1,none⟩ (.int .i64 0)).setCell ⟨s,2,none⟩ (.int .u8 bx.toNat)).heap.size=r.heap.size+1:=by simp [World.setCell]
      have i:Rd (((((r.alloc (.cells #[.int .i64 A,.int .i64 I,.int .u8 0] 54)).setCell ⟨s,0,none⟩ (.int .i64 0)).setCell ⟨s,1,none⟩ (.int .i64 0)).setCell ⟨s,2,none⟩ (.int .u8 bx.toNat)).alloc (.cells #[.int .i64 0,.int .i64 0,.int .u8 bx.toNat] 54)) (some ⟨r.heap.size+1,0,none⟩) (stCells (0,0,bx)):=by
       have:=Rd.of_blk (Blk.new ((((r.alloc (.cells #[.int .i64 A,.int .i64 I,.int .u8 0] 54)).setCell ⟨s,0,none⟩ (.int .i64 0)).setCell ⟨s,1,none⟩ (.int .i64 0)).setCell ⟨s,2,none⟩ (.int .u8 bx.toNat)) 54 [.int .i64 0,.int .i64 0,.int .u8 bx.toNat])
       rwa [h] at this
      have j:=hid i;have F:=((((((U.alloc (.cells #[.int .i64 A,.int .i64 I,.int .u8 0] 54)).pick 3 [1,0,2]).set 0 (.int .i64 0)).set 1 (.int .i64 0)).set 2 (.int .u8 bx.toNat)).pick 3 [2,0,1]).alloc (.cells #[.int .i64 0,.int .i64 0,.int .u8 bx.toNat] 54);have m:=hid F;clear i F h;go_wp2_with (at_builtin; refine wpList_append_sp rfl _ _ 22 rfl 54 i0 (.agg #[.int .i64 0,.int .i64 0,.int .u8 0]) 3 24 Tryz.underlying22 hi J K M rfl (by decide) (.slice V D.length cV) D.length (stsV D) rfl m.out (some ⟨r.heap.size+1,0,none⟩) 1 1 (stCells (0,0,bx)) rfl rfl j.out (XD _) (by unfold maxLen; omega) (by omega) ?_)
      intro v5 w5 f _;clear m j;obtain⟨W,X,rfl,_,_⟩:=Row.form f 0 rfl;generalize r.heap.size=s at f ⊢;have R:=f.cell 1 rfl 0;have S:=f.cell 1 rfl 1;have T:=f.cell 1 rfl 2;simp only [List.getElem?_cons_zero,List.getElem?_cons_succ] at R S T;clear ce;go_wp2_with fail
      refine(Yz (0,0,bx) _).mono ?_;rintro _ w6 ⟨rfl,Y⟩;have Z:=Y.sep f;have a:PM.made (0,0,bx)=1:=rfl;rw [a];go_wp2;go_roundw
      case rel =>
       refine⟨q+1,n3,W,X,D++[(0,0,bx)],by go_num,by rw [List.length_append]; rfl,by omega,by omega,by rw [List.length_append]; show D.length+1<=_; omega,?_,?_⟩
       ·rw [<- x.out,b7.out,List.append_assoc];rfl
       ·rw [List.length_append,ZF,show stsV [(0,0,bx)]=stCells (0,0,bx)++[] from rfl,List.append_nil];exact Z.pick 3 [0,2]
      case measure=>simp [intOf]; omega
     ·have u:PM.cutAt B d q=(b1,b,0)::PM.cutAt B d (q+b1):=by
       rw [PM.cutAt_copy B d q (by rw [<- N.out]; exact O) (by rw [G.out,b6.out]; omega),G.out,b3.out]
      have C:=hid u;clear u;by_cases b8:A=0
      ·have e1:decide (0<A)=false:=decide_eq_false (by omega);rw [e1];clear b8;have h:(r.alloc (.cells #[.int .i64 A,.int .i64 I,.int .u8 0] 54)).heap.size=r.heap.size+1:=Array.size_push _;have i:Rd ((r.alloc (.cells #[.int .i64 A,.int .i64 I,.int .u8 0] 54)).alloc (.cells #[.int .i64 b1,.int .i64 b,.int .u8 0] 54)) (some ⟨r.heap.size+1,0,none⟩) (stCells (b1,b,0)):=by
        have:=Rd.of_blk (Blk.new (r.alloc (.cells #[.int .i64 A,.int .i64 I,.int .u8 0] 54)) 54 [.int .i64 b1,.int .i64 b,.int .u8 0])
        rwa [h] at this
       have j:=hid i;have F:=((U.alloc (.cells #[.int .i64 A,.int .i64 I,.int .u8 0] 54)).pick 3 [2,1,0]).alloc (.cells #[.int .i64 b1,.int .i64 b,.int .u8 0] 54);have m:=hid F;clear i F h;go_wp2_with (at_builtin; refine wpList_append_sp rfl _ _ 22 rfl 54 i0 (.agg #[.int .i64 0,.int .i64 0,.int .u8 0]) 3 24 Tryz.underlying22 hi J K M rfl (by decide) (.slice V D.length cV) D.length (stsV D) rfl m.out (some ⟨r.heap.size+1,0,none⟩) 1 1 (stCells (b1,b,0)) rfl rfl j.out (XD _) (by unfold maxLen; omega) (by omega) ?_)
       intro v5 w5 f _;clear m j;obtain⟨W,X,rfl,_,_⟩:=Row.form f 0 rfl;generalize r.heap.size=s at f ⊢;have R:=f.cell 1 rfl 0;have S:=f.cell 1 rfl 1;have T:=f.cell 1 rfl 2;simp only [List.getElem?_cons_zero,List.getElem?_cons_succ] at R S T;clear ce;go_wp2_with fail
       refine(Yz (b1,b,0) _).mono ?_;rintro _ w6 ⟨rfl,Y⟩;have Z:=Y.sep f;have a:PM.made (b1,b,0)=b1:=(show max b1 1=b1 by omega);rw [a];go_wp2;go_roundw
       case rel =>
        refine⟨q+b1,n3,W,X,D++[(b1,b,0)],by go_num,by rw [List.length_append]; rfl,by omega,by omega,by rw [List.length_append]; show D.length+1<=_; omega,?_,?_⟩
        ·rw [<- x.out,C.out,List.append_assoc];rfl
        ·rw [List.length_append,ZF,show stsV [(b1,b,0)]=stCells (b1,b,0)++[] from rfl,List.append_nil];exact Z.pick 3 [0,2]
       case measure=>simp [intOf]; omega
      ·have e1:decide (0<A)=true:=decide_eq_true (by omega);have e2:decide (b1<A)=false:=decide_eq_false a7;rw [e1];have h:(r.alloc (.cells #[.int .i64 A,.int .i64 I,.int .u8 0] 54)).heap.size=r.heap.size+1:=Array.size_push _;have i:Rd ((r.alloc (.cells #[.int .i64 A,.int .i64 I,.int .u8 0] 54)).alloc (.cells #[.int .i64 b1,.int .i64 b,.int .u8 0] 54)) (some ⟨r.heap.size+1,0,none⟩) (stCells (b1,b,0)):=by
        have:=Rd.of_blk (Blk.new (r.alloc (.cells #[.int .i64 A,.int .i64 I,.int .u8 0] 54)) 54 [.int .i64 b1,.int .i64 b,.int .u8 0])
        rwa [h] at this
       have j:=hid i;have F:=((U.alloc (.cells #[.int .i64 A,.int .i64 I,.int .u8 0] 54)).pick 3 [2,1,0]).alloc (.cells #[.int .i64 b1,.int .i64 b,.int .u8 0] 54);have m:=hid F;clear i F h;go_wp2_with (at_builtin; refine wpList_append_sp rfl _ _ 22 rfl 54 i0 (.agg #[.int .i64 0,.int .i64 0,.int .u8 0]) 3 24 Tryz.underlying22 hi J K M rfl (by decide) (.slice V D.length cV) D.length (stsV D) rfl m.out (some ⟨r.heap.size+1,0,none⟩) 1 1 (stCells (b1,b,0)) rfl rfl j.out (XD _) (by unfold maxLen; omega) (by omega) ?_)
       intro v5 w5 f _;clear m j;obtain⟨W,X,rfl,_,_⟩:=Row.form f 0 rfl;generalize r.heap.size=s at f ⊢;have R:=f.cell 1 rfl 0;have S:=f.cell 1 rfl 1;have T:=f.cell 1 rfl 2;simp only [List.getElem?_cons_zero,List.getElem?_cons_succ] at R S T;clear ce;go_wp2_with fail
       refine(Yz (b1,b,0) _).mono ?_;rintro _ w6 ⟨rfl,Y⟩;have Z:=Y.sep f;have a:PM.made (b1,b,0)=b1:=(show max b1 1=b1 by omega);rw [a];go_wp2;go_roundw
       case rel =>
        refine⟨q+b1,n3,W,X,D++[(b1,b,0)],by go_num,by rw [List.length_append]; rfl,by omega,by omega,by rw [List.length_append]; show D.length+1<=_; omega,?_,?_⟩
        ·rw [<- x.out,C.out,List.append_assoc];rfl
        ·rw [List.length_append,ZF,show stsV [(b1,b,0)]=stCells (b1,b,0)++[] from rfl,List.append_nil];exact Z.pick 3 [0,2]
       case measure=>simp [intOf]; omega
    ·have k2:decide ((q:Int)+1<(l:Int))=false:=decide_eq_false (by omega);have u:PM.cutAt B d q=(b1,b,0)::PM.cutAt B d (q+b1):=by
      rw [PM.cutAt_copy B d q (by rw [<- N.out]; exact O) (by rw [G.out,PM.best_short B (q+1) d (by rw [<- N.out]; omega)]; show ¬ (b1=0∨b1<0); omega),G.out,b3.out]
     have C:=hid u;clear u;go_wp2_with fail
     refine t.out.mono ?_;rintro _ y ⟨n2,b4,rfl,H2⟩;unfold stV;have h:(y.alloc (.cells #[.int .i64 b1,.int .i64 b,.int .u8 0] 54)).heap.size=y.heap.size+1:=Array.size_push _;have i:Rd ((y.alloc (.cells #[.int .i64 b1,.int .i64 b,.int .u8 0] 54)).alloc (.cells #[.int .i64 b1,.int .i64 b,.int .u8 0] 54)) (some ⟨y.heap.size+1,0,none⟩) (stCells (b1,b,0)):=by
      have:=Rd.of_blk (Blk.new (y.alloc (.cells #[.int .i64 b1,.int .i64 b,.int .u8 0] 54)) 54 [.int .i64 b1,.int .i64 b,.int .u8 0])
      rwa [h] at this
     have j:=hid i;have F:=((H2.newBk [.int .i64 b1,.int .i64 b,.int .u8 0] 54).pick 3 [2,0,1]).alloc (.cells #[.int .i64 b1,.int .i64 b,.int .u8 0] 54);have m:=hid F;clear i F h;go_wp2_with (at_builtin; refine wpList_append_sp rfl _ _ 22 rfl 54 i0 (.agg #[.int .i64 0,.int .i64 0,.int .u8 0]) 3 24 Tryz.underlying22 hi J K M rfl (by decide) (.slice V D.length cV) D.length (stsV D) rfl m.out (some ⟨y.heap.size+1,0,none⟩) 1 1 (stCells (b1,b,0)) rfl rfl j.out (XD _) (by unfold maxLen; omega) (by omega) ?_)
     intro v5 w5 f _;clear m j;obtain⟨W,X,rfl,_,_⟩:=Row.form f 0 rfl;generalize y.heap.size=s at f ⊢;have R:=f.cell 1 rfl 0;have S:=f.cell 1 rfl 1;have T:=f.cell 1 rfl 2;simp only [List.getElem?_cons_zero,List.getElem?_cons_succ] at R S T
     skip
     go_wp2_with fail
     refine(Yz (b1,b,0) _).mono ?_;rintro _ w6 ⟨rfl,Y⟩;have Z:=Y.sep f;have a:PM.made (b1,b,0)=b1:=(show max b1 1=b1 by omega);rw [a];go_wp2;go_roundw
     case rel =>
      refine⟨q+b1,n2,W,X,D++[(b1,b,0)],by go_num,by rw [List.length_append]; rfl,by omega,by omega,by rw [List.length_append]; show D.length+1<=_; omega,?_,?_⟩
      ·rw [<- x.out,C.out,List.append_assoc];rfl
      ·rw [List.length_append,ZF,show stsV [(b1,b,0)]=stCells (b1,b,0)++[] from rfl,List.append_nil];exact Z.pick 3 [0,2]
     case measure=>simp [intOf]; omega
  ·have k1:decide ((q:Int)<(l:Int))=false:=decide_eq_false (by omega);go_wp2_with fail
   go_ret;refine⟨_,rfl,?_⟩;have e:D=PM.Cut B d:=by
    rw [<- x.out,PM.cutAt_end B d q (by rw [<- N.out]; omega),List.append_nil]
   rw [<- e];exact H.pick 2 [0]
open Go.RowKit Go.MapKept
def cutL (B:List UInt8) (d:Int):List PM.St:=if 1<=d/\d<=32768 then PM.Cut B d.toNat else []
def cutE (d:Int):Int:=if 1<=d/\d<=32768 then 0 else 1
theorem Tj (l:Nat) (d:Int) (A0:Option Addr) (c:Nat) (B:List UInt8) (H:Sp w0 L w) (hl:l=B.length) (hb:Ent L (fun w=>Byt w (.slice A0 l c) B)) (hlm:l<=1000000) :
  Calls Tryz.prog 66 #[.slice A0 l c,.int .i64 d] w fun e w'=>∃v,e=.returned (.tuple #[v,.int .i64 (cutE d)])/\Sp w0 (Row 54 3 v (cutL B d).length (stsV (cutL B d))::L) w':=by
 have f:=hid hl;have h:=hid hb;clear hl hb;unfold cutE cutL;by_cases a:d<1
 ·rw [if_neg (by omega),if_neg (by omega)];have i:decide (d<1)=true:=decide_eq_true a;go_enter Tryz.func66,Tryz.ntmps66
  go_wp2;go_ret2;exact⟨_,rfl,H.rowNil _ _⟩
 ·have i:decide (d<1)=false:=decide_eq_false a;by_cases b:32768<d
  ·rw [if_neg (by omega),if_neg (by omega)];have j:decide (32768<d)=true:=decide_eq_true b;go_enter Tryz.func66,Tryz.ntmps66
   go_wp2;go_ret2;exact⟨_,rfl,H.rowNil _ _⟩
  ·rw [if_pos (by omega),if_pos (by omega)];have j:decide (32768<d)=false:=decide_eq_false b;obtain⟨n,rfl⟩:=Int.eq_ofNat_of_zero_le (show 0<=d by omega);rw [show(n:Int).toNat=n from rfl];go_enter Tryz.func66,Tryz.ntmps66
   go_wp2_with fail
   refine(Ue A0 l c (n:Int) B H).mono ?_;rintro _ o ⟨g,rfl,k⟩;go_wp2_with fail
   refine(Uf g l n A0 c B k f.out h.out hlm).mono ?_;rintro _ p ⟨v,rfl,m⟩;go_wp2;go_ret2;exact⟨_,rfl,m⟩
open Go.RowKit Go.MapKept
namespace PM
theorem go_far (B:List UInt8) (q:Nat) (ps:List Nat) (d:Nat) (b:Nat × Nat) (h:∀p ∈ ps,32768<q - p):go B q ps d b=b:=by
 cases ps with
 | nil=>rfl
 | cons p ps =>
  rw [go];split
  ·rfl
  ·rw [if_pos (h p (List.mem_cons_self ..))]
def SInv (B:List UInt8) (q d j t:Nat) (b:Nat × Nat):Prop:=1<=j/\j<=q+1/\t<=j/\b.1<=258/\go B q (places B (q+1 - j) (at3 B q)).reverse (d - t) b=best B q d
theorem SInv.start {B:List UInt8} {q d:Nat} (hq:q+3<=B.length):SInv B q d 1 0 (0,0):=by
 refine⟨Nat.le_refl _,by omega,by omega,Nat.zero_le _,?_⟩;unfold best;rw [if_pos hq];rfl
theorem SInv.skip {B:List UInt8} {q d j t:Nat} {b:Nat × Nat} (h:SInv B q d j t b) (hq:q+3<=B.length) (hj:j<=q) (hm:mlen B (q - j) q<3):SInv B q d (j+1) t b:=by
 obtain⟨f,g,i,a,c⟩:=h;refine⟨by omega,by omega,by omega,a,?_⟩;rw [<- c];have e:q+1 - j=(q - j)+1:=by omega
 rw [e,places_succ,if_neg (fun he=>by have:=(mlen_three hq).2 he; omega),show q+1 - (j+1)=q - j by omega]
theorem SInv.take {B:List UInt8} {q d j t m:Nat} {b:Nat × Nat} (h:SInv B q d j t b) (hq:q+3<=B.length) (hj:j<=q) (hf:j<=32768) (ht:t<d) (hm:mlen B (q - j) q=m) (h3:¬ m<3) :
  SInv B q d (j+1) (t+1) (if b.1<m then (m,j) else b):=by
 obtain⟨i,k,a,c,f⟩:=h;have g:=mlen_le B (q - j) q;refine⟨by omega,by omega,by omega,by split <;> first | exact c | (show m<=258; omega),?_⟩
 rw [<- f];have e:q+1 - j=(q - j)+1:=by omega
 rw [e,places_succ,if_pos ((mlen_three hq).1 (by omega)),show q+1 - (j+1)=q - j by omega,List.reverse_append,List.reverse_singleton,List.singleton_append,go,if_neg (show ¬ (d - t=0) by omega),show q - (q - j)=j by omega,if_neg (show ¬ (32768<j) by omega),hm,Nat.sub_sub]
theorem SInv.done {B:List UInt8} {q d j t:Nat} {b:Nat × Nat} (h:SInv B q d j t b) (he:32768<j∨q<j∨d<=t):b=best B q d:=by
 obtain⟨e,f,g,i,a⟩:=h;rw [<- a];rcases he with he | he | he
 ·rw [go_far];intro p c;rw [List.mem_reverse,places_mem] at c;omega
 ·rw [show q+1 - j=0 by omega]; rfl
 ·rw [show d - t=0 by omega,go_zero]
end PM
open Go.RowKit Go.MapKept
theorem infoRS:(Tryz.prog.info? 57).map (fun i=>(i.zero,i.size,i.bytes))=some (some (.agg #[.int .i64 0,.int .i64 0,.int .u8 0]),3,24):=by kernel_rfl
open Go.RowKit Go.MapKept
theorem UX (X:List PM.St) (i:Nat) (h:i<X.length):(stsV X)[i * 3]?=some (.int .i64 (X[i].1:Int))/\(stsV X)[i * 3+1]?=some (.int .i64 (X[i].2.1:Int))/\(stsV X)[i * 3+2]?=some (.int .u8 (X[i].2.2.toNat:Int)):=by
 induction X generalizing i with
 | nil=>exact absurd h (Nat.not_lt_zero _)
 | cons x X ih =>
  have e:stsV (x::X)=stCells x++stsV X:=rfl;rw [e];cases i with
  | zero=>exact⟨rfl,rfl,rfl⟩
  | succ i =>
   have a:(stCells x).length=3:=rfl;have:=ih i (by simpa using h);rw [List.getElem?_append_right (by rw [a]; omega),List.getElem?_append_right (by rw [a]; omega),List.getElem?_append_right (by rw [a]; omega),a,show(i+1) * 3 - 3=i * 3 by omega,show(i+1) * 3+1 - 3=i * 3+1 by omega,show(i+1) * 3+2 - 3=i * 3+2 by omega];simpa using this
def StAt (w:World) (V:Option Addr) (X:List PM.St):Prop:=∀(i:Nat) (h:i<X.length),∃ad,V=some ad/\w.cell? (ad.add (i * 3))=some (.int .i64 (X[i].1:Int)) /\
 w.cell? ⟨(ad.add (i * 3)).block,(ad.add (i * 3)).off+1,none⟩=some (.int .i64 (X[i].2.1:Int))/\w.cell? ⟨(ad.add (i * 3)).block,(ad.add (i * 3)).off+2,none⟩=some (.int .u8 (X[i].2.2.toNat:Int))
theorem StAt.of_rd {w:World} {V:Option Addr} {X:List PM.St} (h:Rd w V (stsV X)):StAt w V X:=fun i hi=>by
 obtain⟨a,e,b⟩:=h (by
  have:=XS X;intro c;rw [c] at this;simp only [List.length_nil] at this;omega)
 obtain⟨d,f,g⟩:=UX X i hi;refine⟨a,e,b _ _ d,?_,?_⟩
 ·rw [Zl a (i * 3) 1 (by omega)]; exact b _ _ f
 ·rw [Zl a (i * 3) 2 (by omega)]; exact b _ _ g
theorem Sp.stAt (H:Sp w0 L w) (k:Nat) {e:TypeId} {n c:Nat} {V:Option Addr} {X:List PM.St} (hk:L[k]?=some (Row e 3 (.slice V n c) n (stsV X))):StAt w V X:=by
 obtain⟨A,b,e,a,_⟩:=H.row_rd k hk;injection e with e
 subst e;exact .of_rd a
open Go.RowKit Go.MapKept
abbrev StI:=Int × Int × UInt8
def toI (s:PM.St):StI:=((s.1:Int),(s.2.1:Int),s.2.2)
def fitsI (s:StI) (n:Int):Bool:=if s.1=0 then decide (s.2.1=0) else decide (3<=s.1/\s.1<=258/\1<=s.2.1/\s.2.1<=32768/\s.2.1<=n/\s.2.2.toNat=0)
def madeI (s:StI):Int:=max s.1 1
def mayI:List StI->Int->Bool
 | [],_=>true
 | s::l,n=>fitsI s n && mayI l (n+madeI s)
def sizeI:List StI->Int
 | []=>0
 | s::l=>madeI s+sizeI l
theorem YV {s:StI} {n:Int} (h:fitsI s n=true):1<=madeI s/\madeI s<=258:=by
 unfold fitsI at h;unfold madeI;split at h
 ·omega
 ·have:=of_decide_eq_true h; omega
theorem Ug (X:List PM.St) (n:Nat) (h:PM.mays X n):mayI (X.map toI) (n:Int)=true:=by
 induction X generalizing n with
 | nil=>rfl
 | cons s X ih =>
  obtain⟨d,f⟩:=h;obtain⟨a,b,c⟩:=s;show(fitsI (toI (a,b,c)) (n:Int) && mayI (X.map toI) ((n:Int)+madeI (toI (a,b,c))))=true;have e:(n:Int)+madeI (toI (a,b,c))=((n+PM.made (a,b,c):Nat):Int):=by
   show(n:Int)+max (a:Int) 1=((n+max a 1:Nat):Int);omega
  rw [e,ih _ f,Bool.and_true];unfold fitsI;show(if (a:Int)=0 then decide ((b:Int)=0) else _)=true;rcases d with ⟨h3,h4⟩ | ⟨h3,h4,h5,h6,h7,h8⟩
  ·replace h3:a=0:=h3;replace h4:b=0:=h4;subst h3 h4;rfl
  ·replace h3:3<=a:=h3;replace h4:a<=258:=h4;replace h5:1<=b:=h5;replace h6:b<=32768:=h6;replace h7:b<=n:=h7;replace h8:c=0:=h8;subst h8;rw [if_neg (by omega)];exact decide_eq_true ⟨by show(3:Int)<=(a:Int); omega,by show(a:Int)<=258; omega,by show(1:Int)<=(b:Int); omega,by show(b:Int)<=32768; omega,by show(b:Int)<=(n:Int); omega,rfl⟩
theorem XE (X:List PM.St):sizeI (X.map toI)=(PM.size X:Int):=by
 induction X with
 | nil=>rfl
 | cons s X ih =>
  show madeI (toI s)+sizeI (X.map toI)=((PM.made s+PM.size X:Nat):Int);rw [ih];show max (s.1:Int) 1+(PM.size X:Int)=((max s.1 1+PM.size X:Nat):Int);omega
def Yo (w:World) (V:Option Addr) (X:List StI):Prop:=∀(i:Nat) (h:i<X.length),∃ad,V=some ad/\w.cell? (ad.add (i * 3))=some (.int .i64 X[i].1) /\
 w.cell? ⟨(ad.add (i * 3)).block,(ad.add (i * 3)).off+1,none⟩=some (.int .i64 X[i].2.1)/\w.cell? ⟨(ad.add (i * 3)).block,(ad.add (i * 3)).off+2,none⟩=some (.int .u8 (X[i].2.2.toNat:Int))
theorem StAt.toI {w:World} {V:Option Addr} {X:List PM.St} (h:StAt w V X):Yo w V (X.map toI):=fun i hi=>by
 rw [List.length_map] at hi;obtain⟨a,e,b,c,d⟩:=h i hi;refine⟨a,e,?_,?_,?_⟩
 ·rw [b,List.getElem_map]; rfl
 ·rw [c,List.getElem_map]; rfl
 ·rw [d,List.getElem_map]; rfl
theorem UY (x y n:Int) (z:UInt8) (w:World) :
  Calls Tryz.prog 113 #[.agg #[.int .i64 x,.int .i64 y,.int .u8 z.toNat],.int .i64 n] w fun e w'=>e=.returned (.bool (fitsI (x,y,z) n))/\Keep w w':=by
 obtain⟨r,d⟩:=exq (fitsI (x,y,z) n);have a:fitsI (x,y,z) n=if x=0 then decide (y=0) else decide (3<=x/\x<=258/\1<=y/\y<=32768/\y<=n/\z.toNat=0):=rfl;rw [a] at d;rw [a,d];have b:=hid d;clear d a;obtain⟨i,c⟩:=exq z.toNat;rw [c] at b ⊢;clear c;by_cases g:x=0
 ·have e:=b.out;rw [if_pos g] at e;have f:=hid e;clear e b;go_enter Tryz.func113,Tryz.ntmps113
  go_wp2
  all_goals (
   go_ret;refine⟨ZB ?_,Keep.alloc _ _⟩;rw [<- f.out,Bool.eq_iff_iff];simp only [beq_iff_eq,decide_eq_true_eq] <;> first | omega | (constructor <;> intro h <;> first | exact h.elim | omega))
 ·have e:=b.out;rw [if_neg g] at e;have f:=hid e;clear e b;go_enter Tryz.func113,Tryz.ntmps113
  go_wp2
  all_goals (
   go_ret;refine⟨ZB ?_,Keep.alloc _ _⟩;rw [<- f.out,Bool.eq_iff_iff];simp only [beq_iff_eq,decide_eq_true_eq,Bool.false_eq_true] <;> first | omega | (constructor <;> intro h <;> first | exact h.elim | omega))
theorem Wj (x y:Int) (z:Int) (w:World) :
  Calls Tryz.prog 77 #[.agg #[.int .i64 x,.int .i64 y,.int .u8 z]] w fun e w'=>e=.returned (.int .i64 (max x 1))/\Keep w w':=by
 obtain⟨m,a⟩:∃m:Int,max x 1=m:=⟨_,rfl⟩;rw [a];go_enter Tryz.func77,Tryz.ntmps77
 go_wp2;all_goals (go_ret; exact⟨ZR (by omega),Keep.alloc _ _⟩)
open Go.RowKit Go.MapKept
theorem XF {X:List StI} {i:Nat} {a:Int} (h:i<X.length):mayI (X.drop i) a=(fitsI X[i] a && mayI (X.drop (i+1)) (a+madeI X[i])):=by
 rw [List.drop_eq_getElem_cons h]; rfl
theorem WC {X:List StI} {i:Nat} (h:i<X.length):sizeI (X.drop i)=madeI X[i]+sizeI (X.drop (i+1)):=by
 rw [List.drop_eq_getElem_cons h]; rfl
theorem Uz (V:Option Addr) (n c:Nat) (X:List StI) (H:Sp w0 L w) (hn:n=X.length) (hnm:n<=1000000) (h:Ent L (fun w=>Yo w V X)) :
  Calls Tryz.prog 76 #[.slice V n c] w fun e w'=>e=.returned (.bool (mayI X 0))/\Sp w0 L w':=by
 have B:=hid hn;have I:=hid h;clear hn h;go_enter Tryz.func76,Tryz.ntmps76
 go_wp2_with fail
 go_loopw [3,8] (fun av iv wr=>∃(i:Nat) (a:Int),av=.int .i64 a/\iv=.int .i64 i/\i<=n/\0<=a/\a<=258 * (i:Int)/\mayI X 0=mayI (X.drop i) a/\Sp w0 L wr) (fun _ iv _=>n - (intOf iv).toNat)
 case atStart=>exact⟨0,0,rfl,rfl,Nat.zero_le _,by omega,by omega,rfl,H⟩
 case round =>
  obtain⟨i,a,rfl,rfl,T,J,K,C,H⟩:=hrel;have q:=hid C;clear C;by_cases r:i<n
  ·have M:(i:Int)<(n:Int):=by omega
   have k:i<X.length:=by rw [<- B.out]; exact r
   obtain⟨U,rfl,D,E,F⟩:=I.out _ _ H i k;have b:=XF (a:=a) k;obtain⟨x,t⟩:=exq (X[i].1);obtain⟨y,u⟩:=exq (X[i].2.1);obtain⟨z,v⟩:=exq (X[i].2.2);have l:X[i]=(x,y,z):=by rw [<- t,<- u,<- v]
   rw [t] at D;rw [u] at E;rw [v] at F;rw [l] at b;have d:=hid b;clear b t u v l;go_wp2_with fail
   refine(UY x y a z _).mono ?_;rintro _ W ⟨rfl,G⟩;have j:=G.sep (H.newBk [.int .i64 x,.int .i64 y,.int .u8 z.toNat] 54);generalize wr.heap.size=s at j ⊢;clear G D E F;by_cases o:fitsI (x,y,z) a=true
   ·have A:=YV o;rw [o];have N:=j.cell 0 rfl 0;have O:=j.cell 0 rfl 1;have P:=j.cell 0 rfl 2;simp only [List.getElem?_cons_zero,List.getElem?_cons_succ] at N O P;obtain⟨m,f⟩:=exq (max x 1);have g:madeI (x,y,z)=m:=f;rw [g] at A;have e:=d.out;rw [o,Bool.true_and,g] at e;have Q:=hid e;clear e o g d;go_wp2_with fail
    refine(Wj x y (z.toNat:Int) _).mono ?_;rintro _ Y ⟨rfl,R⟩;have S:=R.sep j;rw [f];clear f;go_wp2_with fail
    go_roundw
    case rel=>exact⟨i+1,a+m,by go_num,by go_num,by omega,by omega,by omega,q.out.trans Q.out,S.tail⟩
    case measure=>first | (simp [intOf]; omega) | simp [intOf]
   ·have p:fitsI (x,y,z) a=false:=by simpa using o
    rw [p];go_wp2_with fail
    go_ret;refine⟨ZB ?_,j.tail⟩;rw [q.out,d.out,p];rfl
  ·have M:¬ (i:Int)<(n:Int):=by omega
   go_wp2_with fail
   go_ret;refine⟨ZB ?_,H⟩;rw [q.out,List.drop_eq_nil_of_le (by rw [<- B.out]; omega)];rfl
theorem Vn (V:Option Addr) (n c:Nat) (X:List StI) (H:Sp w0 L w) (hn:n=X.length) (hnm:n<=1000000) (hb:∀s ∈ X,s.1<=1000000) (h:Ent L (fun w=>Yo w V X)) :
  Calls Tryz.prog 47 #[.slice V n c] w fun e w'=>e=.returned (.int .i64 (sizeI X))/\Sp w0 L w':=by
 have t:=hid hn;have A:=hid h;clear hn h;go_enter Tryz.func47,Tryz.ntmps47
 go_wp2_with fail
 go_loopw [3,8] (fun av iv wr=>∃(i:Nat) (a:Int),av=.int .i64 a/\iv=.int .i64 i/\i<=n/\0<=a/\a<=1000000 * (i:Int)/\sizeI X=a+sizeI (X.drop i)/\Sp w0 L wr) (fun _ iv _=>n - (intOf iv).toNat)
 case atStart=>exact⟨0,0,rfl,rfl,Nat.zero_le _,by omega,by omega,by rw [Int.zero_add]; rfl,H⟩
 case round =>
  obtain⟨i,a,rfl,rfl,N,B,C,u,H⟩:=hrel;have v:=hid u;clear u;by_cases o:i<n
  ·have D:(i:Int)<(n:Int):=by omega
   have d:i<X.length:=by rw [<- t.out]; exact o
   obtain⟨O,rfl,E,F,G⟩:=A.out _ _ H i d;have b:=WC d;have f:=hb _ (List.getElem_mem d);obtain⟨x,p⟩:=exq (X[i].1);obtain⟨y,q⟩:=exq (X[i].2.1);obtain⟨z,r⟩:=exq (X[i].2.2);have k:X[i]=(x,y,z):=by rw [<- p,<- q,<- r]
   rw [p] at E;rw [q] at F;rw [r] at G;rw [k] at b f;replace f:x<=1000000:=f;obtain⟨m,g⟩:=exq (max x 1);have l:madeI (x,y,z)=m:=g;rw [l] at b;have I:1<=m:=by omega
   have J:m<=1000000:=by omega
   have j:=hid b;clear b p q r k l;go_wp2_with fail
   refine(Wj x y (z.toNat:Int) _).mono ?_;rintro _ P ⟨rfl,K⟩;have M:=K.sep (H.newBk [.int .i64 x,.int .i64 y,.int .u8 z.toNat] 54);rw [g];clear g;go_wp2_with fail
   go_roundw
   case rel=>exact⟨i+1,a+m,by go_num,by go_num,by omega,by omega,by omega,by rw [v.out,j.out]; omega,M.tail⟩
   case measure=>first | (simp [intOf]; omega) | simp [intOf]
  ·have D:¬ (i:Int)<(n:Int):=by omega
   go_wp2_with fail
   go_ret;refine⟨ZR ?_,H⟩;rw [v.out,List.drop_eq_nil_of_le (by rw [<- t.out]; omega)];show a=a+0;omega
end Go.Proofs.YteajimobgkempaaGreatDoor

