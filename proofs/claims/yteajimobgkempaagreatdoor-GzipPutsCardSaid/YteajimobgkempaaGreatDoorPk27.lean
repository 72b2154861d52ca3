/- A pack. -/
import Derived.Test.YteajimobgkempaaGreatDoorPk26
set_option linter.all false
set_option maxRecDepth 100000
set_option maxHeartbeats 8000000
namespace Go.Proofs.YteajimobgkempaaGreatDoor
variable {w0 w:World} {L:List Pr}
open Go.RowKit Go.MapKept
def stCells (s:PM.St):List Value:=[.int .i64 s.1,.int .i64 s.2.1,.int .u8 s.2.2.toNat]
def stsV (l:List PM.St):List Value:=l.flatMap stCells
theorem Zq (a b:List PM.St):stsV (a++b)=stsV a++stsV b:=by simp [stsV]
theorem XV (l:List PM.St):(stsV l).length=l.length * 3:=by
 induction l with
 | nil=>rfl
 | cons s l ih =>
  show(stCells s++stsV l).length=_;rw [List.length_append,ih,List.length_cons];show 3+_=_;omega
theorem infoSM:(Tryz.prog.info? 54).map (fun i=>(i.zero,i.size,i.bytes))=some (some (.agg #[.int .i64 0,.int .i64 0,.int .u8 0]),3,24):=by kernel_rfl
theorem Yn (s:PM.St):∀u ∈ stCells s,u.oneCell'=true:=by
 intro u a;simp only [stCells,List.mem_cons,List.not_mem_nil,or_false] at a;rcases a with rfl | rfl | rfl <;> rfl
theorem Ux (g l d:Nat) (A0:Option Addr) (c:Nat) (B:List UInt8) (H:Sp w0 (Fd g (.slice A0 l c) B (d:Int) 0::L) w) (hl:l=B.length) (hb:Ent L (fun w=>Byt w (.slice A0 l c) B)) (hlm:l<=1000000) :
  Calls Tryz.prog 98 #[.slice A0 l c,.func (.func 100) #[.pointer (some ⟨g,0,none⟩)] #[]] w (Ret fun v w'=>Sp w0 (Row 54 3 v (PM.Cut B d).length (stsV (PM.Cut B d))::L) w'):=by
 obtain⟨i0,hi,I,J,K⟩:=info_parts infoSM;have M:=hid hl;have HB:=hid hb;clear hl hb;go_enter Tryz.func98,Tryz.ntmps98
 go_wp2
 go_loopw [5,6] (fun lv iv wr=>∃(q n:Nat) (V:Option Addr) (cV:Nat) (D:List PM.St),iv=.int .i64 q/\lv=.slice V D.length cV/\q<=l/\n<=q/\D.length<=q/\D++PM.cutAt B d q=PM.Cut B d /\
   Sp w0 (Row 54 3 (.slice V D.length cV) D.length (stsV D)::Fd g (.slice A0 l c) B (d:Int) n::L) wr) (fun _ iv _=>l - (intOf iv).toNat)
 case atStart=>exact⟨0,0,none,0,[],rfl,rfl,Nat.zero_le _,Nat.le_refl _,Nat.le_refl _,(PM.Cut_at B d).symm,H.rowNil _ _⟩
 case round =>
  obtain⟨q,n,V,cV,D,rfl,rfl,hq,hn,b8,a0,H⟩:=hrel;have u:=hid a0;clear a0;by_cases N:q<l
  ·have k1:decide ((q:Int)<(l:Int))=true:=decide_eq_true (by omega);obtain⟨ad,rfl⟩:∃ad,A0=some ad:=by
    obtain⟨_,_,e,hr,_,_⟩:=HB.out _ _ (H.pick 2 []);obtain⟨ad,e2,_⟩:=hr.at8 (k:=q) (by rw [<- M.out]; omega);injection e with e
    exact⟨ad,e.trans e2⟩
   obtain⟨bx,a2⟩:∃bx:UInt8,B.getD q 0=bx:=⟨_,rfl⟩;have O:Ent L (fun w=>w.cell? (ad.add q)=some (.int .u8 bx.toNat)):=HB.out.mono fun w' hw=>by
    obtain⟨_,_,e,hr,_,_⟩:=hw;have a7:q<B.length:=by rw [<- M.out]; exact N
    obtain⟨b9,e2,hc⟩:=hr.at8 a7;injection e with e
    rw [<- e] at e2;injection e2 with e2
    rw [e2,hc,<- a2,List.getD_eq_getElem?_getD,List.getElem?_eq_getElem a7];rfl
   have a8:=hid O;have a9:=hid a2;clear O a2;obtain⟨b1,P⟩:=exq ((PM.best B q d).1);obtain⟨b,a3⟩:=exq ((PM.best B q d).2);have c0:b1<=l - q:=by
    rcases PM.best_is B q d with h0 | ⟨far,h1,h2,h3,h4,h5,h6⟩
    ·rw [<- P,h0]; exact Nat.zero_le _
    ·have:=PM.mlen_in (B:=B) (p:=q - far) (q:=q) (by omega);rw [<- P,h5,M.out];show PM.mlen B (q - far) q<=_;omega
   have F:=hid P;have b0:=hid a3;have C:=VJ g q n l d (some ad) c B H.swap M.out (Ent.cons _ HB.out) (by omega) (by omega) hn;rw [P,a3] at C;have r:=hid C;clear P a3 C;by_cases h0:b1=0
   ·have e0:decide (0<b1)=false:=decide_eq_false (by omega);rw [e0] at r;go_wp2_with fail
    refine r.out.mono ?_;rintro _ x ⟨n2,b3,rfl,H2⟩;unfold stV;have ce:∀o,(x.alloc o).cell? (ad.add q)=some (.int .u8 bx.toNat):=fun o=>a8.out _ _ ((H2.alloc o).pick 2 []);have h:(x.alloc (.cells #[.int .i64 0,.int .i64 0,.int .u8 bx.toNat] 54)).heap.size=x.heap.size+1:=Array.size_push _;have i:Rd ((x.alloc (.cells #[.int .i64 0,.int .i64 0,.int .u8 bx.toNat] 54)).alloc (.cells #[.int .i64 0,.int .i64 0,.int .u8 bx.toNat] 54)) (some ⟨x.heap.size+1,0,none⟩) (stCells (0,0,bx)):=by
     have:=Rd.of_blk (Blk.new (x.alloc (.cells #[.int .i64 0,.int .i64 0,.int .u8 bx.toNat] 54)) 54 [.int .i64 0,.int .i64 0,.int .u8 bx.toNat])
     rwa [h] at this
    have j:=hid i;have E:=((H2.newBk [.int .i64 0,.int .i64 0,.int .u8 bx.toNat] 54).pick 3 [2,0,1]).alloc (.cells #[.int .i64 0,.int .i64 0,.int .u8 bx.toNat] 54);have m:=hid E;clear i E h;go_wp2_with (at_builtin; refine wpList_append_sp rfl _ _ 22 rfl 54 i0 (.agg #[.int .i64 0,.int .i64 0,.int .u8 0]) 3 24 Tryz.underlying22 hi I J K rfl (by decide) (.slice V D.length cV) D.length (stsV D) rfl m.out (some ⟨x.heap.size+1,0,none⟩) 1 1 (stCells (0,0,bx)) rfl rfl j.out (Yn _) (by unfold maxLen; omega) (by omega) ?_)
    intro v5 w5 f _;clear m j;obtain⟨U,W,rfl,_,_⟩:=Row.form f 0 rfl;generalize x.heap.size=s at f ⊢;have Q:=f.cell 1 rfl 0;have R:=f.cell 1 rfl 1;have S:=f.cell 1 rfl 2;simp only [List.getElem?_cons_zero,List.getElem?_cons_succ] at Q R S;clear ce;go_wp2_with fail
    refine(Yu (0,0,bx) _).mono ?_;rintro _ w6 ⟨rfl,X⟩;have Y:=X.sep f;have a:PM.made (0,0,bx)=1:=rfl;rw [a];go_wp2;go_roundw
    case rel =>
     refine⟨q+1,n2,U,W,D++[(0,0,bx)],by go_num,by rw [List.length_append]; rfl,by omega,by omega,by rw [List.length_append]; show D.length+1<=_; omega,?_,?_⟩
     ·rw [<- u.out,PM.cutAt_lit B d q (by rw [<- M.out]; exact N) (.inl (by rw [F.out]; exact h0)),a9.out,List.append_assoc];rfl
     ·rw [List.length_append,Zq,show stsV [(0,0,bx)]=stCells (0,0,bx)++[] from rfl,List.append_nil];exact Y.pick 3 [0,2]
    case measure=>simp [intOf]; omega
   ·have e0:decide (0<b1)=true:=decide_eq_true (by omega);rw [e0] at r;by_cases c3:q+1<l
    ·have k2:decide ((q:Int)+1<(l:Int))=true:=decide_eq_true (by omega);go_wp2_with fail
     refine r.out.mono ?_;rintro _ x ⟨n2,b3,rfl,H2⟩;unfold stV;go_wp2_with fail
     have Z:=(H2.newBk [.int .i64 b1,.int .i64 b,.int .u8 0] 54).swap;generalize x.heap.size=s at Z ⊢;generalize x.alloc _=w3 at Z ⊢;clear H2 x;have y:=VJ g (q+1) n2 l d (some ad) c B Z M.out (Ent.pick 2 [] HB.out) (by omega) (by omega) (by omega);obtain⟨z,a4⟩:=exq ((PM.best B (q+1) d).1);obtain⟨G,a5⟩:=exq ((PM.best B (q+1) d).2);have b4:((q+1:Nat):Int)=(q:Int)+1:=by omega
     rw [b4,a4,a5] at y;have b5:=hid a4;have c4:=hid a5;clear b4 a4 a5 Z;refine y.mono ?_;rintro _ w4 ⟨n3,c6,rfl,T⟩;unfold stV;have Q:∀o,(w4.alloc o).cell? ⟨s,0,none⟩=some (.int .i64 b1):=fun o=>(T.alloc o).cell 1 rfl 0;have R:∀o,(w4.alloc o).cell? ⟨s,1,none⟩=some (.int .i64 b):=fun o=>(T.alloc o).cell 1 rfl 1;have S:∀o,(w4.alloc o).cell? ⟨s,2,none⟩=some (.int .u8 0):=fun o=>(T.alloc o).cell 1 rfl 2;have z0:∀o,(w4.alloc o).frozen? ⟨s,0,none⟩=false:=fun o=>(T.alloc o).frozen 1 rfl 0;have z1:∀o,(w4.alloc o).frozen? ⟨s,1,none⟩=false:=fun o=>(T.alloc o).frozen 1 rfl 1;have z2:∀o,(w4.alloc o).frozen? ⟨s,2,none⟩=false:=fun o=>(T.alloc o).frozen 1 rfl 2;have ce:∀o,(w4.alloc o).cell? (ad.add q)=some (.int .u8 bx.toNat):=fun o=>a8.out _ _ ((T.alloc o).pick 3 []);clear y;by_cases a6:b1<z
     ·have e1:decide (0<z)=true:=decide_eq_true (by omega);have e2:decide (b1<z)=true:=decide_eq_true a6;rw [e1];have a1:PM.cutAt B d q=(0,0,bx)::PM.cutAt B d (q+1):=by
       rw [PM.cutAt_lit B d q (by rw [<- M.out]; exact N) (.inr (by rw [F.out,b5.out]; exact a6)),a9.out]
      have b6:=hid a1;clear a1;have h:((((w4.alloc (.cells #[.int .i64 z,.int .i64 G,.int .u8 0] 54)).setCell ⟨s,0,none⟩ (.int .i64 0)).setCell ⟨s,1,none⟩ (.int .i64 0)).setCell ⟨s,2,none⟩ (.int .u8 bx.toNat)).heap.size=w4.heap.size+1:=by simp [World.setCell]
      have i:Rd (((((w4.alloc (.cells #[.int .i64 z,.int .i64 G,.int .u8 0] 54)).setCell ⟨s,0,none⟩ (.int .i64 0)).setCell ⟨s,1,none⟩ (.int .i64 0)).setCell ⟨s,2,none⟩ (.int .u8 bx.toNat)).alloc (.cells #[.int .i64 0,.int .i64 0,.int .u8 bx.toNat] 54)) (some ⟨w4.heap.size+1,0,none⟩) (stCells (0,0,bx)):=by
       have:=Rd.of_blk (Blk.new ((((w4.alloc (.cells #[.int .i64 z,.int .i64 G,.int .u8 0] 54)).setCell ⟨s,0,none⟩ (.int .i64 0)).setCell ⟨s,1,none⟩ (.int .i64 0)).setCell ⟨s,2,none⟩ (.int .u8 bx.toNat)) 54 [.int .i64 0,.int .i64 0,.int .u8 bx.toNat])
       rwa [h] at this
      have j:=hid i;have E:=((((((T.alloc (.cells #[.int .i64 z,.int .i64 G,.int .u8 0] 54)).pick 3 [1,0,2]).set 0 (.int .i64 0)).set 1 (.int .i64 0)).set 2 (.int .u8 bx.toNat)).pick 3 [2,0,1]).alloc (.cells #[.int .i64 0,.int .i64 0,.int .u8 bx.toNat] 54);have m:=hid E;clear i E h;go_wp2_with (at_builtin; refine wpList_append_sp rfl _ _ 22 rfl 54 i0 (.agg #[.int .i64 0,.int .i64 0,.int .u8 0]) 3 24 Tryz.underlying22 hi I J K rfl (by decide) (.slice V D.length cV) D.length (stsV D) rfl m.out (some ⟨w4.heap.size+1,0,none⟩) 1 1 (stCells (0,0,bx)) rfl rfl j.out (Yn _) (by unfold maxLen; omega) (by omega) ?_)
      intro v5 w5 f _;clear m j;obtain⟨U,W,rfl,_,_⟩:=Row.form f 0 rfl;generalize w4.heap.size=s at f ⊢;have Q:=f.cell 1 rfl 0;have R:=f.cell 1 rfl 1;have S:=f.cell 1 rfl 2;simp only [List.getElem?_cons_zero,List.getElem?_cons_succ] at Q R S;clear ce;go_wp2_with fail
      refine(Yu (0,0,bx) _).mono ?_;rintro _ w6 ⟨rfl,X⟩;have Y:=X.sep f;have a:PM.made (0,0,bx)=1:=rfl;rw [a];go_wp2;go_roundw
      case rel =>
       refine⟨q+1,n3,U,W,D++[(0,0,bx)],by go_num,by rw [List.length_append]; rfl,by omega,by omega,by rw [List.length_append]; show D.length+1<=_; omega,?_,?_⟩
       ·rw [<- u.out,b6.out,List.append_assoc];rfl
       ·rw [List.length_append,Zq,show stsV [(0,0,bx)]=stCells (0,0,bx)++[] from rfl,List.append_nil];exact Y.pick 3 [0,2]
      case measure=>simp [intOf]; omega
     ·have t:PM.cutAt B d q=(b1,b,0)::PM.cutAt B d (q+b1):=by
       rw [PM.cutAt_copy B d q (by rw [<- M.out]; exact N) (by rw [F.out,b5.out]; omega),F.out,b0.out]
      have A:=hid t;clear t;by_cases b7:z=0
      ·have e1:decide (0<z)=false:=decide_eq_false (by omega);rw [e1];clear b7;have h:(w4.alloc (.cells #[.int .i64 z,.int .i64 G,.int .u8 0] 54)).heap.size=w4.heap.size+1:=Array.size_push _;have i:Rd ((w4.alloc (.cells #[.int .i64 z,.int .i64 G,.int .u8 0] 54)).alloc (.cells #[.int .i64 b1,.int .i64 b,.int .u8 0] 54)) (some ⟨w4.heap.size+1,0,none⟩) (stCells (b1,b,0)):=by
        have:=Rd.of_blk (Blk.new (w4.alloc (.cells #[.int .i64 z,.int .i64 G,.int .u8 0] 54)) 54 [.int .i64 b1,.int .i64 b,.int .u8 0])
        rwa [h] at this
       have j:=hid i;have E:=((T.alloc (.cells #[.int .i64 z,.int .i64 G,.int .u8 0] 54)).pick 3 [2,1,0]).alloc (.cells #[.int .i64 b1,.int .i64 b,.int .u8 0] 54);have m:=hid E;clear i E h;go_wp2_with (at_builtin; refine wpList_append_sp rfl _ _ 22 rfl 54 i0 (.agg #[.int .i64 0,.int .i64 0,.int .u8 0]) 3 24 Tryz.underlying22 hi I J K rfl (by decide) (.slice V D.length cV) D.length (stsV D) rfl m.out (some ⟨w4.heap.size+1,0,none⟩) 1 1 (stCells (b1,b,0)) rfl rfl j.out (Yn _) (by unfold maxLen; omega) (by omega) ?_)
       intro v5 w5 f _;clear m j;obtain⟨U,W,rfl,_,_⟩:=Row.form f 0 rfl;generalize w4.heap.size=s at f ⊢;have Q:=f.cell 1 rfl 0;have R:=f.cell 1 rfl 1;have S:=f.cell 1 rfl 2;simp only [List.getElem?_cons_zero,List.getElem?_cons_succ] at Q R S;clear ce;go_wp2_with fail
       refine(Yu (b1,b,0) _).mono ?_;rintro _ w6 ⟨rfl,X⟩;have Y:=X.sep f;have a:PM.made (b1,b,0)=b1:=(show max b1 1=b1 by omega);rw [a];go_wp2;go_roundw
       case rel =>
        refine⟨q+b1,n3,U,W,D++[(b1,b,0)],by go_num,by rw [List.length_append]; rfl,by omega,by omega,by rw [List.length_append]; show D.length+1<=_; omega,?_,?_⟩
        ·rw [<- u.out,A.out,List.append_assoc];rfl
        ·rw [List.length_append,Zq,show stsV [(b1,b,0)]=stCells (b1,b,0)++[] from rfl,List.append_nil];exact Y.pick 3 [0,2]
       case measure=>simp [intOf]; omega
      ·have e1:decide (0<z)=true:=decide_eq_true (by omega);have e2:decide (b1<z)=false:=decide_eq_false a6;rw [e1];have h:(w4.alloc (.cells #[.int .i64 z,.int .i64 G,.int .u8 0] 54)).heap.size=w4.heap.size+1:=Array.size_push _;have i:Rd ((w4.alloc (.cells #[.int .i64 z,.int .i64 G,.int .u8 0] 54)).alloc (.cells #[.int .i64 b1,.int .i64 b,.int .u8 0] 54)) (some ⟨w4.heap.size+1,0,none⟩) (stCells (b1,b,0)):=by
        have:=Rd.of_blk (Blk.new (w4.alloc (.cells #[.int .i64 z,.int .i64 G,.int .u8 0] 54)) 54 [.int .i64 b1,.int .i64 b,.int .u8 0])
        rwa [h] at this
       have j:=hid i;have E:=((T.alloc (.cells #[.int .i64 z,.int .i64 G,.int .u8 0] 54)).pick 3 [2,1,0]).alloc (.cells #[.int .i64 b1,.int .i64 b,.int .u8 0] 54);have m:=hid E;clear i E h;go_wp2_with (at_builtin; refine wpList_append_sp rfl _ _ 22 rfl 54 i0 (.agg #[.int .i64 0,.int .i64 0,.int .u8 0]) 3 24 Tryz.underlying22 hi I J K rfl (by decide) (.slice V D.length cV) D.length (stsV D) rfl m.out (some ⟨w4.heap.size+1,0,none⟩) 1 1 (stCells (b1,b,0)) rfl rfl j.out (Yn _) (by unfold maxLen; omega) (by omega) ?_)
       intro v5 w5 f _;clear m j;obtain⟨U,W,rfl,_,_⟩:=Row.form f 0 rfl;generalize w4.heap.size=s at f ⊢;have Q:=f.cell 1 rfl 0;have R:=f.cell 1 rfl 1;have S:=f.cell 1 rfl 2;simp only [List.getElem?_cons_zero,List.getElem?_cons_succ] at Q R S;clear ce;go_wp2_with fail
       refine(Yu (b1,b,0) _).mono ?_;rintro _ w6 ⟨rfl,X⟩;have Y:=X.sep f;have a:PM.made (b1,b,0)=b1:=(show max b1 1=b1 by omega);rw [a];go_wp2;go_roundw
       case rel =>
        refine⟨q+b1,n3,U,W,D++[(b1,b,0)],by go_num,by rw [List.length_append]; rfl,by omega,by omega,by rw [List.length_append]; show D.length+1<=_; omega,?_,?_⟩
        ·rw [<- u.out,A.out,List.append_assoc];rfl
        ·rw [List.length_append,Zq,show stsV [(b1,b,0)]=stCells (b1,b,0)++[] from rfl,List.append_nil];exact Y.pick 3 [0,2]
       case measure=>simp [intOf]; omega
    ·have k2:decide ((q:Int)+1<(l:Int))=false:=decide_eq_false (by omega);have t:PM.cutAt B d q=(b1,b,0)::PM.cutAt B d (q+b1):=by
      rw [PM.cutAt_copy B d q (by rw [<- M.out]; exact N) (by rw [F.out,PM.best_short B (q+1) d (by rw [<- M.out]; omega)]; show ¬ (b1=0∨b1<0); omega),F.out,b0.out]
     have A:=hid t;clear t;go_wp2_with fail
     refine r.out.mono ?_;rintro _ x ⟨n2,b3,rfl,H2⟩;unfold stV;have h:(x.alloc (.cells #[.int .i64 b1,.int .i64 b,.int .u8 0] 54)).heap.size=x.heap.size+1:=Array.size_push _;have i:Rd ((x.alloc (.cells #[.int .i64 b1,.int .i64 b,.int .u8 0] 54)).alloc (.cells #[.int .i64 b1,.int .i64 b,.int .u8 0] 54)) (some ⟨x.heap.size+1,0,none⟩) (stCells (b1,b,0)):=by
      have:=Rd.of_blk (Blk.new (x.alloc (.cells #[.int .i64 b1,.int .i64 b,.int .u8 0] 54)) 54 [.int .i64 b1,.int .i64 b,.int .u8 0])
      rwa [h] at this
     have j:=hid i;have E:=((H2.newBk [.int .i64 b1,.int .i64 b,.int .u8 0] 54).pick 3 [2,0,1]).alloc (.cells #[.int .i64 b1,.int .i64 b,.int .u8 0] 54);have m:=hid E;clear i E h;go_wp2_with (at_builtin; refine wpList_append_sp rfl _ _ 22 rfl 54 i0 (.agg #[.int .i64 0,.int .i64 0,.int .u8 0]) 3 24 Tryz.underlying22 hi I J K rfl (by decide) (.slice V D.length cV) D.length (stsV D) rfl m.out (some ⟨x.heap.size+1,0,none⟩) 1 1 (stCells (b1,b,0)) rfl rfl j.out (Yn _) (by unfold maxLen; omega) (by omega) ?_)
     intro v5 w5 f _;clear m j;obtain⟨U,W,rfl,_,_⟩:=Row.form f 0 rfl;generalize x.heap.size=s at f ⊢;have Q:=f.cell 1 rfl 0;have R:=f.cell 1 rfl 1;have S:=f.cell 1 rfl 2;simp only [List.getElem?_cons_zero,List.getElem?_cons_succ] at Q R S
     skip
     go_wp2_with fail
     refine(Yu (b1,b,0) _).mono ?_;rintro _ w6 ⟨rfl,X⟩;have Y:=X.sep f;have a:PM.made (b1,b,0)=b1:=(show max b1 1=b1 by omega);rw [a];go_wp2;go_roundw
     case rel =>
      refine⟨q+b1,n2,U,W,D++[(b1,b,0)],by go_num,by rw [List.length_append]; rfl,by omega,by omega,by rw [List.length_append]; show D.length+1<=_; omega,?_,?_⟩
      ·rw [<- u.out,A.out,List.append_assoc];rfl
      ·rw [List.length_append,Zq,show stsV [(b1,b,0)]=stCells (b1,b,0)++[] from rfl,List.append_nil];exact Y.pick 3 [0,2]
     case measure=>simp [intOf]; omega
  ·have k1:decide ((q:Int)<(l:Int))=false:=decide_eq_false (by omega);go_wp2_with fail
   go_ret;refine⟨_,rfl,?_⟩;have e:D=PM.Cut B d:=by
    rw [<- u.out,PM.cutAt_end B d q (by rw [<- M.out]; omega),List.append_nil]
   rw [<- e];exact H.pick 2 [0]
open Go.RowKit Go.MapKept
def cutL (B:List UInt8) (d:Int):List PM.St:=if 1<=d/\d<=32768 then PM.Cut B d.toNat else []
def cutE (d:Int):Int:=if 1<=d/\d<=32768 then 0 else 1
theorem TT (l:Nat) (d:Int) (A0:Option Addr) (c:Nat) (B:List UInt8) (H:Sp w0 L w) (hl:l=B.length) (hb:Ent L (fun w=>Byt w (.slice A0 l c) B)) (hlm:l<=1000000) :
  Calls Tryz.prog 66 #[.slice A0 l c,.int .i64 d] w fun e w'=>∃v,e=.returned (.tuple #[v,.int .i64 (cutE d)])/\Sp w0 (Row 54 3 v (cutL B d).length (stsV (cutL B d))::L) w':=by
 have f:=hid hl;have h:=hid hb;clear hl hb;unfold cutE cutL;by_cases a:d<1
 ·rw [if_neg (by omega),if_neg (by omega)];have i:decide (d<1)=true:=decide_eq_true a;go_enter Tryz.func66,Tryz.ntmps66
  go_wp2;go_ret2;exact⟨_,rfl,H.rowNil _ _⟩
 ·have i:decide (d<1)=false:=decide_eq_false a;by_cases b:32768<d
  ·rw [if_neg (by omega),if_neg (by omega)];have j:decide (32768<d)=true:=decide_eq_true b;go_enter Tryz.func66,Tryz.ntmps66
   go_wp2;go_ret2;exact⟨_,rfl,H.rowNil _ _⟩
  ·rw [if_pos (by omega),if_pos (by omega)];have j:decide (32768<d)=false:=decide_eq_false b;obtain⟨n,rfl⟩:=Int.eq_ofNat_of_zero_le (show 0<=d by omega);rw [show(n:Int).toNat=n from rfl];go_enter Tryz.func66,Tryz.ntmps66
   go_wp2_with fail
   refine(Uw A0 l c (n:Int) B H).mono ?_;rintro _ o ⟨g,rfl,k⟩;go_wp2_with fail
   refine(Ux g l n A0 c B k f.out h.out hlm).mono ?_;rintro _ p ⟨v,rfl,m⟩;go_wp2;go_ret2;exact⟨_,rfl,m⟩
end Go.Proofs.YteajimobgkempaaGreatDoor

