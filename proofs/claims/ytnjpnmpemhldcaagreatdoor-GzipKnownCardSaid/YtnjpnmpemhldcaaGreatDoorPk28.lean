/- A pack. -/
import Derived.Test.YtnjpnmpemhldcaaGreatDoorPk23
import Derived.Test.YtnjpnmpemhldcaaGreatDoorPk27
set_option linter.all false
set_option maxRecDepth 100000
set_option maxHeartbeats 8000000
namespace Go.Proofs.YtnjpnmpemhldcaaGreatDoor
variable {w0 w:World} {L:List Pr}
open Go.RowKit Go.MapKept
def stCells (s:PM.St):List Value:=[.int .i64 s.1,.int .i64 s.2.1,.int .u8 s.2.2.toNat]
def stsV (l:List PM.St):List Value:=l.flatMap stCells
theorem ZH (a b:List PM.St):stsV (a++b)=stsV a++stsV b:=by simp [stsV]
theorem XS (l:List PM.St):(stsV l).length=l.length * 3:=by
 induction l with
 | nil=>rfl
 | cons s l ih =>
  show(stCells s++stsV l).length=_;rw [List.length_append,ih,List.length_cons];show 3+_=_;omega
theorem infoSM:(Tryz.prog.info? 87).map (fun i=>(i.zero,i.size,i.bytes))=some (some (.agg #[.int .i64 0,.int .i64 0,.int .u8 0]),3,24):=by kernel_rfl
theorem XJ (s:PM.St):∀u ∈ stCells s,u.oneCell'=true:=by
 intro u a;simp only [stCells,List.mem_cons,List.not_mem_nil,or_false] at a;rcases a with rfl | rfl | rfl <;> rfl
theorem Uv (g l d:Nat) (A0:Option Addr) (c:Nat) (B:List UInt8) (H:Sp w0 (Fd g (.slice A0 l c) B (d:Int) 0::L) w) (hl:l=B.length) (hb:Ent L (fun w=>Byt w (.slice A0 l c) B)) (hlm:l<=1000000) :
  Calls Tryz.prog 93 #[.slice A0 l c,.func (.func 95) #[.pointer (some ⟨g,0,none⟩)] #[]] w (Ret fun v w'=>Sp w0 (Row 87 3 v (PM.Cut B d).length (stsV (PM.Cut B d))::L) w'):=by
 obtain⟨i0,hi,I,J,K⟩:=info_parts infoSM;have M:=hid hl;have HB:=hid hb;clear hl hb;go_enter Tryz.func93,Tryz.ntmps93
 go_wp2
 go_loopw [5,6] (fun lv iv wr=>∃(q n:Nat) (V:Option Addr) (cV:Nat) (D:List PM.St),iv=.int .i64 q/\lv=.slice V D.length cV/\q<=l/\n<=q/\D.length<=q/\D++PM.cutAt B d q=PM.Cut B d /\
   Sp w0 (Row 87 3 (.slice V D.length cV) D.length (stsV D)::Fd g (.slice A0 l c) B (d:Int) n::L) wr) (fun _ iv _=>l - (intOf iv).toNat)
 case atStart=>exact⟨0,0,none,0,[],rfl,rfl,Nat.zero_le _,Nat.le_refl _,Nat.le_refl _,(PM.Cut_at B d).symm,H.rowNil _ _⟩
 case round =>
  obtain⟨q,n,V,cV,D,rfl,rfl,hq,hn,b8,a0,H⟩:=hrel;have u:=hid a0;clear a0;by_cases N:q<l
  ·have k1:decide ((q:Int)<(l:Int))=true:=decide_eq_true (by omega);obtain⟨ad,rfl⟩:∃ad,A0=some ad:=by
    obtain⟨_,_,e,hr,_,_⟩:=HB.out _ _ (H.pick 2 []);obtain⟨ad,e2,_⟩:=hr.at8 (k:=q) (by rw [<- M.out]; omega);injection e with e
    exact⟨ad,e.trans e2⟩
   obtain⟨bx,a2⟩:∃bx:UInt8,B.getD q 0=bx:=⟨_,rfl⟩;have O:Ent L (fun w=>w.cell? (ad.add q)=some (.int .u8 bx.toNat)):=HB.out.mono fun w' hw=>by
    obtain⟨_,_,e,hr,_,_⟩:=hw;have a7:q<B.length:=by rw [<- M.out]; exact N
    obtain⟨b9,e2,hc⟩:=hr.at8 a7;injection e with e
    rw [<- e] at e2;injection e2 with e2
    rw [e2,hc,<- a2,List.getD_eq_getElem?_getD,List.getElem?_eq_getElem a7];rfl
   have a8:=hid O;have a9:=hid a2;clear O a2;obtain⟨b1,P⟩:=exq ((PM.best B q d).1);obtain⟨b,a3⟩:=exq ((PM.best B q d).2);have c0:b1<=l - q:=by
    rcases PM.best_is B q d with h0 | ⟨far,h1,h2,h3,h4,h5,h6⟩
    ·rw [<- P,h0]; exact Nat.zero_le _
    ·have:=PM.mlen_in (B:=B) (p:=q - far) (q:=q) (by omega);rw [<- P,h5,M.out];show PM.mlen B (q - far) q<=_;omega
   have F:=hid P;have b0:=hid a3;have C:=VH g q n l d (some ad) c B H.swap M.out (Ent.cons _ HB.out) (by omega) (by omega) hn;rw [P,a3] at C;have r:=hid C;clear P a3 C;by_cases h0:b1=0
   ·have e0:decide (0<b1)=false:=decide_eq_false (by omega);rw [e0] at r;go_wp2_with fail
    refine r.out.mono ?_;rintro _ x ⟨n2,b3,rfl,H2⟩;unfold stV;have ce:∀o,(x.alloc o).cell? (ad.add q)=some (.int .u8 bx.toNat):=fun o=>a8.out _ _ ((H2.alloc o).pick 2 []);have h:(x.alloc (.cells #[.int .i64 0,.int .i64 0,.int .u8 bx.toNat] 87)).heap.size=x.heap.size+1:=Array.size_push _;have i:Rd ((x.alloc (.cells #[.int .i64 0,.int .i64 0,.int .u8 bx.toNat] 87)).alloc (.cells #[.int .i64 0,.int .i64 0,.int .u8 bx.toNat] 87)) (some ⟨x.heap.size+1,0,none⟩) (stCells (0,0,bx)):=by
     have:=Rd.of_blk (Blk.new (x.alloc (.cells #[.int .i64 0,.int .i64 0,.int .u8 bx.toNat] 87)) 87 [.int .i64 0,.int .i64 0,.int .u8 bx.toNat])
     rwa [h] at this
    have j:=hid i;have E:=((H2.newBk [.int .i64 0,.int .i64 0,.int .u8 bx.toNat] 87).pick 3 [2,0,1]).alloc (.cells #[.int .i64 0,.int .i64 0,.int .u8 bx.toNat] 87);have m:=hid E;clear i E h;go_wp2_with (at_builtin; refine Za rfl _ _ 50 rfl 87 i0 (.agg #[.int .i64 0,.int .i64 0,.int .u8 0]) 3 24 Tryz.underlying50 hi I J K rfl (by decide) (.slice V D.length cV) D.length (stsV D) rfl m.out (some ⟨x.heap.size+1,0,none⟩) 1 1 (stCells (0,0,bx)) rfl rfl j.out (XJ _) (by unfold maxLen; omega) (by omega) ?_)
    intro v5 w5 f _;clear m j;obtain⟨U,W,rfl,_,_⟩:=Row.form f 0 rfl;generalize x.heap.size=s at f ⊢;have Q:=f.cell 1 rfl 0;have R:=f.cell 1 rfl 1;have S:=f.cell 1 rfl 2;simp only [List.getElem?_cons_zero,List.getElem?_cons_succ] at Q R S;clear ce;go_wp2_with fail
    refine(YD (0,0,bx) _).mono ?_;rintro _ w6 ⟨rfl,X⟩;have Y:=X.sep f;have a:PM.made (0,0,bx)=1:=rfl;rw [a];go_wp2;go_roundw
    case rel =>
     refine⟨q+1,n2,U,W,D++[(0,0,bx)],by go_num,by rw [List.length_append]; rfl,by omega,by omega,by rw [List.length_append]; show D.length+1<=_; omega,?_,?_⟩
     ·rw [<- u.out,PM.cutAt_lit B d q (by rw [<- M.out]; exact N) (.inl (by rw [F.out]; exact h0)),a9.out,List.append_assoc];rfl
     ·rw [List.length_append,ZH,show stsV [(0,0,bx)]=stCells (0,0,bx)++[] from rfl,List.append_nil];exact Y.pick 3 [0,2]
    case measure=>simp [intOf]; omega
   ·have e0:decide (0<b1)=true:=decide_eq_true (by omega);rw [e0] at r;by_cases c3:q+1<l
    ·have k2:decide ((q:Int)+1<(l:Int))=true:=decide_eq_true (by omega);go_wp2_with fail
     refine r.out.mono ?_;rintro _ x ⟨n2,b3,rfl,H2⟩;unfold stV;go_wp2_with fail
     have Z:=(H2.newBk [.int .i64 b1,.int .i64 b,.int .u8 0] 87).swap;generalize x.heap.size=s at Z ⊢;generalize x.alloc _=w3 at Z ⊢;clear H2 x;have y:=VH g (q+1) n2 l d (some ad) c B Z M.out (Ent.pick 2 [] HB.out) (by omega) (by omega) (by omega);obtain⟨z,a4⟩:=exq ((PM.best B (q+1) d).1);obtain⟨G,a5⟩:=exq ((PM.best B (q+1) d).2);have b4:((q+1:Nat):Int)=(q:Int)+1:=by omega
     rw [b4,a4,a5] at y;have b5:=hid a4;have c4:=hid a5;clear b4 a4 a5 Z;refine y.mono ?_;rintro _ w4 ⟨n3,c6,rfl,T⟩;unfold stV;have Q:∀o,(w4.alloc o).cell? ⟨s,0,none⟩=some (.int .i64 b1):=fun o=>(T.alloc o).cell 1 rfl 0;have R:∀o,(w4.alloc o).cell? ⟨s,1,none⟩=some (.int .i64 b):=fun o=>(T.alloc o).cell 1 rfl 1;have S:∀o,(w4.alloc o).cell? ⟨s,2,none⟩=some (.int .u8 0):=fun o=>(T.alloc o).cell 1 rfl 2;have z0:∀o,(w4.alloc o).frozen? ⟨s,0,none⟩=false:=fun o=>(T.alloc o).frozen 1 rfl 0;have z1:∀o,(w4.alloc o).frozen? ⟨s,1,none⟩=false:=fun o=>(T.alloc o).frozen 1 rfl 1;have z2:∀o,(w4.alloc o).frozen? ⟨s,2,none⟩=false:=fun o=>(T.alloc o).frozen 1 rfl 2;have ce:∀o,(w4.alloc o).cell? (ad.add q)=some (.int .u8 bx.toNat):=fun o=>a8.out _ _ ((T.alloc o).pick 3 []);clear y;by_cases a6:b1<z
     ·have e1:decide (0<z)=true:=decide_eq_true (by omega);have e2:decide (b1<z)=true:=decide_eq_true a6;rw [e1];have a1:PM.cutAt B d q=(0,0,bx)::PM.cutAt B d (q+1):=by
       rw [PM.cutAt_lit B d q (by rw [<- M.out]; exact N) (.inr (by rw [F.out,b5.out]; exact a6)),a9.out]
      have b6:=hid a1;clear a1;have h:((((w4.alloc (.cells #[.int .i64 z,.int .i64 G,.int .u8 0] 87)).setCell ⟨s,0,none⟩ (.int .i64 0)).setCell ⟨s,1,none⟩ (.int .i64 0)).setCell ⟨s,2,none⟩ (.int .u8 bx.toNat)).heap.size=w4.heap.size+1:=by simp [World.setCell]
      have i:Rd (((((w4.alloc (.cells #[.int .i64 z,.int .i64 G,.int .u8 0] 87)).setCell ⟨s,0,none⟩ (.int .i64 0)).setCell ⟨s,1,none⟩ (.int .i64 0)).setCell ⟨s,2,none⟩ (.int .u8 bx.toNat)).alloc (.cells #[.int .i64 0,.int .i64 0,.int .u8 bx.toNat] 87)) (some ⟨w4.heap.size+1,0,none⟩) (stCells (0,0,bx)):=by
       have:=Rd.of_blk (Blk.new ((((w4.alloc (.cells #[.int .i64 z,.int .i64 G,.int .u8 0] 87)).setCell ⟨s,0,none⟩ (.int .i64 0)).setCell ⟨s,1,none⟩ (.int .i64 0)).setCell ⟨s,2,none⟩ (.int .u8 bx.toNat)) 87 [.int .i64 0,.int .i64 0,.int .u8 bx.toNat])
       rwa [h] at this
      have j:=hid i;have E:=((((((T.alloc (.cells #[.int .i64 z,.int .i64 G,.int .u8 0] 87)).pick 3 [1,0,2]).set 0 (.int .i64 0)).set 1 (.int .i64 0)).set 2 (.int .u8 bx.toNat)).pick 3 [2,0,1]).alloc (.cells #[.int .i64 0,.int .i64 0,.int .u8 bx.toNat] 87);have m:=hid E;clear i E h;go_wp2_with (at_builtin; refine Za rfl _ _ 50 rfl 87 i0 (.agg #[.int .i64 0,.int .i64 0,.int .u8 0]) 3 24 Tryz.underlying50 hi I J K rfl (by decide) (.slice V D.length cV) D.length (stsV D) rfl m.out (some ⟨w4.heap.size+1,0,none⟩) 1 1 (stCells (0,0,bx)) rfl rfl j.out (XJ _) (by unfold maxLen; omega) (by omega) ?_)
      intro v5 w5 f _;clear m j;obtain⟨U,W,rfl,_,_⟩:=Row.form f 0 rfl;generalize w4.heap.size=s at f ⊢;have Q:=f.cell 1 rfl 0;have R:=f.cell 1 rfl 1;have S:=f.cell 1 rfl 2;simp only [List.getElem?_cons_zero,List.getElem?_cons_succ] at Q R S;clear ce;go_wp2_with fail
      refine(YD (0,0,bx) _).mono ?_;rintro _ w6 ⟨rfl,X⟩;have Y:=X.sep f;have a:PM.made (0,0,bx)=1:=rfl;rw [a];go_wp2;go_roundw
      case rel =>
       refine⟨q+1,n3,U,W,D++[(0,0,bx)],by go_num,by rw [List.length_append]; rfl,by omega,by omega,by rw [List.length_append]; show D.length+1<=_; omega,?_,?_⟩
       ·rw [<- u.out,b6.out,List.append_assoc];rfl
       ·rw [List.length_append,ZH,show stsV [(0,0,bx)]=stCells (0,0,bx)++[] from rfl,List.append_nil];exact Y.pick 3 [0,2]
      case measure=>simp [intOf]; omega
     ·have t:PM.cutAt B d q=(b1,b,0)::PM.cutAt B d (q+b1):=by
       rw [PM.cutAt_copy B d q (by rw [<- M.out]; exact N) (by rw [F.out,b5.out]; omega),F.out,b0.out]
      have A:=hid t;clear t;by_cases b7:z=0
      ·have e1:decide (0<z)=false:=decide_eq_false (by omega);rw [e1];clear b7;have h:(w4.alloc (.cells #[.int .i64 z,.int .i64 G,.int .u8 0] 87)).heap.size=w4.heap.size+1:=Array.size_push _;have i:Rd ((w4.alloc (.cells #[.int .i64 z,.int .i64 G,.int .u8 0] 87)).alloc (.cells #[.int .i64 b1,.int .i64 b,.int .u8 0] 87)) (some ⟨w4.heap.size+1,0,none⟩) (stCells (b1,b,0)):=by
        have:=Rd.of_blk (Blk.new (w4.alloc (.cells #[.int .i64 z,.int .i64 G,.int .u8 0] 87)) 87 [.int .i64 b1,.int .i64 b,.int .u8 0])
        rwa [h] at this
       have j:=hid i;have E:=((T.alloc (.cells #[.int .i64 z,.int .i64 G,.int .u8 0] 87)).pick 3 [2,1,0]).alloc (.cells #[.int .i64 b1,.int .i64 b,.int .u8 0] 87);have m:=hid E;clear i E h;go_wp2_with (at_builtin; refine Za rfl _ _ 50 rfl 87 i0 (.agg #[.int .i64 0,.int .i64 0,.int .u8 0]) 3 24 Tryz.underlying50 hi I J K rfl (by decide) (.slice V D.length cV) D.length (stsV D) rfl m.out (some ⟨w4.heap.size+1,0,none⟩) 1 1 (stCells (b1,b,0)) rfl rfl j.out (XJ _) (by unfold maxLen; omega) (by omega) ?_)
       intro v5 w5 f _;clear m j;obtain⟨U,W,rfl,_,_⟩:=Row.form f 0 rfl;generalize w4.heap.size=s at f ⊢;have Q:=f.cell 1 rfl 0;have R:=f.cell 1 rfl 1;have S:=f.cell 1 rfl 2;simp only [List.getElem?_cons_zero,List.getElem?_cons_succ] at Q R S;clear ce;go_wp2_with fail
       refine(YD (b1,b,0) _).mono ?_;rintro _ w6 ⟨rfl,X⟩;have Y:=X.sep f;have a:PM.made (b1,b,0)=b1:=(show max b1 1=b1 by omega);rw [a];go_wp2;go_roundw
       case rel =>
        refine⟨q+b1,n3,U,W,D++[(b1,b,0)],by go_num,by rw [List.length_append]; rfl,by omega,by omega,by rw [List.length_append]; show D.length+1<=_; omega,?_,?_⟩
        ·rw [<- u.out,A.out,List.append_assoc];rfl
        ·rw [List.length_append,ZH,show stsV [(b1,b,0)]=stCells (b1,b,0)++[] from rfl,List.append_nil];exact Y.pick 3 [0,2]
       case measure=>simp [intOf]; omega
      ·have e1:decide (0<z)=true:=decide_eq_true (by omega);have e2:decide (b1<z)=false:=decide_eq_false a6;rw [e1];have h:(w4.alloc (.cells #[.int .i64 z,.int .i64 G,.int .u8 0] 87)).heap.size=w4.heap.size+1:=Array.size_push _;have i:Rd ((w4.alloc (.cells #[.int .i64 z,.int .i64 G,.int .u8 0] 87)).alloc (.cells #[.int .i64 b1,.int .i64 b,.int .u8 0] 87)) (some ⟨w4.heap.size+1,0,none⟩) (stCells (b1,b,0)):=by
        have:=Rd.of_blk (Blk.new (w4.alloc (.cells #[.int .i64 z,.int .i64 G,.int .u8 0] 87)) 87 [.int .i64 b1,.int .i64 b,.int .u8 0])
        rwa [h] at this
       have j:=hid i;have E:=((T.alloc (.cells #[.int .i64 z,.int .i64 G,.int .u8 0] 87)).pick 3 [2,1,0]).alloc (.cells #[.int .i64 b1,.int .i64 b,.int .u8 0] 87);have m:=hid E;clear i E h;go_wp2_with (at_builtin; refine Za rfl _ _ 50 rfl 87 i0 (.agg #[.int .i64 0,.int .i64 0,.int .u8 0]) 3 24 Tryz.underlying50 hi I J K rfl (by decide) (.slice V D.length cV) D.length (stsV D) rfl m.out (some ⟨w4.heap.size+1,0,none⟩) 1 1 (stCells (b1,b,0)) rfl rfl j.out (XJ _) (by unfold maxLen; omega) (by omega) ?_)
       intro v5 w5 f _;clear m j;obtain⟨U,W,rfl,_,_⟩:=Row.form f 0 rfl;generalize w4.heap.size=s at f ⊢;have Q:=f.cell 1 rfl 0;have R:=f.cell 1 rfl 1;have S:=f.cell 1 rfl 2;simp only [List.getElem?_cons_zero,List.getElem?_cons_succ] at Q R S;clear ce;go_wp2_with fail
       refine(YD (b1,b,0) _).mono ?_;rintro _ w6 ⟨rfl,X⟩;have Y:=X.sep f;have a:PM.made (b1,b,0)=b1:=(show max b1 1=b1 by omega);rw [a];go_wp2;go_roundw
       case rel =>
        refine⟨q+b1,n3,U,W,D++[(b1,b,0)],by go_num,by rw [List.length_append]; rfl,by omega,by omega,by rw [List.length_append]; show D.length+1<=_; omega,?_,?_⟩
        ·rw [<- u.out,A.out,List.append_assoc];rfl
        ·rw [List.length_append,ZH,show stsV [(b1,b,0)]=stCells (b1,b,0)++[] from rfl,List.append_nil];exact Y.pick 3 [0,2]
       case measure=>simp [intOf]; omega
    ·have k2:decide ((q:Int)+1<(l:Int))=false:=decide_eq_false (by omega);have t:PM.cutAt B d q=(b1,b,0)::PM.cutAt B d (q+b1):=by
      rw [PM.cutAt_copy B d q (by rw [<- M.out]; exact N) (by rw [F.out,PM.best_short B (q+1) d (by rw [<- M.out]; omega)]; show ¬ (b1=0∨b1<0); omega),F.out,b0.out]
     have A:=hid t;clear t;go_wp2_with fail
     refine r.out.mono ?_;rintro _ x ⟨n2,b3,rfl,H2⟩;unfold stV;have h:(x.alloc (.cells #[.int .i64 b1,.int .i64 b,.int .u8 0] 87)).heap.size=x.heap.size+1:=Array.size_push _;have i:Rd ((x.alloc (.cells #[.int .i64 b1,.int .i64 b,.int .u8 0] 87)).alloc (.cells #[.int .i64 b1,.int .i64 b,.int .u8 0] 87)) (some ⟨x.heap.size+1,0,none⟩) (stCells (b1,b,0)):=by
      have:=Rd.of_blk (Blk.new (x.alloc (.cells #[.int .i64 b1,.int .i64 b,.int .u8 0] 87)) 87 [.int .i64 b1,.int .i64 b,.int .u8 0])
      rwa [h] at this
     have j:=hid i;have E:=((H2.newBk [.int .i64 b1,.int .i64 b,.int .u8 0] 87).pick 3 [2,0,1]).alloc (.cells #[.int .i64 b1,.int .i64 b,.int .u8 0] 87);have m:=hid E;clear i E h;go_wp2_with (at_builtin; refine Za rfl _ _ 50 rfl 87 i0 (.agg #[.int .i64 0,.int .i64 0,.int .u8 0]) 3 24 Tryz.underlying50 hi I J K rfl (by decide) (.slice V D.length cV) D.length (stsV D) rfl m.out (some ⟨x.heap.size+1,0,none⟩) 1 1 (stCells (b1,b,0)) rfl rfl j.out (XJ _) (by unfold maxLen; omega) (by omega) ?_)
     intro v5 w5 f _;clear m j;obtain⟨U,W,rfl,_,_⟩:=Row.form f 0 rfl;generalize x.heap.size=s at f ⊢;have Q:=f.cell 1 rfl 0;have R:=f.cell 1 rfl 1;have S:=f.cell 1 rfl 2;simp only [List.getElem?_cons_zero,List.getElem?_cons_succ] at Q R S
     skip
     go_wp2_with fail
     refine(YD (b1,b,0) _).mono ?_;rintro _ w6 ⟨rfl,X⟩;have Y:=X.sep f;have a:PM.made (b1,b,0)=b1:=(show max b1 1=b1 by omega);rw [a];go_wp2;go_roundw
     case rel =>
      refine⟨q+b1,n2,U,W,D++[(b1,b,0)],by go_num,by rw [List.length_append]; rfl,by omega,by omega,by rw [List.length_append]; show D.length+1<=_; omega,?_,?_⟩
      ·rw [<- u.out,A.out,List.append_assoc];rfl
      ·rw [List.length_append,ZH,show stsV [(b1,b,0)]=stCells (b1,b,0)++[] from rfl,List.append_nil];exact Y.pick 3 [0,2]
     case measure=>simp [intOf]; omega
  ·have k1:decide ((q:Int)<(l:Int))=false:=decide_eq_false (by omega);go_wp2_with fail
   go_ret;refine⟨_,rfl,?_⟩;have e:D=PM.Cut B d:=by
    rw [<- u.out,PM.cutAt_end B d q (by rw [<- M.out]; omega),List.append_nil]
   rw [<- e];exact H.pick 2 [0]
open Go.RowKit Go.MapKept
def cutL (B:List UInt8) (d:Int):List PM.St:=if 1<=d/\d<=32768 then PM.Cut B d.toNat else []
def cutE (d:Int):Int:=if 1<=d/\d<=32768 then 0 else 1
theorem T0 (l:Nat) (d:Int) (A0:Option Addr) (c:Nat) (B:List UInt8) (H:Sp w0 L w) (hl:l=B.length) (hb:Ent L (fun w=>Byt w (.slice A0 l c) B)) (hlm:l<=1000000) :
  Calls Tryz.prog 57 #[.slice A0 l c,.int .i64 d] w fun e w'=>∃v,e=.returned (.tuple #[v,.int .i64 (cutE d)])/\Sp w0 (Row 87 3 v (cutL B d).length (stsV (cutL B d))::L) w':=by
 have f:=hid hl;have h:=hid hb;clear hl hb;unfold cutE cutL;by_cases a:d<1
 ·rw [if_neg (by omega),if_neg (by omega)];have i:decide (d<1)=true:=decide_eq_true a;go_enter Tryz.func57,Tryz.ntmps57
  go_wp2;go_ret2;exact⟨_,rfl,H.rowNil _ _⟩
 ·have i:decide (d<1)=false:=decide_eq_false a;by_cases b:32768<d
  ·rw [if_neg (by omega),if_neg (by omega)];have j:decide (32768<d)=true:=decide_eq_true b;go_enter Tryz.func57,Tryz.ntmps57
   go_wp2;go_ret2;exact⟨_,rfl,H.rowNil _ _⟩
  ·rw [if_pos (by omega),if_pos (by omega)];have j:decide (32768<d)=false:=decide_eq_false b;obtain⟨n,rfl⟩:=Int.eq_ofNat_of_zero_le (show 0<=d by omega);rw [show(n:Int).toNat=n from rfl];go_enter Tryz.func57,Tryz.ntmps57
   go_wp2_with fail
   refine(Uu A0 l c (n:Int) B H).mono ?_;rintro _ o ⟨g,rfl,k⟩;go_wp2_with fail
   refine(Uv g l n A0 c B k f.out h.out hlm).mono ?_;rintro _ p ⟨v,rfl,m⟩;go_wp2;go_ret2;exact⟨_,rfl,m⟩
open Go.RowKit Go.MapKept
namespace PM
theorem go_far (B:List UInt8) (q:Nat) (ps:List Nat) (d:Nat) (b:Nat × Nat) (h:∀p ∈ ps,32768<q - p):go B q ps d b=b:=by
 cases ps with
 | nil=>rfl
 | cons p ps =>
  rw [go];split
  ·rfl
  ·rw [if_pos (h p (List.mem_cons_self ..))]
def SInv (B:List UInt8) (q d j t:Nat) (b:Nat × Nat):Prop:=1<=j/\j<=q+1/\t<=j/\b.1<=258/\go B q (places B (q+1 - j) (at3 B q)).reverse (d - t) b=best B q d
theorem SInv.start {B:List UInt8} {q d:Nat} (hq:q+3<=B.length):SInv B q d 1 0 (0,0):=by
 refine⟨Nat.le_refl _,by omega,by omega,Nat.zero_le _,?_⟩;unfold best;rw [if_pos hq];rfl
theorem SInv.skip {B:List UInt8} {q d j t:Nat} {b:Nat × Nat} (h:SInv B q d j t b) (hq:q+3<=B.length) (hj:j<=q) (hm:mlen B (q - j) q<3):SInv B q d (j+1) t b:=by
 obtain⟨f,g,i,a,c⟩:=h;refine⟨by omega,by omega,by omega,a,?_⟩;rw [<- c];have e:q+1 - j=(q - j)+1:=by omega
 rw [e,places_succ,if_neg (fun he=>by have:=(mlen_three hq).2 he; omega),show q+1 - (j+1)=q - j by omega]
theorem SInv.take {B:List UInt8} {q d j t m:Nat} {b:Nat × Nat} (h:SInv B q d j t b) (hq:q+3<=B.length) (hj:j<=q) (hf:j<=32768) (ht:t<d) (hm:mlen B (q - j) q=m) (h3:¬ m<3) :
  SInv B q d (j+1) (t+1) (if b.1<m then (m,j) else b):=by
 obtain⟨i,k,a,c,f⟩:=h;have g:=mlen_le B (q - j) q;refine⟨by omega,by omega,by omega,by split <;> first | exact c | (show m<=258; omega),?_⟩
 rw [<- f];have e:q+1 - j=(q - j)+1:=by omega
 rw [e,places_succ,if_pos ((mlen_three hq).1 (by omega)),show q+1 - (j+1)=q - j by omega,List.reverse_append,List.reverse_singleton,List.singleton_append,go,if_neg (show ¬ (d - t=0) by omega),show q - (q - j)=j by omega,if_neg (show ¬ (32768<j) by omega),hm,Nat.sub_sub]
theorem SInv.done {B:List UInt8} {q d j t:Nat} {b:Nat × Nat} (h:SInv B q d j t b) (he:32768<j∨q<j∨d<=t):b=best B q d:=by
 obtain⟨e,f,g,i,a⟩:=h;rw [<- a];rcases he with he | he | he
 ·rw [go_far];intro p c;rw [List.mem_reverse,places_mem] at c;omega
 ·rw [show q+1 - j=0 by omega]; rfl
 ·rw [show d - t=0 by omega,go_zero]
end PM
open Go.RowKit Go.MapKept
theorem Tu (X:List PM.St) (i:Nat) (h:i<X.length):(stsV X)[i * 3]?=some (.int .i64 (X[i].1:Int))/\(stsV X)[i * 3+1]?=some (.int .i64 (X[i].2.1:Int))/\(stsV X)[i * 3+2]?=some (.int .u8 (X[i].2.2.toNat:Int)):=by
 induction X generalizing i with
 | nil=>exact absurd h (Nat.not_lt_zero _)
 | cons x X ih =>
  have e:stsV (x::X)=stCells x++stsV X:=rfl;rw [e];cases i with
  | zero=>exact⟨rfl,rfl,rfl⟩
  | succ i =>
   have a:(stCells x).length=3:=rfl;have:=ih i (by simpa using h);rw [List.getElem?_append_right (by rw [a]; omega),List.getElem?_append_right (by rw [a]; omega),List.getElem?_append_right (by rw [a]; omega),a,show(i+1) * 3 - 3=i * 3 by omega,show(i+1) * 3+1 - 3=i * 3+1 by omega,show(i+1) * 3+2 - 3=i * 3+2 by omega];simpa using this
def StAt (w:World) (V:Option Addr) (X:List PM.St):Prop:=∀(i:Nat) (h:i<X.length),∃ad,V=some ad/\w.cell? (ad.add (i * 3))=some (.int .i64 (X[i].1:Int)) /\
 w.cell? ⟨(ad.add (i * 3)).block,(ad.add (i * 3)).off+1,none⟩=some (.int .i64 (X[i].2.1:Int))/\w.cell? ⟨(ad.add (i * 3)).block,(ad.add (i * 3)).off+2,none⟩=some (.int .u8 (X[i].2.2.toNat:Int))
theorem StAt.of_rd {w:World} {V:Option Addr} {X:List PM.St} (h:Rd w V (stsV X)):StAt w V X:=fun i hi=>by
 obtain⟨a,e,b⟩:=h (by
  have:=XS X;intro c;rw [c] at this;simp only [List.length_nil] at this;omega)
 obtain⟨d,f,g⟩:=Tu X i hi;refine⟨a,e,b _ _ d,?_,?_⟩
 ·rw [Zv a (i * 3) 1 (by omega)]; exact b _ _ f
 ·rw [Zv a (i * 3) 2 (by omega)]; exact b _ _ g
theorem Sp.stAt (H:Sp w0 L w) (k:Nat) {e:TypeId} {n c:Nat} {V:Option Addr} {X:List PM.St} (hk:L[k]?=some (Row e 3 (.slice V n c) n (stsV X))):StAt w V X:=by
 obtain⟨A,b,e,a,_⟩:=H.row_rd k hk;injection e with e
 subst e;exact .of_rd a
open Go.RowKit Go.MapKept
abbrev StI:=Int × Int × UInt8
def toI (s:PM.St):StI:=((s.1:Int),(s.2.1:Int),s.2.2)
def madeI (s:StI):Int:=max s.1 1
def sizeI:List StI->Int
 | []=>0
 | s::l=>madeI s+sizeI l
theorem VI (X:List PM.St):sizeI (X.map toI)=(PM.size X:Int):=by
 induction X with
 | nil=>rfl
 | cons s X ih =>
  show madeI (toI s)+sizeI (X.map toI)=((PM.made s+PM.size X:Nat):Int);rw [ih];show max (s.1:Int) 1+(PM.size X:Int)=((max s.1 1+PM.size X:Nat):Int);omega
def T9 (w:World) (V:Option Addr) (X:List StI):Prop:=∀(i:Nat) (h:i<X.length),∃ad,V=some ad/\w.cell? (ad.add (i * 3))=some (.int .i64 X[i].1) /\
 w.cell? ⟨(ad.add (i * 3)).block,(ad.add (i * 3)).off+1,none⟩=some (.int .i64 X[i].2.1)/\w.cell? ⟨(ad.add (i * 3)).block,(ad.add (i * 3)).off+2,none⟩=some (.int .u8 (X[i].2.2.toNat:Int))
theorem StAt.toI {w:World} {V:Option Addr} {X:List PM.St} (h:StAt w V X):T9 w V (X.map toI):=fun i hi=>by
 rw [List.length_map] at hi;obtain⟨a,e,b,c,d⟩:=h i hi;refine⟨a,e,?_,?_,?_⟩
 ·rw [b,List.getElem_map]; rfl
 ·rw [c,List.getElem_map]; rfl
 ·rw [d,List.getElem_map]; rfl
theorem Uw (x y:Int) (z:Int) (w:World) :
  Calls Tryz.prog 105 #[.agg #[.int .i64 x,.int .i64 y,.int .u8 z]] w fun e w'=>e=.returned (.int .i64 (max x 1))/\Keep w w':=by
 obtain⟨m,a⟩:∃m:Int,max x 1=m:=⟨_,rfl⟩;rw [a];go_enter Tryz.func105,Tryz.ntmps105
 go_wp2;all_goals (go_ret; exact⟨ZU (by omega),Keep.alloc _ _⟩)
open Go.RowKit Go.MapKept
theorem WK {X:List StI} {i:Nat} (h:i<X.length):sizeI (X.drop i)=madeI X[i]+sizeI (X.drop (i+1)):=by
 rw [List.drop_eq_getElem_cons h]; rfl
theorem Tv (V:Option Addr) (n c:Nat) (X:List StI) (H:Sp w0 L w) (hn:n=X.length) (hnm:n<=1000000) (hb:∀s ∈ X,s.1<=1000000) (h:Ent L (fun w=>T9 w V X)) :
  Calls Tryz.prog 72 #[.slice V n c] w fun e w'=>e=.returned (.int .i64 (sizeI X))/\Sp w0 L w':=by
 have t:=hid hn;have A:=hid h;clear hn h;go_enter Tryz.func72,Tryz.ntmps72
 go_wp2_with fail
 go_loopw [3,8] (fun av iv wr=>∃(i:Nat) (a:Int),av=.int .i64 a/\iv=.int .i64 i/\i<=n/\0<=a/\a<=1000000 * (i:Int)/\sizeI X=a+sizeI (X.drop i)/\Sp w0 L wr) (fun _ iv _=>n - (intOf iv).toNat)
 case atStart=>exact⟨0,0,rfl,rfl,Nat.zero_le _,by omega,by omega,by rw [Int.zero_add]; rfl,H⟩
 case round =>
  obtain⟨i,a,rfl,rfl,N,B,C,u,H⟩:=hrel;have v:=hid u;clear u;by_cases o:i<n
  ·have D:(i:Int)<(n:Int):=by omega
   have d:i<X.length:=by rw [<- t.out]; exact o
   obtain⟨O,rfl,E,F,G⟩:=A.out _ _ H i d;have b:=WK d;have f:=hb _ (List.getElem_mem d);obtain⟨x,p⟩:=exq (X[i].1);obtain⟨y,q⟩:=exq (X[i].2.1);obtain⟨z,r⟩:=exq (X[i].2.2);have k:X[i]=(x,y,z):=by rw [<- p,<- q,<- r]
   rw [p] at E;rw [q] at F;rw [r] at G;rw [k] at b f;replace f:x<=1000000:=f;obtain⟨m,g⟩:=exq (max x 1);have l:madeI (x,y,z)=m:=g;rw [l] at b;have I:1<=m:=by omega
   have J:m<=1000000:=by omega
   have j:=hid b;clear b p q r k l;go_wp2_with fail
   refine(Uw x y (z.toNat:Int) _).mono ?_;rintro _ P ⟨rfl,K⟩;have M:=K.sep (H.newBk [.int .i64 x,.int .i64 y,.int .u8 z.toNat] 87);rw [g];clear g;go_wp2_with fail
   go_roundw
   case rel=>exact⟨i+1,a+m,by go_num,by go_num,by omega,by omega,by omega,by rw [v.out,j.out]; omega,M.tail⟩
   case measure=>first | (simp [intOf]; omega) | simp [intOf]
  ·have D:¬ (i:Int)<(n:Int):=by omega
   go_wp2_with fail
   go_ret;refine⟨ZU ?_,H⟩;rw [v.out,List.drop_eq_nil_of_le (by rw [<- t.out]; omega)];show a=a+0;omega
open Go.RowKit Go.MapKept
namespace PM
theorem size_append (a b:List St):size (a++b)=size a+size b:=by
 induction a with
 | nil=>exact(Nat.zero_add _).symm
 | cons s a ih=>show made s+size (a++b)=made s+size a+size b; rw [ih,Nat.add_assoc]
end PM
open Go.RowKit
theorem size_alloc (w:World) (o:Obj):(w.alloc o).heap.size=w.heap.size+1:=by simp
def wdC (t:PD.Wd):List Value:=[.int .i64 t.1,.int .i64 t.2.1,.int .i64 t.2.2.1,.int .i64 t.2.2.2]
def Zd (l:List PD.Wd):List Value:=l.flatMap wdC
theorem Zw (a b:List PD.Wd):Zd (a++b)=Zd a++Zd b:=by simp [Zd]
theorem WL (l:List PD.Wd):(Zd l).length=l.length * 4:=by
 induction l with
 | nil=>rfl
 | cons t l ih=>show(wdC t++Zd l).length=_; rw [List.length_append,ih,List.length_cons]; show 4+_=_; omega
theorem ZR (t:PD.Wd):∀u ∈ wdC t,u.oneCell'=true:=by
 intro u a;simp only [wdC,List.mem_cons,List.not_mem_nil,or_false] at a;rcases a with rfl | rfl | rfl | rfl <;> rfl
theorem infoT:(Tryz.prog.info? 179).map (fun i=>(i.zero,i.size,i.bytes))=some (some (.agg #[.int .i64 0,.int .i64 0,.int .i64 0,.int .i64 0]),4,32):=by kernel_rfl
namespace PD
theorem wds_take {Y:List PM.St} {i:Nat} (h:i<Y.length):wds (Y.take (i+1))=wds (Y.take i)++wd Y[i]:=by
 unfold wds;rw [List.take_succ_eq_append_getElem h,List.flatMap_append];simp
theorem wds_len (Y:List PM.St):(wds Y).length<=2 * Y.length:=by
 have:=words_len Y;unfold words at this;simp at this; omega
def StOk (s:PM.St):Prop:=s.1=0∨(3<=s.1/\s.1<=258/\1<=s.2.1/\s.2.1<=32768)
theorem mays_ok:∀(Y:List PM.St) (n:Nat),PM.mays Y n->∀s ∈ Y,StOk s:=by
 intro Y;induction Y with
 | nil=>intro n _ s a; cases a
 | cons t l ih =>
  intro n h s a;rcases List.mem_cons.1 a with rfl | a
  ·rcases h.1 with h1 | h1
   ·exact .inl h1.1
   ·exact .inr ⟨h1.1,h1.2.1,h1.2.2.1,h1.2.2.2.1⟩
  ·exact ih _ h.2 s a
end PD
theorem VJ (V:Option Addr) (n c:Nat) (Y:List PM.St) {TL TF:Option Addr} {cl cf:Nat} (H:Sp w0 L w) (hT:Ent L (DTabs TL TF cl cf)) (hn:n=Y.length) (hnm:n<=1000000) (h:Ent L fun w=>StAt w V Y) (hY:∀s ∈ Y,PD.StOk s) :
  Calls Tryz.prog 79 #[.slice V n c] w fun e w'=>∃v,e=.returned v/\Sp w0 (Row 179 4 v (PD.words Y).length (Zd (PD.words Y))::L) w':=by
 obtain⟨Z,hj,g,j,k⟩:=info_parts infoT;have HN:=hid hn;have HX:=hid h;have HT:=hid hT;have HY:=hid hY;clear hn h hT hY;go_enter Tryz.func79,Tryz.ntmps79
 go_wp2_with fail
 go_loopw [3,14] (fun rv iv wr=>∃i:Nat,iv=.int .i64 i/\i<=n/\Sp w0 (Row 179 4 rv (PD.wds (Y.take i)).length (Zd (PD.wds (Y.take i)))::L) wr) (fun _ iv _=>n - (intOf iv).toNat)
 case atStart=>exact⟨0,rfl,Nat.zero_le _,H.rowNil _ _⟩
 case round =>
  obtain⟨i,rfl,hi,l⟩:=hrel;clear H;obtain⟨R,F⟩:=exq (PD.wds (Y.take i));have a4:R.length<=2 * i:=by
   rw [<- F];have:=PD.wds_len (Y.take i);rw [List.length_take] at this; omega
  rw [F] at l;obtain⟨VR,a5,rfl,_,_⟩:=Row.form l 0 rfl;by_cases a0:i<n
  ·have k1:(i:Int)<(n:Int):=by omega
   have o:i<Y.length:=by rw [<- HN.out]; exact a0
   obtain⟨ad,rfl,G,p1,N⟩:=HX.out _ _ l.tail i o;have hw:=PD.wds_take o;rw [F] at hw;have O:=HY.out _ (List.getElem_mem o);obtain⟨⟨x,y,z⟩,hs⟩:∃s,Y[i]=s:=⟨_,rfl⟩;rw [hs] at G p1 N hw O;simp only at G p1 N;have m:=hid hw;have P:=l.newBk [.int .i64 x,.int .i64 y,.int .u8 z.toNat] 87;have a:=hid P;clear hw F hs;by_cases hx:x=0
   ·subst hx;have m:Hid (PD.wds (Y.take (i+1))=R++[(0,z.toNat,0,0)]):=m;obtain⟨I,p⟩:=exq z.toNat;have a6:I<256:=by rw [<- p]; exact z.toNat_lt
    rw [p] at m N P a;replace G:wr.cell? (ad.add (i * 3))=some (.int .i64 0):=G;have f:=P.newBk (wdC (0,I,0,0)) 179;have q:=Rd.of_blk (f.blk 0 rfl);rw [size_alloc] at q;have b:=hid q;have d:=hid (f.pick 3 [2]);have r:=a.out.cell 0 rfl 0;have t2:=a.out.cell 0 rfl 2;simp only [List.getElem?_cons_zero,List.getElem?_cons_succ] at r t2;replace r:World.cell? _ ⟨wr.heap.size,0,none⟩=some (.int .i64 0):=r;clear l P f p q;go_wp2_with (at_builtin; refine Za rfl _ _ 139 rfl 179 Z (.agg #[.int .i64 0,.int .i64 0,.int .i64 0,.int .i64 0]) 4 32 Tryz.underlying139 hj g j k rfl (by decide) _ R.length (Zd R) rfl d.out (some ⟨_,0,none⟩) 1 1 (wdC (0,I,0,0)) rfl rfl b.out (ZR _) (by unfold maxLen; omega) (by omega) ?_)
    intro v4 w4 u _;clear d b a G p1 N r t2;go_wp2_with fail
    go_roundw
    case rel =>
     refine⟨i+1,by go_num,by omega,?_⟩;rw [m.out,List.length_append,Zw];show Sp w0 (Row 179 4 v4 (R.length+1) (Zd R++Zd [(0,I,0,0)])::L) w4;rw [show Zd [((0,I,0,0):PD.Wd)]=wdC (0,I,0,0) from List.append_nil _];exact u
    case measure=>first | (simp [intOf]; omega) | simp [intOf]
   ·have a3:3<=x/\x<=258/\1<=y/\y<=32768:=by
     rcases O with h | h
     ·exact absurd h hx
     ·exact h
    have A:PD.wd (x,y,z)=[(0,PD.longI (x:Int)),(1,PD.farI (y:Int))]:=by
     unfold PD.wd PD.longI PD.farI;rw [if_neg hx,if_pos (by omega),if_pos (by omega)]; rfl
    obtain⟨⟨B,C,D⟩,e1⟩:∃t,PD.longI (x:Int)=t:=⟨_,rfl⟩;obtain⟨⟨J,K,M⟩,e2⟩:∃t,PD.farI (y:Int)=t:=⟨_,rfl⟩;rw [e1,e2] at A;have a1:Hid (PD.wds (Y.take (i+1))=R++[(0,B,C,D),(1,J,K,M)]):=by rw [m.out,A]; exact hid rfl
    have a2:=hid e2;have hL:=Ut (x:Int) a.out (fun w0 w h=>HT.out w0 w (h.pick 2 []));rw [e1] at hL;have E:=hid hL;have k2:¬ (x:Int)=0:=by omega
    have r:=a.out.cell 0 rfl 0;simp only [List.getElem?_cons_zero] at r;generalize hst:Bk wr.heap.size _ _=ST at E;have Q:=hid hst;clear A e1 e2 hL m l P a hst;go_wp2_with fail
    refine E.out.mono ?_;rintro _ w3 ⟨rfl,f⟩;have u:=f.newBk (wdC (0,B,C,D)) 179;have S:=hid (Rd.of_blk (u.blk 0 rfl));have T:=hid (u.pick 3 [2,1]);clear f u E r;go_wp2_with (at_builtin; refine Za rfl _ _ 139 rfl 179 Z (.agg #[.int .i64 0,.int .i64 0,.int .i64 0,.int .i64 0]) 4 32 Tryz.underlying139 hj g j k rfl (by decide) _ R.length (Zd R) rfl T.out (some ⟨_,0,none⟩) 1 1 (wdC (0,B,C,D)) rfl rfl S.out (ZR _) (by unfold maxLen; omega) (by omega) ?_)
    intro v4 w4 H5 _;rw [<- Q.out] at H5;have t1:=H5.cell 1 rfl 1;simp only [List.getElem?_cons_succ,List.getElem?_cons_zero] at t1;have hF:=Tp (y:Int) H5 (fun w0 w h=>HT.out w0 w (h.pick 2 []));rw [a2.out,Q.out] at hF;have HF:=hid hF;clear hF T S H5 G p1 N;go_wp2_with fail
    refine HF.out.mono ?_;rintro _ w5 ⟨rfl,H6⟩;have H7:=H6.newBk (wdC (1,J,K,M)) 179;have U:=hid (Rd.of_blk (H7.blk 0 rfl));have W:=hid (H7.pick 3 [1]);clear H6 H7 HF t1;go_wp2_with (at_builtin; refine Za rfl _ _ 139 rfl 179 Z (.agg #[.int .i64 0,.int .i64 0,.int .i64 0,.int .i64 0]) 4 32 Tryz.underlying139 hj g j k rfl (by decide) _ (R.length+1) (Zd R++wdC (0,B,C,D)) rfl W.out (some ⟨_,0,none⟩) 1 1 (wdC (1,J,K,M)) rfl rfl U.out (ZR _) (by unfold maxLen; omega) (by omega) ?_)
    intro v8 w8 H8 _;clear W U;go_wp2_with fail
    go_roundw
    case rel =>
     refine⟨i+1,by go_num,by omega,?_⟩;rw [a1.out,List.length_append,Zw];show Sp w0 (Row 179 4 v8 (R.length+2) (Zd R++Zd [(0,B,C,D),(1,J,K,M)])::L) w8;rw [show Zd [((0,B,C,D):PD.Wd),(1,J,K,M)]=wdC (0,B,C,D)++wdC (1,J,K,M) by simp [Zd]];exact H8
    case measure=>first | (simp [intOf]; omega) | simp [intOf]
  ·have k1:¬ (i:Int)<(n:Int):=by omega
   have X:PD.words Y=R++[(0,256,0,0)]:=by
    unfold PD.words;rw [<- F,List.take_of_length_le (by rw [<- HN.out]; omega)]
   have m:=hid X;have f:=l.newBk (wdC (0,256,0,0)) 179;have b:=hid (Rd.of_blk (f.blk 0 rfl));have d:=hid (f.pick 2 [1]);clear l f F X;go_wp2_with (at_builtin; refine Za rfl _ _ 139 rfl 179 Z (.agg #[.int .i64 0,.int .i64 0,.int .i64 0,.int .i64 0]) 4 32 Tryz.underlying139 hj g j k rfl (by decide) _ R.length (Zd R) rfl d.out (some ⟨_,0,none⟩) 1 1 (wdC (0,256,0,0)) rfl rfl b.out (ZR _) (by unfold maxLen; omega) (by omega) ?_)
   intro v4 w4 u _;clear d b;go_wp2_with fail
   go_ret;refine⟨_,rfl,?_⟩;rw [m.out,List.length_append,Zw];show Sp w0 (Row 179 4 v4 (R.length+1) (Zd R++Zd [(0,256,0,0)])::L) w4;rw [show Zd [((0,256,0,0):PD.Wd)]=wdC (0,256,0,0) from List.append_nil _];exact u
end Go.Proofs.YtnjpnmpemhldcaaGreatDoor

