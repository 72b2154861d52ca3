/- A pack. -/
import Derived.Test.YteajimobgkempaaGreatDoorPk21
import Derived.Test.YteajimobgkempaaGreatDoorPk28
set_option linter.all false
set_option maxRecDepth 100000
set_option maxHeartbeats 8000000
namespace Go.Proofs.YteajimobgkempaaGreatDoor
variable {w0 w:World} {L:List Pr}
open Go.RowKit Go.MapKept
theorem infoRS:(Tryz.prog.info? 57).map (fun i=>(i.zero,i.size,i.bytes))=some (some (.agg #[.int .i64 0,.int .i64 0,.int .u8 0]),3,24):=by kernel_rfl
theorem Tr (l:Nat) (d:Int) (A0:Option Addr) (c:Nat) (B:List UInt8) (H:Sp w0 L w) (hl:l=B.length) (hb:Ent L (fun w=>Byt w (.slice A0 l c) B)) (hlm:l<=100000) :
  Calls Tryz.prog 71 #[.slice A0 l c,.int .i64 d] w fun e w'=>∃v,e=.returned (.tuple #[v,.int .i64 (cutE d)])/\Sp w0 (Row 57 3 v (cutL B d).length (stsV (cutL B d))::L) w':=by
 obtain⟨i0,hi,I,J,K⟩:=info_parts infoRS;have M:=hid hl;have HB:=hid hb;clear hl hb;unfold cutE cutL;by_cases h1:d<1
 ·rw [if_neg (by omega),if_neg (by omega)];have k1:decide (d<1)=true:=decide_eq_true h1;go_enter Tryz.func71,Tryz.ntmps71
  go_wp2;go_ret2;exact⟨_,rfl,H.rowNil _ _⟩
 ·have k1:decide (d<1)=false:=decide_eq_false h1;by_cases h2:32768<d
  ·rw [if_neg (by omega),if_neg (by omega)];have k2:decide (32768<d)=true:=decide_eq_true h2;go_enter Tryz.func71,Tryz.ntmps71
   go_wp2;go_ret2;exact⟨_,rfl,H.rowNil _ _⟩
  ·rw [if_pos (by omega),if_pos (by omega)];have k2:decide (32768<d)=false:=decide_eq_false h2;obtain⟨D0,R⟩:=exq d.toNat;rw [R];go_enter Tryz.func71,Tryz.ntmps71
   go_wp2_with fail
   go_loopw [6,7] (fun lv iv wr=>∃(q:Nat) (V:Option Addr) (cV:Nat) (D:List PM.St),iv=.int .i64 q/\lv=.slice V D.length cV/\q<=l/\D.length<=q/\D++PM.cutAt B D0 q=PM.Cut B D0 /\
     Sp w0 (Row 57 3 (.slice V D.length cV) D.length (stsV D)::L) wr) (fun _ iv _=>l - (intOf iv).toNat)
   case atStart=>exact⟨0,none,0,[],rfl,rfl,Nat.zero_le _,Nat.le_refl _,(PM.Cut_at B D0).symm,H.rowNil _ _⟩
   case round =>
    obtain⟨q,V,cV,D,rfl,rfl,hq,a8,N,H⟩:=hrel;have r:=hid N;clear N;by_cases S:q<l
    ·have k3:(q:Int)<(l:Int):=by omega
     obtain⟨ad,rfl⟩:∃ad,A0=some ad:=by
      obtain⟨_,_,e,hr,_,_⟩:=HB.out _ _ (H.pick 1 []);obtain⟨ad,e2,_⟩:=hr.at8 (k:=q) (by rw [<- M.out]; omega);injection e with e
      exact⟨ad,e.trans e2⟩
     obtain⟨bx,T⟩:∃bx:UInt8,B.getD q 0=bx:=⟨_,rfl⟩;have z:Ent L (fun w=>w.cell? (ad.add q)=some (.int .u8 bx.toNat)):=HB.out.mono fun w' hw=>by
      obtain⟨_,_,e,hr,_,_⟩:=hw;have a0:q<B.length:=by rw [<- M.out]; exact S
      obtain⟨a9,e2,hc⟩:=hr.at8 a0;injection e with e
      rw [<- e] at e2;injection e2 with e2
      rw [e2,hc,<- T,List.getD_eq_getElem?_getD,List.getElem?_eq_getElem a0];rfl
     have a4:=hid z;have a5:=hid T;clear z T;obtain⟨a,A⟩:=exq ((PM.best B q D0).1);obtain⟨m,U⟩:=exq ((PM.best B q D0).2);obtain⟨c1,a1⟩:=exq ((PM.best B (q+1) D0).1);obtain⟨t,a2⟩:=exq ((PM.best B (q+1) D0).2);have b0:a<=l - q:=by
      rcases PM.best_is B q D0 with h0 | ⟨far,h1,h2,h3,h4,h5,h6⟩
      ·rw [<- A,h0]; exact Nat.zero_le _
      ·have:=PM.mlen_in (B:=B) (p:=q - far) (q:=q) (by omega);rw [<- A,h5,M.out];show PM.mlen B (q - far) q<=_;omega
     have u:=Wt l q d (some ad) c B H M.out (Ent.cons _ HB.out) hq (by omega);rw [R,A,U] at u;have C:=hid u;have W:=hid A;have a6:=hid U;have X:=hid a1;have a7:=hid a2;clear u A U a1 a2;have O:(a=0∨a<c1)->PM.cutAt B D0 q=(0,0,bx)::PM.cutAt B D0 (q+1):=fun h=>by
      rw [PM.cutAt_lit B D0 q (by rw [<- M.out]; exact S) (by rw [W.out,X.out]; exact h),a5.out]
     have E:¬ (a=0∨a<c1)->PM.cutAt B D0 q=(a,m,0)::PM.cutAt B D0 (q+a):=fun h=>by
      rw [PM.cutAt_copy B D0 q (by rw [<- M.out]; exact S) (by rw [W.out,X.out]; exact h),W.out,a6.out]
     have P:=hid O;have F:=hid E;clear O E;go_wp2_with fail
     refine C.out.mono ?_;rintro _ w2 ⟨rfl,H2⟩;unfold stV;clear C;go_wp2_with fail
     have Y:=H2.newBk [.int .i64 a,.int .i64 m,.int .u8 0] 57;generalize w2.heap.size=s at Y ⊢;generalize w2.alloc _=w3 at Y ⊢;clear H2 w2;have n:=Wt l (q+1) d (some ad) c B Y M.out (Ent.pick 2 [] HB.out) (by omega) (by omega);have a3:((q+1:Nat):Int)=(q:Int)+1:=by omega
     rw [a3,R,X.out,a7.out] at n;refine n.mono ?_;rintro _ w4 ⟨rfl,Q⟩;unfold stV;have t0:∀o,(w4.alloc o).cell? ⟨s,0,none⟩=some (.int .i64 a):=fun o=>(Q.alloc o).cell 0 rfl 0;have t1:∀o,(w4.alloc o).cell? ⟨s,1,none⟩=some (.int .i64 m):=fun o=>(Q.alloc o).cell 0 rfl 1;have t2:∀o,(w4.alloc o).cell? ⟨s,2,none⟩=some (.int .u8 0):=fun o=>(Q.alloc o).cell 0 rfl 2;have ce:∀o,(w4.alloc o).cell? (ad.add q)=some (.int .u8 bx.toNat):=fun o=>a4.out _ _ ((Q.alloc o).pick 2 []);clear n a3;by_cases h0:0<a
     ·by_cases b3:a<c1
      ·have e3:0<c1:=by omega
       have b:(w4.alloc (.cells #[.int .i64 c1,.int .i64 t,.int .u8 0] 57)).heap.size=w4.heap.size+1:=Array.size_push _;have f:Rd ((w4.alloc (.cells #[.int .i64 c1,.int .i64 t,.int .u8 0] 57)).alloc (.cells #[.int .i64 0,.int .i64 0,.int .u8 bx.toNat] 57)) (some ⟨w4.heap.size+1,0,none⟩) (stCells (0,0,bx)):=by
        have:=Rd.of_blk (Blk.new (w4.alloc (.cells #[.int .i64 c1,.int .i64 t,.int .u8 0] 57)) 57 [.int .i64 0,.int .i64 0,.int .u8 bx.toNat])
        rwa [b] at this
       have g:=hid f;have G:=((Q.alloc (.cells #[.int .i64 c1,.int .i64 t,.int .u8 0] 57)).alloc (.cells #[.int .i64 0,.int .i64 0,.int .u8 bx.toNat] 57)).swap;have i:=hid G;have j:=P.out (by omega);have x:=hid j;clear f G b j;go_wp2_with (at_builtin; refine wpList_append_sp rfl _ _ 30 rfl 57 i0 (.agg #[.int .i64 0,.int .i64 0,.int .u8 0]) 3 24 Tryz.underlying30 hi I J K rfl (by decide) (.slice V D.length cV) D.length (stsV D) rfl i.out (some ⟨w4.heap.size+1,0,none⟩) 1 1 (stCells (0,0,bx)) rfl rfl g.out (Yn _) (by unfold maxLen; omega) (by omega) ?_)
       intro v5 Z y _;clear i g;obtain⟨V5,c5,rfl,_,_⟩:=Row.form y 0 rfl;have y0:Z.cell? ⟨s,0,none⟩=some (.int .i64 a):=y.cell 1 rfl 0;go_wp2_with fail
       go_roundw
       case rel =>
        refine⟨q+1,V5,c5,D++[(0,0,bx)],by go_num,by rw [List.length_append]; rfl,by omega,by rw [List.length_append]; show D.length+1<=_; omega,?_,?_⟩
        ·rw [<- r.out,x.out,List.append_assoc];rfl
        ·rw [List.length_append,Zq,show stsV [(0,0,bx)]=stCells (0,0,bx)++[] from rfl,List.append_nil];exact y.pick 2 [0]
       case measure=>first | (simp [intOf]; omega) | simp [intOf]
      ·by_cases b4:0<c1
       ·have b:(w4.alloc (.cells #[.int .i64 c1,.int .i64 t,.int .u8 0] 57)).heap.size=w4.heap.size+1:=Array.size_push _;have f:Rd ((w4.alloc (.cells #[.int .i64 c1,.int .i64 t,.int .u8 0] 57)).alloc (.cells #[.int .i64 a,.int .i64 m,.int .u8 0] 57)) (some ⟨w4.heap.size+1,0,none⟩) (stCells (a,m,0)):=by
         have:=Rd.of_blk (Blk.new (w4.alloc (.cells #[.int .i64 c1,.int .i64 t,.int .u8 0] 57)) 57 [.int .i64 a,.int .i64 m,.int .u8 0])
         rwa [b] at this
        have g:=hid f;have G:=((Q.alloc (.cells #[.int .i64 c1,.int .i64 t,.int .u8 0] 57)).alloc (.cells #[.int .i64 a,.int .i64 m,.int .u8 0] 57)).swap;have i:=hid G;have j:=F.out (by omega);have x:=hid j;clear f G b j;go_wp2_with (at_builtin; refine wpList_append_sp rfl _ _ 30 rfl 57 i0 (.agg #[.int .i64 0,.int .i64 0,.int .u8 0]) 3 24 Tryz.underlying30 hi I J K rfl (by decide) (.slice V D.length cV) D.length (stsV D) rfl i.out (some ⟨w4.heap.size+1,0,none⟩) 1 1 (stCells (a,m,0)) rfl rfl g.out (Yn _) (by unfold maxLen; omega) (by omega) ?_)
        intro v5 Z y _;clear i g;obtain⟨V5,c5,rfl,_,_⟩:=Row.form y 0 rfl;have y0:Z.cell? ⟨s,0,none⟩=some (.int .i64 a):=y.cell 1 rfl 0;go_wp2_with fail
        go_roundw
        case rel =>
         refine⟨q+a,V5,c5,D++[(a,m,0)],by go_num,by rw [List.length_append]; rfl,by omega,by rw [List.length_append]; show D.length+1<=_; omega,?_,?_⟩
         ·rw [<- r.out,x.out,List.append_assoc];rfl
         ·rw [List.length_append,Zq,show stsV [(a,m,0)]=stCells (a,m,0)++[] from rfl,List.append_nil];exact y.pick 2 [0]
        case measure=>first | (simp [intOf]; omega) | simp [intOf]
       ·have b:(w4.alloc (.cells #[.int .i64 c1,.int .i64 t,.int .u8 0] 57)).heap.size=w4.heap.size+1:=Array.size_push _;have f:Rd ((w4.alloc (.cells #[.int .i64 c1,.int .i64 t,.int .u8 0] 57)).alloc (.cells #[.int .i64 a,.int .i64 m,.int .u8 0] 57)) (some ⟨w4.heap.size+1,0,none⟩) (stCells (a,m,0)):=by
         have:=Rd.of_blk (Blk.new (w4.alloc (.cells #[.int .i64 c1,.int .i64 t,.int .u8 0] 57)) 57 [.int .i64 a,.int .i64 m,.int .u8 0])
         rwa [b] at this
        have g:=hid f;have G:=((Q.alloc (.cells #[.int .i64 c1,.int .i64 t,.int .u8 0] 57)).alloc (.cells #[.int .i64 a,.int .i64 m,.int .u8 0] 57)).swap;have i:=hid G;have j:=F.out (by omega);have x:=hid j;clear f G b j;go_wp2_with (at_builtin; refine wpList_append_sp rfl _ _ 30 rfl 57 i0 (.agg #[.int .i64 0,.int .i64 0,.int .u8 0]) 3 24 Tryz.underlying30 hi I J K rfl (by decide) (.slice V D.length cV) D.length (stsV D) rfl i.out (some ⟨w4.heap.size+1,0,none⟩) 1 1 (stCells (a,m,0)) rfl rfl g.out (Yn _) (by unfold maxLen; omega) (by omega) ?_)
        intro v5 Z y _;clear i g;obtain⟨V5,c5,rfl,_,_⟩:=Row.form y 0 rfl;have y0:Z.cell? ⟨s,0,none⟩=some (.int .i64 a):=y.cell 1 rfl 0;go_wp2_with fail
        go_roundw
        case rel =>
         refine⟨q+a,V5,c5,D++[(a,m,0)],by go_num,by rw [List.length_append]; rfl,by omega,by rw [List.length_append]; show D.length+1<=_; omega,?_,?_⟩
         ·rw [<- r.out,x.out,List.append_assoc];rfl
         ·rw [List.length_append,Zq,show stsV [(a,m,0)]=stCells (a,m,0)++[] from rfl,List.append_nil];exact y.pick 2 [0]
        case measure=>first | (simp [intOf]; omega) | simp [intOf]
     ·have b:(w4.alloc (.cells #[.int .i64 c1,.int .i64 t,.int .u8 0] 57)).heap.size=w4.heap.size+1:=Array.size_push _;have f:Rd ((w4.alloc (.cells #[.int .i64 c1,.int .i64 t,.int .u8 0] 57)).alloc (.cells #[.int .i64 0,.int .i64 0,.int .u8 bx.toNat] 57)) (some ⟨w4.heap.size+1,0,none⟩) (stCells (0,0,bx)):=by
       have:=Rd.of_blk (Blk.new (w4.alloc (.cells #[.int .i64 c1,.int .i64 t,.int .u8 0] 57)) 57 [.int .i64 0,.int .i64 0,.int .u8 bx.toNat])
       rwa [b] at this
      have g:=hid f;have G:=((Q.alloc (.cells #[.int .i64 c1,.int .i64 t,.int .u8 0] 57)).alloc (.cells #[.int .i64 0,.int .i64 0,.int .u8 bx.toNat] 57)).swap;have i:=hid G;have j:=P.out (by omega);have x:=hid j;clear f G b j;go_wp2_with (at_builtin; refine wpList_append_sp rfl _ _ 30 rfl 57 i0 (.agg #[.int .i64 0,.int .i64 0,.int .u8 0]) 3 24 Tryz.underlying30 hi I J K rfl (by decide) (.slice V D.length cV) D.length (stsV D) rfl i.out (some ⟨w4.heap.size+1,0,none⟩) 1 1 (stCells (0,0,bx)) rfl rfl g.out (Yn _) (by unfold maxLen; omega) (by omega) ?_)
      intro v5 Z y _;clear i g;obtain⟨V5,c5,rfl,_,_⟩:=Row.form y 0 rfl;have y0:Z.cell? ⟨s,0,none⟩=some (.int .i64 a):=y.cell 1 rfl 0;go_wp2_with fail
      go_roundw
      case rel =>
       refine⟨q+1,V5,c5,D++[(0,0,bx)],by go_num,by rw [List.length_append]; rfl,by omega,by rw [List.length_append]; show D.length+1<=_; omega,?_,?_⟩
       ·rw [<- r.out,x.out,List.append_assoc];rfl
       ·rw [List.length_append,Zq,show stsV [(0,0,bx)]=stCells (0,0,bx)++[] from rfl,List.append_nil];exact y.pick 2 [0]
      case measure=>first | (simp [intOf]; omega) | simp [intOf]
    ·have k3:¬ (q:Int)<(l:Int):=by omega
     go_wp2_with fail
     go_ret2;refine⟨_,rfl,?_⟩;have e:D=PM.Cut B D0:=by
      rw [<- r.out,PM.cutAt_end B D0 q (by rw [<- M.out]; omega),List.append_nil]
     rw [<- e];exact H
open Go.RowKit Go.MapKept
theorem Ts (X:List PM.St) (i:Nat) (h:i<X.length):(stsV X)[i * 3]?=some (.int .i64 (X[i].1:Int))/\(stsV X)[i * 3+1]?=some (.int .i64 (X[i].2.1:Int))/\(stsV X)[i * 3+2]?=some (.int .u8 (X[i].2.2.toNat:Int)):=by
 induction X generalizing i with
 | nil=>exact absurd h (Nat.not_lt_zero _)
 | cons x X ih =>
  have e:stsV (x::X)=stCells x++stsV X:=rfl;rw [e];cases i with
  | zero=>exact⟨rfl,rfl,rfl⟩
  | succ i =>
   have a:(stCells x).length=3:=rfl;have:=ih i (by simpa using h);rw [List.getElem?_append_right (by rw [a]; omega),List.getElem?_append_right (by rw [a]; omega),List.getElem?_append_right (by rw [a]; omega),a,show(i+1) * 3 - 3=i * 3 by omega,show(i+1) * 3+1 - 3=i * 3+1 by omega,show(i+1) * 3+2 - 3=i * 3+2 by omega];simpa using this
def StAt (w:World) (V:Option Addr) (X:List PM.St):Prop:=∀(i:Nat) (h:i<X.length),∃ad,V=some ad/\w.cell? (ad.add (i * 3))=some (.int .i64 (X[i].1:Int)) /\
 w.cell? ⟨(ad.add (i * 3)).block,(ad.add (i * 3)).off+1,none⟩=some (.int .i64 (X[i].2.1:Int))/\w.cell? ⟨(ad.add (i * 3)).block,(ad.add (i * 3)).off+2,none⟩=some (.int .u8 (X[i].2.2.toNat:Int))
theorem StAt.of_rd {w:World} {V:Option Addr} {X:List PM.St} (h:Rd w V (stsV X)):StAt w V X:=fun i hi=>by
 obtain⟨a,e,b⟩:=h (by
  have:=XV X;intro c;rw [c] at this;simp only [List.length_nil] at this;omega)
 obtain⟨d,f,g⟩:=Ts X i hi;refine⟨a,e,b _ _ d,?_,?_⟩
 ·rw [Zv a (i * 3) 1 (by omega)]; exact b _ _ f
 ·rw [Zv a (i * 3) 2 (by omega)]; exact b _ _ g
theorem Sp.stAt (H:Sp w0 L w) (k:Nat) {e:TypeId} {n c:Nat} {V:Option Addr} {X:List PM.St} (hk:L[k]?=some (Row e 3 (.slice V n c) n (stsV X))):StAt w V X:=by
 obtain⟨A,b,e,a,_⟩:=H.row_rd k hk;injection e with e
 subst e;exact .of_rd a
open Go.RowKit Go.MapKept
abbrev StI:=Int × Int × UInt8
def toI (s:PM.St):StI:=((s.1:Int),(s.2.1:Int),s.2.2)
def madeI (s:StI):Int:=max s.1 1
def sizeI:List StI->Int
 | []=>0
 | s::l=>madeI s+sizeI l
theorem VK (X:List PM.St):sizeI (X.map toI)=(PM.size X:Int):=by
 induction X with
 | nil=>rfl
 | cons s X ih =>
  show madeI (toI s)+sizeI (X.map toI)=((PM.made s+PM.size X:Nat):Int);rw [ih];show max (s.1:Int) 1+(PM.size X:Int)=((max s.1 1+PM.size X:Nat):Int);omega
def T1 (w:World) (V:Option Addr) (X:List StI):Prop:=∀(i:Nat) (h:i<X.length),∃ad,V=some ad/\w.cell? (ad.add (i * 3))=some (.int .i64 X[i].1) /\
 w.cell? ⟨(ad.add (i * 3)).block,(ad.add (i * 3)).off+1,none⟩=some (.int .i64 X[i].2.1)/\w.cell? ⟨(ad.add (i * 3)).block,(ad.add (i * 3)).off+2,none⟩=some (.int .u8 (X[i].2.2.toNat:Int))
theorem StAt.toI {w:World} {V:Option Addr} {X:List PM.St} (h:StAt w V X):T1 w V (X.map toI):=fun i hi=>by
 rw [List.length_map] at hi;obtain⟨a,e,b,c,d⟩:=h i hi;refine⟨a,e,?_,?_,?_⟩
 ·rw [b,List.getElem_map]; rfl
 ·rw [c,List.getElem_map]; rfl
 ·rw [d,List.getElem_map]; rfl
theorem Uy (x y:Int) (z:Int) (w:World) :
  Calls Tryz.prog 77 #[.agg #[.int .i64 x,.int .i64 y,.int .u8 z]] w fun e w'=>e=.returned (.int .i64 (max x 1))/\Keep w w':=by
 obtain⟨m,a⟩:∃m:Int,max x 1=m:=⟨_,rfl⟩;rw [a];go_enter Tryz.func77,Tryz.ntmps77
 go_wp2;all_goals (go_ret; exact⟨Z1 (by omega),Keep.alloc _ _⟩)
open Go.RowKit Go.MapKept
theorem WP {X:List StI} {i:Nat} (h:i<X.length):sizeI (X.drop i)=madeI X[i]+sizeI (X.drop (i+1)):=by
 rw [List.drop_eq_getElem_cons h]; rfl
theorem Tt (V:Option Addr) (n c:Nat) (X:List StI) (H:Sp w0 L w) (hn:n=X.length) (hnm:n<=1000000) (hb:∀s ∈ X,s.1<=1000000) (h:Ent L (fun w=>T1 w V X)) :
  Calls Tryz.prog 47 #[.slice V n c] w fun e w'=>e=.returned (.int .i64 (sizeI X))/\Sp w0 L w':=by
 have t:=hid hn;have A:=hid h;clear hn h;go_enter Tryz.func47,Tryz.ntmps47
 go_wp2_with fail
 go_loopw [3,8] (fun av iv wr=>∃(i:Nat) (a:Int),av=.int .i64 a/\iv=.int .i64 i/\i<=n/\0<=a/\a<=1000000 * (i:Int)/\sizeI X=a+sizeI (X.drop i)/\Sp w0 L wr) (fun _ iv _=>n - (intOf iv).toNat)
 case atStart=>exact⟨0,0,rfl,rfl,Nat.zero_le _,by omega,by omega,by rw [Int.zero_add]; rfl,H⟩
 case round =>
  obtain⟨i,a,rfl,rfl,N,B,C,u,H⟩:=hrel;have v:=hid u;clear u;by_cases o:i<n
  ·have D:(i:Int)<(n:Int):=by omega
   have d:i<X.length:=by rw [<- t.out]; exact o
   obtain⟨O,rfl,E,F,G⟩:=A.out _ _ H i d;have b:=WP d;have f:=hb _ (List.getElem_mem d);obtain⟨x,p⟩:=exq (X[i].1);obtain⟨y,q⟩:=exq (X[i].2.1);obtain⟨z,r⟩:=exq (X[i].2.2);have k:X[i]=(x,y,z):=by rw [<- p,<- q,<- r]
   rw [p] at E;rw [q] at F;rw [r] at G;rw [k] at b f;replace f:x<=1000000:=f;obtain⟨m,g⟩:=exq (max x 1);have l:madeI (x,y,z)=m:=g;rw [l] at b;have I:1<=m:=by omega
   have J:m<=1000000:=by omega
   have j:=hid b;clear b p q r k l;go_wp2_with fail
   refine(Uy x y (z.toNat:Int) _).mono ?_;rintro _ P ⟨rfl,K⟩;have M:=K.sep (H.newBk [.int .i64 x,.int .i64 y,.int .u8 z.toNat] 54);rw [g];clear g;go_wp2_with fail
   go_roundw
   case rel=>exact⟨i+1,a+m,by go_num,by go_num,by omega,by omega,by omega,by rw [v.out,j.out]; omega,M.tail⟩
   case measure=>first | (simp [intOf]; omega) | simp [intOf]
  ·have D:¬ (i:Int)<(n:Int):=by omega
   go_wp2_with fail
   go_ret;refine⟨Z1 ?_,H⟩;rw [v.out,List.drop_eq_nil_of_le (by rw [<- t.out]; omega)];show a=a+0;omega
open Go.RowKit Go.MapKept
namespace PM
theorem size_append (a b:List St):size (a++b)=size a+size b:=by
 induction a with
 | nil=>exact(Nat.zero_add _).symm
 | cons s a ih=>show made s+size (a++b)=made s+size a+size b; rw [ih,Nat.add_assoc]
end PM
open Go.RowKit
theorem Yv (w:World) (o:Obj):(w.alloc o).heap.size=w.heap.size+1:=by simp
def wdC (t:PD.Wd):List Value:=[.int .i64 t.1,.int .i64 t.2.1,.int .i64 t.2.2.1,.int .i64 t.2.2.2]
def Ze (l:List PD.Wd):List Value:=l.flatMap wdC
theorem ZC (a b:List PD.Wd):Ze (a++b)=Ze a++Ze b:=by simp [Ze]
theorem WQ (l:List PD.Wd):(Ze l).length=l.length * 4:=by
 induction l with
 | nil=>rfl
 | cons t l ih=>show(wdC t++Ze l).length=_; rw [List.length_append,ih,List.length_cons]; show 4+_=_; omega
theorem ZY (t:PD.Wd):∀u ∈ wdC t,u.oneCell'=true:=by
 intro u a;simp only [wdC,List.mem_cons,List.not_mem_nil,or_false] at a;rcases a with rfl | rfl | rfl | rfl <;> rfl
theorem infoT:(Tryz.prog.info? 139).map (fun i=>(i.zero,i.size,i.bytes))=some (some (.agg #[.int .i64 0,.int .i64 0,.int .i64 0,.int .i64 0]),4,32):=by kernel_rfl
namespace PD
theorem wds_take {Y:List PM.St} {i:Nat} (h:i<Y.length):wds (Y.take (i+1))=wds (Y.take i)++wd Y[i]:=by
 unfold wds;rw [List.take_succ_eq_append_getElem h,List.flatMap_append];simp
theorem wds_len (Y:List PM.St):(wds Y).length<=2 * Y.length:=by
 have:=words_len Y;unfold words at this;simp at this; omega
def StOk (s:PM.St):Prop:=s.1=0∨(3<=s.1/\s.1<=258/\1<=s.2.1/\s.2.1<=32768)
theorem mays_ok:∀(Y:List PM.St) (n:Nat),PM.mays Y n->∀s ∈ Y,StOk s:=by
 intro Y;induction Y with
 | nil=>intro n _ s a; cases a
 | cons t l ih =>
  intro n h s a;rcases List.mem_cons.1 a with rfl | a
  ·rcases h.1 with h1 | h1
   ·exact .inl h1.1
   ·exact .inr ⟨h1.1,h1.2.1,h1.2.2.1,h1.2.2.2.1⟩
  ·exact ih _ h.2 s a
end PD
theorem VL (V:Option Addr) (n c:Nat) (Y:List PM.St) {TL TF:Option Addr} {cl cf:Nat} (H:Sp w0 L w) (hT:Ent L (DTabs TL TF cl cf)) (hn:n=Y.length) (hnm:n<=1000000) (h:Ent L fun w=>StAt w V Y) (hY:∀s ∈ Y,PD.StOk s) :
  Calls Tryz.prog 54 #[.slice V n c] w fun e w'=>∃v,e=.returned v/\Sp w0 (Row 139 4 v (PD.words Y).length (Ze (PD.words Y))::L) w':=by
 obtain⟨Z,hj,g,j,k⟩:=info_parts infoT;have HN:=hid hn;have HX:=hid h;have HT:=hid hT;have HY:=hid hY;clear hn h hT hY;go_enter Tryz.func54,Tryz.ntmps54
 go_wp2_with fail
 go_loopw [3,14] (fun rv iv wr=>∃i:Nat,iv=.int .i64 i/\i<=n/\Sp w0 (Row 139 4 rv (PD.wds (Y.take i)).length (Ze (PD.wds (Y.take i)))::L) wr) (fun _ iv _=>n - (intOf iv).toNat)
 case atStart=>exact⟨0,rfl,Nat.zero_le _,H.rowNil _ _⟩
 case round =>
  obtain⟨i,rfl,hi,l⟩:=hrel;clear H;obtain⟨R,F⟩:=exq (PD.wds (Y.take i));have a4:R.length<=2 * i:=by
   rw [<- F];have:=PD.wds_len (Y.take i);rw [List.length_take] at this; omega
  rw [F] at l;obtain⟨VR,a5,rfl,_,_⟩:=Row.form l 0 rfl;by_cases a0:i<n
  ·have k1:(i:Int)<(n:Int):=by omega
   have o:i<Y.length:=by rw [<- HN.out]; exact a0
   obtain⟨ad,rfl,G,p1,N⟩:=HX.out _ _ l.tail i o;have hw:=PD.wds_take o;rw [F] at hw;have O:=HY.out _ (List.getElem_mem o);obtain⟨⟨x,y,z⟩,hs⟩:∃s,Y[i]=s:=⟨_,rfl⟩;rw [hs] at G p1 N hw O;simp only at G p1 N;have m:=hid hw;have P:=l.newBk [.int .i64 x,.int .i64 y,.int .u8 z.toNat] 54;have a:=hid P;clear hw F hs;by_cases hx:x=0
   ·subst hx;have m:Hid (PD.wds (Y.take (i+1))=R++[(0,z.toNat,0,0)]):=m;obtain⟨I,p⟩:=exq z.toNat;have a6:I<256:=by rw [<- p]; exact z.toNat_lt
    rw [p] at m N P a;replace G:wr.cell? (ad.add (i * 3))=some (.int .i64 0):=G;have f:=P.newBk (wdC (0,I,0,0)) 139;have q:=Rd.of_blk (f.blk 0 rfl);rw [Yv] at q;have b:=hid q;have d:=hid (f.pick 3 [2]);have r:=a.out.cell 0 rfl 0;have t2:=a.out.cell 0 rfl 2;simp only [List.getElem?_cons_zero,List.getElem?_cons_succ] at r t2;replace r:World.cell? _ ⟨wr.heap.size,0,none⟩=some (.int .i64 0):=r;clear l P f p q;go_wp2_with (at_builtin; refine wpList_append_sp rfl _ _ 95 rfl 139 Z (.agg #[.int .i64 0,.int .i64 0,.int .i64 0,.int .i64 0]) 4 32 Tryz.underlying95 hj g j k rfl (by decide) _ R.length (Ze R) rfl d.out (some ⟨_,0,none⟩) 1 1 (wdC (0,I,0,0)) rfl rfl b.out (ZY _) (by unfold maxLen; omega) (by omega) ?_)
    intro v4 w4 u _;clear d b a G p1 N r t2;go_wp2_with fail
    go_roundw
    case rel =>
     refine⟨i+1,by go_num,by omega,?_⟩;rw [m.out,List.length_append,ZC];show Sp w0 (Row 139 4 v4 (R.length+1) (Ze R++Ze [(0,I,0,0)])::L) w4;rw [show Ze [((0,I,0,0):PD.Wd)]=wdC (0,I,0,0) from List.append_nil _];exact u
    case measure=>first | (simp [intOf]; omega) | simp [intOf]
   ·have a3:3<=x/\x<=258/\1<=y/\y<=32768:=by
     rcases O with h | h
     ·exact absurd h hx
     ·exact h
    have A:PD.wd (x,y,z)=[(0,PD.longI (x:Int)),(1,PD.farI (y:Int))]:=by
     unfold PD.wd PD.longI PD.farI;rw [if_neg hx,if_pos (by omega),if_pos (by omega)]; rfl
    obtain⟨⟨B,C,D⟩,e1⟩:∃t,PD.longI (x:Int)=t:=⟨_,rfl⟩;obtain⟨⟨J,K,M⟩,e2⟩:∃t,PD.farI (y:Int)=t:=⟨_,rfl⟩;rw [e1,e2] at A;have a1:Hid (PD.wds (Y.take (i+1))=R++[(0,B,C,D),(1,J,K,M)]):=by rw [m.out,A]; exact hid rfl
    have a2:=hid e2;have hL:=Ut (x:Int) a.out (fun w0 w h=>HT.out w0 w (h.pick 2 []));rw [e1] at hL;have E:=hid hL;have k2:¬ (x:Int)=0:=by omega
    have r:=a.out.cell 0 rfl 0;simp only [List.getElem?_cons_zero] at r;generalize hst:Bk wr.heap.size _ _=ST at E;have Q:=hid hst;clear A e1 e2 hL m l P a hst;go_wp2_with fail
    refine E.out.mono ?_;rintro _ w3 ⟨rfl,f⟩;have u:=f.newBk (wdC (0,B,C,D)) 139;have S:=hid (Rd.of_blk (u.blk 0 rfl));have T:=hid (u.pick 3 [2,1]);clear f u E r;go_wp2_with (at_builtin; refine wpList_append_sp rfl _ _ 95 rfl 139 Z (.agg #[.int .i64 0,.int .i64 0,.int .i64 0,.int .i64 0]) 4 32 Tryz.underlying95 hj g j k rfl (by decide) _ R.length (Ze R) rfl T.out (some ⟨_,0,none⟩) 1 1 (wdC (0,B,C,D)) rfl rfl S.out (ZY _) (by unfold maxLen; omega) (by omega) ?_)
    intro v4 w4 H5 _;rw [<- Q.out] at H5;have t1:=H5.cell 1 rfl 1;simp only [List.getElem?_cons_succ,List.getElem?_cons_zero] at t1;have hF:=Tl (y:Int) H5 (fun w0 w h=>HT.out w0 w (h.pick 2 []));rw [a2.out,Q.out] at hF;have HF:=hid hF;clear hF T S H5 G p1 N;go_wp2_with fail
    refine HF.out.mono ?_;rintro _ w5 ⟨rfl,H6⟩;have H7:=H6.newBk (wdC (1,J,K,M)) 139;have U:=hid (Rd.of_blk (H7.blk 0 rfl));have W:=hid (H7.pick 3 [1]);clear H6 H7 HF t1;go_wp2_with (at_builtin; refine wpList_append_sp rfl _ _ 95 rfl 139 Z (.agg #[.int .i64 0,.int .i64 0,.int .i64 0,.int .i64 0]) 4 32 Tryz.underlying95 hj g j k rfl (by decide) _ (R.length+1) (Ze R++wdC (0,B,C,D)) rfl W.out (some ⟨_,0,none⟩) 1 1 (wdC (1,J,K,M)) rfl rfl U.out (ZY _) (by unfold maxLen; omega) (by omega) ?_)
    intro v8 w8 H8 _;clear W U;go_wp2_with fail
    go_roundw
    case rel =>
     refine⟨i+1,by go_num,by omega,?_⟩;rw [a1.out,List.length_append,ZC];show Sp w0 (Row 139 4 v8 (R.length+2) (Ze R++Ze [(0,B,C,D),(1,J,K,M)])::L) w8;rw [show Ze [((0,B,C,D):PD.Wd),(1,J,K,M)]=wdC (0,B,C,D)++wdC (1,J,K,M) by simp [Ze]];exact H8
    case measure=>first | (simp [intOf]; omega) | simp [intOf]
  ·have k1:¬ (i:Int)<(n:Int):=by omega
   have X:PD.words Y=R++[(0,256,0,0)]:=by
    unfold PD.words;rw [<- F,List.take_of_length_le (by rw [<- HN.out]; omega)]
   have m:=hid X;have f:=l.newBk (wdC (0,256,0,0)) 139;have b:=hid (Rd.of_blk (f.blk 0 rfl));have d:=hid (f.pick 2 [1]);clear l f F X;go_wp2_with (at_builtin; refine wpList_append_sp rfl _ _ 95 rfl 139 Z (.agg #[.int .i64 0,.int .i64 0,.int .i64 0,.int .i64 0]) 4 32 Tryz.underlying95 hj g j k rfl (by decide) _ R.length (Ze R) rfl d.out (some ⟨_,0,none⟩) 1 1 (wdC (0,256,0,0)) rfl rfl b.out (ZY _) (by unfold maxLen; omega) (by omega) ?_)
   intro v4 w4 u _;clear d b;go_wp2_with fail
   go_ret;refine⟨_,rfl,?_⟩;rw [m.out,List.length_append,ZC];show Sp w0 (Row 139 4 v4 (R.length+1) (Ze R++Ze [(0,256,0,0)])::L) w4;rw [show Ze [((0,256,0,0):PD.Wd)]=wdC (0,256,0,0) from List.append_nil _];exact u
theorem infoInt:(Tryz.prog.info? 3).map (fun i=>(i.zero,i.size,i.bytes))=some (some (.int .i64 0),1,8):=by kernel_rfl
theorem Zm (a b:List Nat):cellsN (a++b)=cellsN a++cellsN b:=by simp [cellsN]
theorem ZD {k:Nat} (hk:k<288):PI.fixedL.getD k 0=if 280<=k then 8 else if 256<=k then 7 else if 144<=k then 9 else 8:=by
 have:∀k,k<288->PI.fixedL.getD k 0=if 280<=k then 8 else if 256<=k then 7 else if 144<=k then 9 else 8:=by decide +kernel
 exact this k hk
theorem ZB:PI.fixedL.length=288:=by decide +kernel
theorem Zp {k v:Nat} (hk:k<288) (h:PI.fixedL.getD k 0=v):PI.fixedL.take (k+1)=PI.fixedL.take k++[v]:=by
 have a:k<PI.fixedL.length:=by rw [ZB]; exact hk
 rw [List.take_succ_eq_append_getElem a];rw [List.getD_eq_getElem?_getD,List.getElem?_eq_getElem a] at h;rw [show PI.fixedL[k]=v from h]
theorem YQ (H:Sp w0 L w) :
  Calls Tryz.prog 61 #[] w fun e w'=>∃v0 v1,e=.returned (.agg #[v0,v1])/\Sp w0 (Row 3 1 v0 288 (cellsN PI.fixedL)::Row 3 1 v1 32 (cellsN PI.fixedD)::L) w':=by
 obtain⟨C,D,p,q,r⟩:=info_parts infoInt;have N:=H.newBk [.slice none 0 0,.slice none 0 0] 98;have a:=N.newBk [.slice none 0 0,.slice none 0 0] 98;rw [Yv] at a;have l:=hid (a.rowNil 3 1);clear H N a;go_enter Tryz.func61,Tryz.ntmps61
 go_wp2_with fail
 generalize w.heap.size+1=g at l ⊢;generalize w.heap.size=g0 at l ⊢;go_loopw [4] (fun kv wr=>∃(k:Nat) (v:Value),kv=.int .i64 k/\k<=288/\Sp w0 (Row 3 1 v k (cellsN (PI.fixedL.take k))::Bk g 98 [v,.slice none 0 0]::Bk g0 98 [.slice none 0 0,.slice none 0 0]::L) wr) (fun kv _=>288 - (intOf kv).toNat)
 case atStart=>exact⟨0,_,rfl,Nat.zero_le _,l.out⟩
 case round =>
  obtain⟨k,v,rfl,t,a⟩:=hrel;clear l;obtain⟨G,I,rfl,_,_⟩:=Row.form a 0 rfl;by_cases A:k<288
  ·have J:(k:Int)<288:=by omega
   have t:=A;by_cases o:280<=k
   ·have S:(k:Int)≥280:=by omega
    have B:Hid (PI.fixedL.take (k+1)=PI.fixedL.take k++[8]):=hid (Zp t (by rw [ZD t]; simp only [if_pos o]));have m:=a.newBk [.int .i64 8] 3;have b:=hid (Rd.of_blk (m.blk 0 rfl));have c:=hid (m.pick 4 [1,2,3]);have n:=a.cell 1 rfl 0;have z0:=a.frozen 1 rfl 0;simp only [List.getElem?_cons_zero] at n;clear a m;go_wp2_with (at_builtin; refine wpList_append_sp rfl _ _ 97 rfl 3 C (.int .i64 0) 1 8 Tryz.underlying97 D p q r rfl (by decide) _ k (cellsN (PI.fixedL.take k)) rfl c.out (some ⟨_,0,none⟩) 1 1 [.int .i64 8] rfl rfl b.out (by intro u x; rw [List.mem_singleton.1 x]; rfl) (by unfold maxLen; omega) (by omega) ?_)
    intro K w4 d _;obtain⟨f,i,rfl,_,_⟩:=Row.form d 0 rfl;have y:=d.cell 1 rfl 0;have M:=d.frozen 1 rfl 0;simp only [List.getElem?_cons_zero] at y;have l:=hid (d.swap.set 0 (.slice f (k+1) i));clear c b n z0 d;go_wp2_with fail
    go_roundw
    case rel =>
     refine⟨k+1,.slice f (k+1) i,by go_num,by omega,?_⟩;have h:=l.out.swap;rw [B.out,Zm];exact h
    case measure=>first | (simp [intOf]; omega) | simp [intOf]
   ·have S:¬ (k:Int)≥280:=by omega
    by_cases s:256<=k
    ·have T:(k:Int)≥256:=by omega
     have B:Hid (PI.fixedL.take (k+1)=PI.fixedL.take k++[7]):=hid (Zp t (by rw [ZD t]; simp only [if_neg o,if_pos s]));have m:=a.newBk [.int .i64 7] 3;have b:=hid (Rd.of_blk (m.blk 0 rfl));have c:=hid (m.pick 4 [1,2,3]);have n:=a.cell 1 rfl 0;have z0:=a.frozen 1 rfl 0;simp only [List.getElem?_cons_zero] at n;clear a m;go_wp2_with (at_builtin; refine wpList_append_sp rfl _ _ 97 rfl 3 C (.int .i64 0) 1 8 Tryz.underlying97 D p q r rfl (by decide) _ k (cellsN (PI.fixedL.take k)) rfl c.out (some ⟨_,0,none⟩) 1 1 [.int .i64 7] rfl rfl b.out (by intro u x; rw [List.mem_singleton.1 x]; rfl) (by unfold maxLen; omega) (by omega) ?_)
     intro K w4 d _;obtain⟨f,i,rfl,_,_⟩:=Row.form d 0 rfl;have y:=d.cell 1 rfl 0;have M:=d.frozen 1 rfl 0;simp only [List.getElem?_cons_zero] at y;have l:=hid (d.swap.set 0 (.slice f (k+1) i));clear c b n z0 d;go_wp2_with fail
     go_roundw
     case rel =>
      refine⟨k+1,.slice f (k+1) i,by go_num,by omega,?_⟩;have h:=l.out.swap;rw [B.out,Zm];exact h
     case measure=>first | (simp [intOf]; omega) | simp [intOf]
    ·have T:¬ (k:Int)≥256:=by omega
     by_cases z:144<=k
     ·have U:(k:Int)≥144:=by omega
      have B:Hid (PI.fixedL.take (k+1)=PI.fixedL.take k++[9]):=hid (Zp t (by rw [ZD t]; simp only [if_neg o,if_neg s,if_pos z]));have m:=a.newBk [.int .i64 9] 3;have b:=hid (Rd.of_blk (m.blk 0 rfl));have c:=hid (m.pick 4 [1,2,3]);have n:=a.cell 1 rfl 0;have z0:=a.frozen 1 rfl 0;simp only [List.getElem?_cons_zero] at n;clear a m;go_wp2_with (at_builtin; refine wpList_append_sp rfl _ _ 97 rfl 3 C (.int .i64 0) 1 8 Tryz.underlying97 D p q r rfl (by decide) _ k (cellsN (PI.fixedL.take k)) rfl c.out (some ⟨_,0,none⟩) 1 1 [.int .i64 9] rfl rfl b.out (by intro u x; rw [List.mem_singleton.1 x]; rfl) (by unfold maxLen; omega) (by omega) ?_)
      intro K w4 d _;obtain⟨f,i,rfl,_,_⟩:=Row.form d 0 rfl;have y:=d.cell 1 rfl 0;have M:=d.frozen 1 rfl 0;simp only [List.getElem?_cons_zero] at y;have l:=hid (d.swap.set 0 (.slice f (k+1) i));clear c b n z0 d;go_wp2_with fail
      go_roundw
      case rel =>
       refine⟨k+1,.slice f (k+1) i,by go_num,by omega,?_⟩;have h:=l.out.swap;rw [B.out,Zm];exact h
      case measure=>first | (simp [intOf]; omega) | simp [intOf]
     ·have U:¬ (k:Int)≥144:=by omega
      have B:Hid (PI.fixedL.take (k+1)=PI.fixedL.take k++[8]):=hid (Zp t (by rw [ZD t]; simp only [if_neg o,if_neg s,if_neg z]));have m:=a.newBk [.int .i64 8] 3;have b:=hid (Rd.of_blk (m.blk 0 rfl));have c:=hid (m.pick 4 [1,2,3]);have n:=a.cell 1 rfl 0;have z0:=a.frozen 1 rfl 0;simp only [List.getElem?_cons_zero] at n;clear a m;go_wp2_with (at_builtin; refine wpList_append_sp rfl _ _ 97 rfl 3 C (.int .i64 0) 1 8 Tryz.underlying97 D p q r rfl (by decide) _ k (cellsN (PI.fixedL.take k)) rfl c.out (some ⟨_,0,none⟩) 1 1 [.int .i64 8] rfl rfl b.out (by intro u x; rw [List.mem_singleton.1 x]; rfl) (by unfold maxLen; omega) (by omega) ?_)
      intro K w4 d _;obtain⟨f,i,rfl,_,_⟩:=Row.form d 0 rfl;have y:=d.cell 1 rfl 0;have M:=d.frozen 1 rfl 0;simp only [List.getElem?_cons_zero] at y;have l:=hid (d.swap.set 0 (.slice f (k+1) i));clear c b n z0 d;go_wp2_with fail
      go_roundw
      case rel =>
       refine⟨k+1,.slice f (k+1) i,by go_num,by omega,?_⟩;have h:=l.out.swap;rw [B.out,Zm];exact h
      case measure=>first | (simp [intOf]; omega) | simp [intOf]
  ·have J:¬ (k:Int)<288:=by omega
   obtain rfl:k=288:=by omega
   rw [List.take_of_length_le (by rw [ZB]; exact Nat.le_refl _)] at a;have l:=hid (a.rowNil 3 1);clear a;go_wp2_with fail
   clear t A J;go_loopw [23] (fun jv wr=>∃(j:Nat) (u:Value),jv=.int .i64 j/\j<=32/\Sp w0 (Row 3 1 u j (cellsN (List.replicate j 5))::Row 3 1 (.slice G 288 I) 288 (cellsN PI.fixedL)::Bk g 98 [.slice G 288 I,u]::Bk g0 98 [.slice none 0 0,.slice none 0 0]::L) wr) (fun jv _=>32 - (intOf jv).toNat)
   case atStart=>exact⟨0,_,rfl,Nat.zero_le _,l.out⟩
   case round =>
    obtain⟨j,u,rfl,Y,a⟩:=hrel;clear l;obtain⟨O,P,rfl,_,_⟩:=Row.form a 0 rfl;by_cases A:j<32
    ·have J:(j:Int)<32:=by omega
     have m:=a.newBk [.int .i64 5] 3;have b:=hid (Rd.of_blk (m.blk 0 rfl));have c:=hid (m.pick 5 [1,2,3,4]);have n:=a.cell 2 rfl 1;have z0:=a.frozen 2 rfl 1;simp only [List.getElem?_cons_zero,List.getElem?_cons_succ] at n;clear a m;go_wp2_with (at_builtin; refine wpList_append_sp rfl _ _ 97 rfl 3 C (.int .i64 0) 1 8 Tryz.underlying97 D p q r rfl (by decide) _ j (cellsN (List.replicate j 5)) rfl c.out (some ⟨_,0,none⟩) 1 1 [.int .i64 5] rfl rfl b.out (by intro u x; rw [List.mem_singleton.1 x]; rfl) (by unfold maxLen; omega) (by omega) ?_)
     intro K w4 d _;obtain⟨E,F,rfl,_,_⟩:=Row.form d 0 rfl;have y:=d.cell 2 rfl 1;have M:=d.frozen 2 rfl 1;simp only [List.getElem?_cons_zero,List.getElem?_cons_succ] at y;have l:=hid ((d.pick 3 [2,0,1]).set 1 (.slice E (j+1) F));clear c b n z0 d;go_wp2_with fail
     go_roundw
     case rel =>
      refine⟨j+1,.slice E (j+1) F,by go_num,by omega,?_⟩;have h:=l.out.pick 3 [1,2,0];rw [List.replicate_succ',Zm];exact h
     case measure=>first | (simp [intOf]; omega) | simp [intOf]
    ·have J:¬ (j:Int)<32:=by omega
     obtain rfl:j=32:=by omega
     have n:=a.cell 2 rfl 0;have V:=a.cell 2 rfl 1;have W:=a.cell 3 rfl 0;have X:=a.cell 3 rfl 1;have z0:=a.frozen 3 rfl 0;have Z:=a.frozen 3 rfl 1;simp only [List.getElem?_cons_zero,List.getElem?_cons_succ] at n V W X;have l:=hid (((a.pick 4 [3,0,1,2]).set 0 (.slice G 288 I)).set 1 (.slice O 32 P));clear a;go_wp2_with fail
     have Q:=l.out.cell 0 rfl 0;have R:=l.out.cell 0 rfl 1;simp only [List.set_cons_zero,List.set_cons_succ,List.getElem?_cons_zero,List.getElem?_cons_succ] at Q R;exact bodyPost_ret (v:=.agg #[.slice G 288 I,.slice O 32 P]) (by simp [results,go_sem,Q,R]) rfl ⟨_,_,rfl,l.out.pick 4 [2,1]⟩
end Go.Proofs.YteajimobgkempaaGreatDoor

