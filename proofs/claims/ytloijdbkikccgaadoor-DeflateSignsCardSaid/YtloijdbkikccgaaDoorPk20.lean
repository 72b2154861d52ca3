/- A pack of texts: MatchS MatchT MatchR MatchD MatchE MatchX MatchY DefB DefC InfSg InfHd. -/
import Derived.Test.YtloijdbkikccgaaDoorPk03
import Derived.Test.YtloijdbkikccgaaDoorPk13
import Derived.Test.YtloijdbkikccgaaDoorPk14
import Derived.Test.YtloijdbkikccgaaDoorPk19
namespace Go.Proofs.YtloijdbkikccgaaDoor
open Go.RowKit Go.MapKept
def stCells (s:PM.St):List Value:=[.int .i64 (s.1:Int),.int .i64 (s.2.1:Int),.int .u8 (s.2.2.toNat:Int)]
def stsV (l:List PM.St):List Value:=l.flatMap stCells
theorem stsV_append (a b:List PM.St):stsV (a++b)=stsV a++stsV b:=by simp [stsV]
theorem stsV_length (l:List PM.St):(stsV l).length=l.length * 3:=by
 induction l with
 | nil=>rfl
 | cons s l ih =>
  show(stCells s++stsV l).length=_
  rw [List.length_append,ih,List.length_cons]
  show 3+_=_
  omega
theorem infoSM:(Tryd.prog.info? 150).map (fun i=>(i.zero,i.size,i.bytes))=some (some (.agg #[.int .i64 0,.int .i64 0,.int .u8 0]),3,24):=by kernel_rfl
theorem st_one (s:PM.St):∀u ∈ stCells s,u.oneCell'=true:=by
 intro u hu
 simp only [stCells,List.mem_cons,List.not_mem_nil,or_false] at hu
 rcases hu with rfl | rfl | rfl <;> rfl
set_option maxRecDepth 100000 in
set_option maxHeartbeats 4000000 in
theorem steps_ok (g l d:Nat) (A0:Option Addr) (c:Nat) (B:List UInt8) {w0 w:World} {L:List Pr} (H:Sp w0 (Fd g (.slice A0 l c) B (d:Int) 0::L) w) (hl:l=B.length) (hb:Ent L (fun w=>Byt w (.slice A0 l c) B)) (hlm:l<=1000000) :
  Calls Tryd.prog 48 #[.slice A0 l c,.func (.func 50) #[.pointer (some ⟨g,0,none⟩)] #[]] w (Ret fun v w'=>Sp w0 (Row 150 3 v (PM.Cut B d).length (stsV (PM.Cut B d))::L) w'):=by
 obtain⟨i0,hi,hz0,hz1,hz2⟩:=info_parts infoSM
 have HL:=Lib.hid hl
 have HB:=Lib.hid hb
 clear hl hb
 go_enter Tryd.func48,Tryd.ntmps48
 go_wp2
 go_loopw [5,6] (fun lv iv wr=>∃(q n:Nat) (V:Option Addr) (cV:Nat) (D:List PM.St),iv=.int .i64 (q:Int)/\lv=.slice V D.length cV/\q<=l/\n<=q/\D.length<=q/\D++PM.cutAt B d q=PM.Cut B d /\
   Sp w0 (Row 150 3 (.slice V D.length cV) D.length (stsV D)::Fd g (.slice A0 l c) B (d:Int) n::L) wr) (fun _ iv _=>l - (intOf iv).toNat)
 case atStart=>exact⟨0,0,none,0,[],rfl,rfl,Nat.zero_le _,Nat.le_refl _,Nat.le_refl _,(PM.Cut_at B d).symm,H.rowNil _ _⟩
 case round =>
  obtain⟨q,n,V,cV,D,rfl,rfl,hq,hn,hDq,hcut,H⟩:=hrel
  have HCUT:=Lib.hid hcut
  clear hcut
  by_cases hql:q<l
  ·have k1:decide ((q:Int)<(l:Int))=true:=decide_eq_true (by omega)
   obtain⟨ad,rfl⟩:∃ad,A0=some ad:=by
    obtain⟨_,_,e,hr,_,_⟩:=HB.out _ _ (H.pick 2 [])
    obtain⟨ad,e2,_⟩:=hr.at8 (k:=q) (by rw [<- HL.out]; omega)
    injection e with e
    exact⟨ad,e.trans e2⟩
   obtain⟨bx,hbx⟩:∃bx:UInt8,B.getD q 0=bx:=⟨_,rfl⟩
   have hcell:Ent L (fun w=>w.cell? (ad.add q)=some (.int .u8 (bx.toNat:Int))):=HB.out.mono fun w' hw=>by
    obtain⟨_,_,e,hr,_,_⟩:=hw
    have hqB:q<B.length:=by rw [<- HL.out]; exact hql
    obtain⟨ad2,e2,hc⟩:=hr.at8 hqB
    injection e with e
    rw [<- e] at e2
    injection e2 with e2
    rw [e2,hc,<- hbx,List.getD_eq_getElem?_getD,List.getElem?_eq_getElem hqB]
    rfl
   have HCE:=Lib.hid hcell
   have HBX:=Lib.hid hbx
   clear hcell hbx
   obtain⟨b1,hb1⟩:∃b1,(PM.best B q d).1=b1:=⟨_,rfl⟩
   obtain⟨b2,hb2⟩:∃b2,(PM.best B q d).2=b2:=⟨_,rfl⟩
   have hbl:b1<=l - q:=by
    rcases PM.best_is B q d with h0 | ⟨far,h1,h2,h3,h4,h5,h6⟩
    ·rw [<- hb1,h0]; exact Nat.zero_le _
    ·have:=PM.mlen_in (B:=B) (p:=q - far) (q:=q) (by omega)
     rw [<- hb1,h5,HL.out]
     show PM.mlen B (q - far) q<=_
     omega
   have HB1:=Lib.hid hb1
   have HB2:=Lib.hid hb2
   have hbest:=best_ok g q n l d (some ad) c B H.swap HL.out (Ent.cons _ HB.out) (by omega) (by omega) hn
   rw [hb1,hb2] at hbest
   have HBEST:=Lib.hid hbest
   clear hb1 hb2 hbest
   by_cases h0:b1=0
   ·have e0:decide (0<b1)=false:=decide_eq_false (by omega)
    rw [e0] at HBEST
    go_wp2_with fail
    refine HBEST.out.mono ?_
    rintro _ w2 ⟨n2,hn2,rfl,H2⟩
    unfold stV
    have ce:∀o,(w2.alloc o).cell? (ad.add q)=some (.int .u8 (bx.toNat:Int)):=fun o=>HCE.out _ _ ((H2.alloc o).pick 2 [])
    have hsz:(w2.alloc (.cells #[.int .i64 0,.int .i64 0,.int .u8 (bx.toNat:Int)] 150)).heap.size=w2.heap.size+1:=Array.size_push _
    have hr9:Rd ((w2.alloc (.cells #[.int .i64 0,.int .i64 0,.int .u8 (bx.toNat:Int)] 150)).alloc (.cells #[.int .i64 0,.int .i64 0,.int .u8 (bx.toNat:Int)] 150)) (some ⟨w2.heap.size+1,0,none⟩) (stCells (0,0,bx)):=by
     have:=Rd.of_blk (Blk.new (w2.alloc (.cells #[.int .i64 0,.int .i64 0,.int .u8 (bx.toNat:Int)] 150)) 150 [.int .i64 0,.int .i64 0,.int .u8 (bx.toNat:Int)])
     rwa [hsz] at this
    have HR9:=Lib.hid hr9
    have H9:=((H2.newBk [.int .i64 0,.int .i64 0,.int .u8 (bx.toNat:Int)] 150).pick 3 [2,0,1]).alloc (.cells #[.int .i64 0,.int .i64 0,.int .u8 (bx.toNat:Int)] 150)
    have HH9:=Lib.hid H9
    clear hr9 H9 hsz
    go_wp2_with (at_builtin; refine wpList_append_sp rfl _ _ 77 rfl 150 i0 (.agg #[.int .i64 0,.int .i64 0,.int .u8 0]) 3 24 Tryd.underlying77 hi hz0 hz1 hz2 rfl (by decide) (.slice V D.length cV) D.length (stsV D) rfl HH9.out (some ⟨w2.heap.size+1,0,none⟩) 1 1 (stCells (0,0,bx)) rfl rfl HR9.out (st_one _) (by unfold maxLen; omega) (by omega) ?_)
    intro v5 w5 H5 _
    clear HH9 HR9
    obtain⟨V5,c5,rfl,_,_⟩:=Row.form H5 0 rfl
    generalize w2.heap.size=s at H5 ⊢
    have t0:=H5.cell 1 rfl 0
    have t1:=H5.cell 1 rfl 1
    have t2:=H5.cell 1 rfl 2
    simp only [List.getElem?_cons_zero,List.getElem?_cons_succ] at t0 t1 t2
    clear ce
    go_wp2_with fail
    refine(made_ok (0,0,bx) _).mono ?_
    rintro _ w6 ⟨rfl,K6⟩
    have H6:=K6.sep H5
    have hmade:PM.made (0,0,bx)=1:=rfl
    rw [hmade]
    go_wp2
    go_roundw
    case rel =>
     refine⟨q+1,n2,V5,c5,D++[(0,0,bx)],by go_num,by rw [List.length_append]; rfl,by omega,by omega,by rw [List.length_append]; show D.length+1<=_; omega,?_,?_⟩
     ·rw [<- HCUT.out,PM.cutAt_lit B d q (by rw [<- HL.out]; exact hql) (.inl (by rw [HB1.out]; exact h0)),HBX.out,List.append_assoc]
      rfl
     ·rw [List.length_append,stsV_append,show stsV [(0,0,bx)]=stCells (0,0,bx)++[] from rfl,List.append_nil]
      exact H6.pick 3 [0,2]
    case measure=>simp [intOf]; omega
   ·have e0:decide (0<b1)=true:=decide_eq_true (by omega)
    rw [e0] at HBEST
    by_cases hq1:q+1<l
    ·have k2:decide ((q:Int)+1<(l:Int))=true:=decide_eq_true (by omega)
     go_wp2_with fail
     refine HBEST.out.mono ?_
     rintro _ w2 ⟨n2,hn2,rfl,H2⟩
     unfold stV
     go_wp2_with fail
     have H2b:=(H2.newBk [.int .i64 (b1:Int),.int .i64 (b2:Int),.int .u8 0] 150).swap
     generalize w2.heap.size=s at H2b ⊢
     generalize w2.alloc _=w3 at H2b ⊢
     clear H2 w2
     have hbest2:=best_ok g (q+1) n2 l d (some ad) c B H2b HL.out (Ent.pick 2 [] HB.out) (by omega) (by omega) (by omega)
     obtain⟨c1,hc1⟩:∃c1,(PM.best B (q+1) d).1=c1:=⟨_,rfl⟩
     obtain⟨c2,hc2⟩:∃c2,(PM.best B (q+1) d).2=c2:=⟨_,rfl⟩
     have hqe:((q+1:Nat):Int)=(q:Int)+1:=by omega
     rw [hqe,hc1,hc2] at hbest2
     have HC1:=Lib.hid hc1
     have HC2:=Lib.hid hc2
     clear hqe hc1 hc2 H2b
     refine hbest2.mono ?_
     rintro _ w4 ⟨n3,hn3,rfl,H4⟩
     unfold stV
     have t0:∀o,(w4.alloc o).cell? ⟨s,0,none⟩=some (.int .i64 (b1:Int)):=fun o=>(H4.alloc o).cell 1 rfl 0
     have t1:∀o,(w4.alloc o).cell? ⟨s,1,none⟩=some (.int .i64 (b2:Int)):=fun o=>(H4.alloc o).cell 1 rfl 1
     have t2:∀o,(w4.alloc o).cell? ⟨s,2,none⟩=some (.int .u8 0):=fun o=>(H4.alloc o).cell 1 rfl 2
     have z0:∀o,(w4.alloc o).frozen? ⟨s,0,none⟩=false:=fun o=>(H4.alloc o).frozen 1 rfl 0
     have z1:∀o,(w4.alloc o).frozen? ⟨s,1,none⟩=false:=fun o=>(H4.alloc o).frozen 1 rfl 1
     have z2:∀o,(w4.alloc o).frozen? ⟨s,2,none⟩=false:=fun o=>(H4.alloc o).frozen 1 rfl 2
     have ce:∀o,(w4.alloc o).cell? (ad.add q)=some (.int .u8 (bx.toNat:Int)):=fun o=>HCE.out _ _ ((H4.alloc o).pick 3 [])
     clear hbest2
     by_cases hbc:b1<c1
     ·have e1:decide (0<c1)=true:=decide_eq_true (by omega)
      have e2:decide (b1<c1)=true:=decide_eq_true hbc
      rw [e1]
      have hlit:PM.cutAt B d q=(0,0,bx)::PM.cutAt B d (q+1):=by
       rw [PM.cutAt_lit B d q (by rw [<- HL.out]; exact hql) (.inr (by rw [HB1.out,HC1.out]; exact hbc)),HBX.out]
      have HLIT:=Lib.hid hlit
      clear hlit
      have hsz:((((w4.alloc (.cells #[.int .i64 (c1:Int),.int .i64 (c2:Int),.int .u8 0] 150)).setCell ⟨s,0,none⟩ (.int .i64 0)).setCell ⟨s,1,none⟩ (.int .i64 0)).setCell ⟨s,2,none⟩ (.int .u8 (bx.toNat:Int))).heap.size=w4.heap.size+1:=by simp [World.setCell]
      have hr9:Rd (((((w4.alloc (.cells #[.int .i64 (c1:Int),.int .i64 (c2:Int),.int .u8 0] 150)).setCell ⟨s,0,none⟩ (.int .i64 0)).setCell ⟨s,1,none⟩ (.int .i64 0)).setCell ⟨s,2,none⟩ (.int .u8 (bx.toNat:Int))).alloc (.cells #[.int .i64 0,.int .i64 0,.int .u8 (bx.toNat:Int)] 150)) (some ⟨w4.heap.size+1,0,none⟩) (stCells (0,0,bx)):=by
       have:=Rd.of_blk (Blk.new ((((w4.alloc (.cells #[.int .i64 (c1:Int),.int .i64 (c2:Int),.int .u8 0] 150)).setCell ⟨s,0,none⟩ (.int .i64 0)).setCell ⟨s,1,none⟩ (.int .i64 0)).setCell ⟨s,2,none⟩ (.int .u8 (bx.toNat:Int))) 150 [.int .i64 0,.int .i64 0,.int .u8 (bx.toNat:Int)])
       rwa [hsz] at this
      have HR9:=Lib.hid hr9
      have H9:=((((((H4.alloc (.cells #[.int .i64 (c1:Int),.int .i64 (c2:Int),.int .u8 0] 150)).pick 3 [1,0,2]).set 0 (.int .i64 0)).set 1 (.int .i64 0)).set 2 (.int .u8 (bx.toNat:Int))).pick 3 [2,0,1]).alloc (.cells #[.int .i64 0,.int .i64 0,.int .u8 (bx.toNat:Int)] 150)
      have HH9:=Lib.hid H9
      clear hr9 H9 hsz
      go_wp2_with (at_builtin; refine wpList_append_sp rfl _ _ 77 rfl 150 i0 (.agg #[.int .i64 0,.int .i64 0,.int .u8 0]) 3 24 Tryd.underlying77 hi hz0 hz1 hz2 rfl (by decide) (.slice V D.length cV) D.length (stsV D) rfl HH9.out (some ⟨w4.heap.size+1,0,none⟩) 1 1 (stCells (0,0,bx)) rfl rfl HR9.out (st_one _) (by unfold maxLen; omega) (by omega) ?_)
      intro v5 w5 H5 _
      clear HH9 HR9
      obtain⟨V5,c5,rfl,_,_⟩:=Row.form H5 0 rfl
      generalize w4.heap.size=s at H5 ⊢
      have t0:=H5.cell 1 rfl 0
      have t1:=H5.cell 1 rfl 1
      have t2:=H5.cell 1 rfl 2
      simp only [List.getElem?_cons_zero,List.getElem?_cons_succ] at t0 t1 t2
      clear ce
      go_wp2_with fail
      refine(made_ok (0,0,bx) _).mono ?_
      rintro _ w6 ⟨rfl,K6⟩
      have H6:=K6.sep H5
      have hmade:PM.made (0,0,bx)=1:=rfl
      rw [hmade]
      go_wp2
      go_roundw
      case rel =>
       refine⟨q+1,n3,V5,c5,D++[(0,0,bx)],by go_num,by rw [List.length_append]; rfl,by omega,by omega,by rw [List.length_append]; show D.length+1<=_; omega,?_,?_⟩
       ·rw [<- HCUT.out,HLIT.out,List.append_assoc]
        rfl
       ·rw [List.length_append,stsV_append,show stsV [(0,0,bx)]=stCells (0,0,bx)++[] from rfl,List.append_nil]
        exact H6.pick 3 [0,2]
      case measure=>simp [intOf]; omega
     ·have hcopy:PM.cutAt B d q=(b1,b2,0)::PM.cutAt B d (q+b1):=by
       rw [PM.cutAt_copy B d q (by rw [<- HL.out]; exact hql) (by rw [HB1.out,HC1.out]; omega),HB1.out,HB2.out]
      have HCOPY:=Lib.hid hcopy
      clear hcopy
      by_cases hc0:c1=0
      ·have e1:decide (0<c1)=false:=decide_eq_false (by omega)
       rw [e1]
       clear hc0
       have hsz:(w4.alloc (.cells #[.int .i64 (c1:Int),.int .i64 (c2:Int),.int .u8 0] 150)).heap.size=w4.heap.size+1:=Array.size_push _
       have hr9:Rd ((w4.alloc (.cells #[.int .i64 (c1:Int),.int .i64 (c2:Int),.int .u8 0] 150)).alloc (.cells #[.int .i64 (b1:Int),.int .i64 (b2:Int),.int .u8 0] 150)) (some ⟨w4.heap.size+1,0,none⟩) (stCells (b1,b2,0)):=by
        have:=Rd.of_blk (Blk.new (w4.alloc (.cells #[.int .i64 (c1:Int),.int .i64 (c2:Int),.int .u8 0] 150)) 150 [.int .i64 (b1:Int),.int .i64 (b2:Int),.int .u8 0])
        rwa [hsz] at this
       have HR9:=Lib.hid hr9
       have H9:=((H4.alloc (.cells #[.int .i64 (c1:Int),.int .i64 (c2:Int),.int .u8 0] 150)).pick 3 [2,1,0]).alloc (.cells #[.int .i64 (b1:Int),.int .i64 (b2:Int),.int .u8 0] 150)
       have HH9:=Lib.hid H9
       clear hr9 H9 hsz
       go_wp2_with (at_builtin; refine wpList_append_sp rfl _ _ 77 rfl 150 i0 (.agg #[.int .i64 0,.int .i64 0,.int .u8 0]) 3 24 Tryd.underlying77 hi hz0 hz1 hz2 rfl (by decide) (.slice V D.length cV) D.length (stsV D) rfl HH9.out (some ⟨w4.heap.size+1,0,none⟩) 1 1 (stCells (b1,b2,0)) rfl rfl HR9.out (st_one _) (by unfold maxLen; omega) (by omega) ?_)
       intro v5 w5 H5 _
       clear HH9 HR9
       obtain⟨V5,c5,rfl,_,_⟩:=Row.form H5 0 rfl
       generalize w4.heap.size=s at H5 ⊢
       have t0:=H5.cell 1 rfl 0
       have t1:=H5.cell 1 rfl 1
       have t2:=H5.cell 1 rfl 2
       simp only [List.getElem?_cons_zero,List.getElem?_cons_succ] at t0 t1 t2
       clear ce
       go_wp2_with fail
       refine(made_ok (b1,b2,0) _).mono ?_
       rintro _ w6 ⟨rfl,K6⟩
       have H6:=K6.sep H5
       have hmade:PM.made (b1,b2,0)=b1:=(show max b1 1=b1 by omega)
       rw [hmade]
       go_wp2
       go_roundw
       case rel =>
        refine⟨q+b1,n3,V5,c5,D++[(b1,b2,0)],by go_num,by rw [List.length_append]; rfl,by omega,by omega,by rw [List.length_append]; show D.length+1<=_; omega,?_,?_⟩
        ·rw [<- HCUT.out,HCOPY.out,List.append_assoc]
         rfl
        ·rw [List.length_append,stsV_append,show stsV [(b1,b2,0)]=stCells (b1,b2,0)++[] from rfl,List.append_nil]
         exact H6.pick 3 [0,2]
       case measure=>simp [intOf]; omega
      ·have e1:decide (0<c1)=true:=decide_eq_true (by omega)
       have e2:decide (b1<c1)=false:=decide_eq_false hbc
       rw [e1]
       have hsz:(w4.alloc (.cells #[.int .i64 (c1:Int),.int .i64 (c2:Int),.int .u8 0] 150)).heap.size=w4.heap.size+1:=Array.size_push _
       have hr9:Rd ((w4.alloc (.cells #[.int .i64 (c1:Int),.int .i64 (c2:Int),.int .u8 0] 150)).alloc (.cells #[.int .i64 (b1:Int),.int .i64 (b2:Int),.int .u8 0] 150)) (some ⟨w4.heap.size+1,0,none⟩) (stCells (b1,b2,0)):=by
        have:=Rd.of_blk (Blk.new (w4.alloc (.cells #[.int .i64 (c1:Int),.int .i64 (c2:Int),.int .u8 0] 150)) 150 [.int .i64 (b1:Int),.int .i64 (b2:Int),.int .u8 0])
        rwa [hsz] at this
       have HR9:=Lib.hid hr9
       have H9:=((H4.alloc (.cells #[.int .i64 (c1:Int),.int .i64 (c2:Int),.int .u8 0] 150)).pick 3 [2,1,0]).alloc (.cells #[.int .i64 (b1:Int),.int .i64 (b2:Int),.int .u8 0] 150)
       have HH9:=Lib.hid H9
       clear hr9 H9 hsz
       go_wp2_with (at_builtin; refine wpList_append_sp rfl _ _ 77 rfl 150 i0 (.agg #[.int .i64 0,.int .i64 0,.int .u8 0]) 3 24 Tryd.underlying77 hi hz0 hz1 hz2 rfl (by decide) (.slice V D.length cV) D.length (stsV D) rfl HH9.out (some ⟨w4.heap.size+1,0,none⟩) 1 1 (stCells (b1,b2,0)) rfl rfl HR9.out (st_one _) (by unfold maxLen; omega) (by omega) ?_)
       intro v5 w5 H5 _
       clear HH9 HR9
       obtain⟨V5,c5,rfl,_,_⟩:=Row.form H5 0 rfl
       generalize w4.heap.size=s at H5 ⊢
       have t0:=H5.cell 1 rfl 0
       have t1:=H5.cell 1 rfl 1
       have t2:=H5.cell 1 rfl 2
       simp only [List.getElem?_cons_zero,List.getElem?_cons_succ] at t0 t1 t2
       clear ce
       go_wp2_with fail
       refine(made_ok (b1,b2,0) _).mono ?_
       rintro _ w6 ⟨rfl,K6⟩
       have H6:=K6.sep H5
       have hmade:PM.made (b1,b2,0)=b1:=(show max b1 1=b1 by omega)
       rw [hmade]
       go_wp2
       go_roundw
       case rel =>
        refine⟨q+b1,n3,V5,c5,D++[(b1,b2,0)],by go_num,by rw [List.length_append]; rfl,by omega,by omega,by rw [List.length_append]; show D.length+1<=_; omega,?_,?_⟩
        ·rw [<- HCUT.out,HCOPY.out,List.append_assoc]
         rfl
        ·rw [List.length_append,stsV_append,show stsV [(b1,b2,0)]=stCells (b1,b2,0)++[] from rfl,List.append_nil]
         exact H6.pick 3 [0,2]
       case measure=>simp [intOf]; omega
    ·have k2:decide ((q:Int)+1<(l:Int))=false:=decide_eq_false (by omega)
     have hcopy:PM.cutAt B d q=(b1,b2,0)::PM.cutAt B d (q+b1):=by
      rw [PM.cutAt_copy B d q (by rw [<- HL.out]; exact hql) (by rw [HB1.out,PM.best_short B (q+1) d (by rw [<- HL.out]; omega)]; show ¬ (b1=0∨b1<0); omega),HB1.out,HB2.out]
     have HCOPY:=Lib.hid hcopy
     clear hcopy
     go_wp2_with fail
     refine HBEST.out.mono ?_
     rintro _ w2 ⟨n2,hn2,rfl,H2⟩
     unfold stV
     have hsz:(w2.alloc (.cells #[.int .i64 (b1:Int),.int .i64 (b2:Int),.int .u8 0] 150)).heap.size=w2.heap.size+1:=Array.size_push _
     have hr9:Rd ((w2.alloc (.cells #[.int .i64 (b1:Int),.int .i64 (b2:Int),.int .u8 0] 150)).alloc (.cells #[.int .i64 (b1:Int),.int .i64 (b2:Int),.int .u8 0] 150)) (some ⟨w2.heap.size+1,0,none⟩) (stCells (b1,b2,0)):=by
      have:=Rd.of_blk (Blk.new (w2.alloc (.cells #[.int .i64 (b1:Int),.int .i64 (b2:Int),.int .u8 0] 150)) 150 [.int .i64 (b1:Int),.int .i64 (b2:Int),.int .u8 0])
      rwa [hsz] at this
     have HR9:=Lib.hid hr9
     have H9:=((H2.newBk [.int .i64 (b1:Int),.int .i64 (b2:Int),.int .u8 0] 150).pick 3 [2,0,1]).alloc (.cells #[.int .i64 (b1:Int),.int .i64 (b2:Int),.int .u8 0] 150)
     have HH9:=Lib.hid H9
     clear hr9 H9 hsz
     go_wp2_with (at_builtin; refine wpList_append_sp rfl _ _ 77 rfl 150 i0 (.agg #[.int .i64 0,.int .i64 0,.int .u8 0]) 3 24 Tryd.underlying77 hi hz0 hz1 hz2 rfl (by decide) (.slice V D.length cV) D.length (stsV D) rfl HH9.out (some ⟨w2.heap.size+1,0,none⟩) 1 1 (stCells (b1,b2,0)) rfl rfl HR9.out (st_one _) (by unfold maxLen; omega) (by omega) ?_)
     intro v5 w5 H5 _
     clear HH9 HR9
     obtain⟨V5,c5,rfl,_,_⟩:=Row.form H5 0 rfl
     generalize w2.heap.size=s at H5 ⊢
     have t0:=H5.cell 1 rfl 0
     have t1:=H5.cell 1 rfl 1
     have t2:=H5.cell 1 rfl 2
     simp only [List.getElem?_cons_zero,List.getElem?_cons_succ] at t0 t1 t2
     skip
     go_wp2_with fail
     refine(made_ok (b1,b2,0) _).mono ?_
     rintro _ w6 ⟨rfl,K6⟩
     have H6:=K6.sep H5
     have hmade:PM.made (b1,b2,0)=b1:=(show max b1 1=b1 by omega)
     rw [hmade]
     go_wp2
     go_roundw
     case rel =>
      refine⟨q+b1,n2,V5,c5,D++[(b1,b2,0)],by go_num,by rw [List.length_append]; rfl,by omega,by omega,by rw [List.length_append]; show D.length+1<=_; omega,?_,?_⟩
      ·rw [<- HCUT.out,HCOPY.out,List.append_assoc]
       rfl
      ·rw [List.length_append,stsV_append,show stsV [(b1,b2,0)]=stCells (b1,b2,0)++[] from rfl,List.append_nil]
       exact H6.pick 3 [0,2]
     case measure=>simp [intOf]; omega
  ·have k1:decide ((q:Int)<(l:Int))=false:=decide_eq_false (by omega)
   go_wp2_with fail
   go_ret
   refine⟨_,rfl,?_⟩
   have e:D=PM.Cut B d:=by
    rw [<- HCUT.out,PM.cutAt_end B d q (by rw [<- HL.out]; omega),List.append_nil]
   rw [<- e]
   exact H.pick 2 [0]
open Go.RowKit Go.MapKept
def cutL (B:List UInt8) (d:Int):List PM.St:=if 1<=d/\d<=32768 then PM.Cut B d.toNat else []
def cutE (d:Int):Int:=if 1<=d/\d<=32768 then 0 else 1
set_option maxRecDepth 100000 in
theorem Cut_ok (l:Nat) (d:Int) (A0:Option Addr) (c:Nat) (B:List UInt8) {w0 w:World} {L:List Pr} (H:Sp w0 L w) (hl:l=B.length) (hb:Ent L (fun w=>Byt w (.slice A0 l c) B)) (hlm:l<=1000000) :
  Calls Tryd.prog 29 #[.slice A0 l c,.int .i64 d] w fun e w'=>∃v,e=.returned (.tuple #[v,.int .i64 (cutE d)])/\Sp w0 (Row 150 3 v (cutL B d).length (stsV (cutL B d))::L) w':=by
 have HL:=Lib.hid hl
 have HB:=Lib.hid hb
 clear hl hb
 unfold cutE cutL
 by_cases h1:d<1
 ·rw [if_neg (by omega),if_neg (by omega)]
  have k1:decide (d<1)=true:=decide_eq_true h1
  go_enter Tryd.func29,Tryd.ntmps29
  go_wp2
  go_ret2
  exact⟨_,rfl,H.rowNil _ _⟩
 ·have k1:decide (d<1)=false:=decide_eq_false h1
  by_cases h2:32768<d
  ·rw [if_neg (by omega),if_neg (by omega)]
   have k2:decide (32768<d)=true:=decide_eq_true h2
   go_enter Tryd.func29,Tryd.ntmps29
   go_wp2
   go_ret2
   exact⟨_,rfl,H.rowNil _ _⟩
  ·rw [if_pos (by omega),if_pos (by omega)]
   have k2:decide (32768<d)=false:=decide_eq_false h2
   obtain⟨n,rfl⟩:=Int.eq_ofNat_of_zero_le (show 0<=d by omega)
   rw [show(n:Int).toNat=n from rfl]
   go_enter Tryd.func29,Tryd.ntmps29
   go_wp2_with fail
   refine(finds_ok A0 l c (n:Int) B H).mono ?_
   rintro _ w2 ⟨g,rfl,H2⟩
   go_wp2_with fail
   refine(steps_ok g l n A0 c B H2 HL.out HB.out hlm).mono ?_
   rintro _ w3 ⟨v,rfl,H3⟩
   go_wp2
   go_ret2
   exact⟨_,rfl,H3⟩
open Go.RowKit Go.MapKept
namespace PM
theorem go_far (B:List UInt8) (q:Nat) (ps:List Nat) (d:Nat) (b:Nat × Nat) (h:∀p ∈ ps,32768<q - p):go B q ps d b=b:=by
 cases ps with
 | nil=>rfl
 | cons p ps =>
  rw [go]
  split
  ·rfl
  ·rw [if_pos (h p (List.mem_cons_self ..))]
def SInv (B:List UInt8) (q d j t:Nat) (b:Nat × Nat):Prop:=1<=j/\j<=q+1/\t<=j/\b.1<=258/\go B q (places B (q+1 - j) (at3 B q)).reverse (d - t) b=best B q d
theorem SInv.start {B:List UInt8} {q d:Nat} (hq:q+3<=B.length):SInv B q d 1 0 (0,0):=by
 refine⟨Nat.le_refl _,by omega,by omega,Nat.zero_le _,?_⟩
 unfold best
 rw [if_pos hq]
 rfl
theorem SInv.skip {B:List UInt8} {q d j t:Nat} {b:Nat × Nat} (h:SInv B q d j t b) (hq:q+3<=B.length) (hj:j<=q) (hm:mlen B (q - j) q<3):SInv B q d (j+1) t b:=by
 obtain⟨h1,h2,h3,h5,h4⟩:=h
 refine⟨by omega,by omega,by omega,h5,?_⟩
 rw [<- h4]
 have e:q+1 - j=(q - j)+1:=by omega
 rw [e,places_succ,if_neg (fun he=>by have:=(mlen_three hq).2 he; omega),show q+1 - (j+1)=q - j by omega]
theorem SInv.take {B:List UInt8} {q d j t m:Nat} {b:Nat × Nat} (h:SInv B q d j t b) (hq:q+3<=B.length) (hj:j<=q) (hf:j<=32768) (ht:t<d) (hm:mlen B (q - j) q=m) (h3:¬ m<3) :
  SInv B q d (j+1) (t+1) (if b.1<m then (m,j) else b):=by
 obtain⟨h1,h2,h3',h5,h4⟩:=h
 have hm2:=mlen_le B (q - j) q
 refine⟨by omega,by omega,by omega,by split <;> first | exact h5 | (show m<=258; omega),?_⟩
 rw [<- h4]
 have e:q+1 - j=(q - j)+1:=by omega
 rw [e,places_succ,if_pos ((mlen_three hq).1 (by omega)),show q+1 - (j+1)=q - j by omega,List.reverse_append,List.reverse_singleton,List.singleton_append,go,if_neg (show ¬ (d - t=0) by omega),show q - (q - j)=j by omega,if_neg (show ¬ (32768<j) by omega),hm,Nat.sub_sub]
theorem SInv.done {B:List UInt8} {q d j t:Nat} {b:Nat × Nat} (h:SInv B q d j t b) (he:32768<j∨q<j∨d<=t):b=best B q d:=by
 obtain⟨h1,h2,h3,h5,h4⟩:=h
 rw [<- h4]
 rcases he with he | he | he
 ·rw [go_far]
  intro p hp
  rw [List.mem_reverse,places_mem] at hp
  omega
 ·rw [show q+1 - j=0 by omega]; rfl
 ·rw [show d - t=0 by omega,go_zero]
end PM
open Go.RowKit Go.MapKept
theorem stsV_at (X:List PM.St) (i:Nat) (h:i<X.length):(stsV X)[i * 3]?=some (.int .i64 (X[i].1:Int))/\(stsV X)[i * 3+1]?=some (.int .i64 (X[i].2.1:Int))/\(stsV X)[i * 3+2]?=some (.int .u8 (X[i].2.2.toNat:Int)):=by
 induction X generalizing i with
 | nil=>exact absurd h (Nat.not_lt_zero _)
 | cons x X ih =>
  have e:stsV (x::X)=stCells x++stsV X:=rfl
  rw [e]
  cases i with
  | zero=>exact⟨rfl,rfl,rfl⟩
  | succ i =>
   have h3:(stCells x).length=3:=rfl
   have:=ih i (by simpa using h)
   rw [List.getElem?_append_right (by rw [h3]; omega),List.getElem?_append_right (by rw [h3]; omega),List.getElem?_append_right (by rw [h3]; omega),h3,show(i+1) * 3 - 3=i * 3 by omega,show(i+1) * 3+1 - 3=i * 3+1 by omega,show(i+1) * 3+2 - 3=i * 3+2 by omega]
   simpa using this
def StAt (w:World) (V:Option Addr) (X:List PM.St):Prop:=∀(i:Nat) (h:i<X.length),∃ad,V=some ad/\w.cell? (ad.add (i * 3))=some (.int .i64 (X[i].1:Int)) /\
 w.cell? ⟨(ad.add (i * 3)).block,(ad.add (i * 3)).off+1,none⟩=some (.int .i64 (X[i].2.1:Int))/\w.cell? ⟨(ad.add (i * 3)).block,(ad.add (i * 3)).off+2,none⟩=some (.int .u8 (X[i].2.2.toNat:Int))
theorem StAt.of_rd {w:World} {V:Option Addr} {X:List PM.St} (h:Rd w V (stsV X)):StAt w V X:=fun i hi=>by
 obtain⟨ad,e,hc⟩:=h (by
  have:=stsV_length X
  intro h0
  rw [h0] at this
  simp only [List.length_nil] at this
  omega)
 obtain⟨a1,a2,a3⟩:=stsV_at X i hi
 refine⟨ad,e,hc _ _ a1,?_,?_⟩
 ·rw [field_addr ad (i * 3) 1 (by omega)]; exact hc _ _ a2
 ·rw [field_addr ad (i * 3) 2 (by omega)]; exact hc _ _ a3
theorem Sp.stAt {w0 w:World} {L:List Pr} (H:Sp w0 L w) (k:Nat) {e:TypeId} {n c:Nat} {V:Option Addr} {X:List PM.St} (hk:L[k]?=some (Row e 3 (.slice V n c) n (stsV X))):StAt w V X:=by
 obtain⟨A,c',e,hr,_⟩:=H.row_rd k hk
 injection e with e
 subst e
 exact .of_rd hr
open Go.RowKit Go.MapKept
abbrev StI:=Int × Int × UInt8
def toI (s:PM.St):StI:=((s.1:Int),(s.2.1:Int),s.2.2)
def madeI (s:StI):Int:=max s.1 1
def sizeI:List StI->Int
 | []=>0
 | s::l=>madeI s+sizeI l
theorem sizeI_map (X:List PM.St):sizeI (X.map toI)=(PM.size X:Int):=by
 induction X with
 | nil=>rfl
 | cons s X ih =>
  show madeI (toI s)+sizeI (X.map toI)=((PM.made s+PM.size X:Nat):Int)
  rw [ih]
  show max (s.1:Int) 1+(PM.size X:Int)=((max s.1 1+PM.size X:Nat):Int)
  omega
def StI_ (w:World) (V:Option Addr) (X:List StI):Prop:=∀(i:Nat) (h:i<X.length),∃ad,V=some ad/\w.cell? (ad.add (i * 3))=some (.int .i64 X[i].1) /\
 w.cell? ⟨(ad.add (i * 3)).block,(ad.add (i * 3)).off+1,none⟩=some (.int .i64 X[i].2.1)/\w.cell? ⟨(ad.add (i * 3)).block,(ad.add (i * 3)).off+2,none⟩=some (.int .u8 (X[i].2.2.toNat:Int))
theorem StAt.toI {w:World} {V:Option Addr} {X:List PM.St} (h:StAt w V X):StI_ w V (X.map toI):=fun i hi=>by
 rw [List.length_map] at hi
 obtain⟨ad,e,h1,h2,h3⟩:=h i hi
 refine⟨ad,e,?_,?_,?_⟩
 ·rw [h1,List.getElem_map]; rfl
 ·rw [h2,List.getElem_map]; rfl
 ·rw [h3,List.getElem_map]; rfl
theorem made_okI (x y:Int) (z:Int) (w:World) :
  Calls Tryd.prog 73 #[.agg #[.int .i64 x,.int .i64 y,.int .u8 z]] w fun e w'=>e=.returned (.int .i64 (max x 1))/\Keep w w':=by
 obtain⟨m,hm⟩:∃m:Int,max x 1=m:=⟨_,rfl⟩
 rw [hm]
 go_enter Tryd.func73,Tryd.ntmps73
 go_wp2
 all_goals (go_ret; exact⟨ret_i64 (by omega),Keep.alloc _ _⟩)
open Go.RowKit Go.MapKept
theorem sizeI_cons {X:List StI} {i:Nat} (h:i<X.length):sizeI (X.drop i)=madeI X[i]+sizeI (X.drop (i+1)):=by
 rw [List.drop_eq_getElem_cons h]; rfl
set_option maxRecDepth 100000 in
set_option maxHeartbeats 1000000 in
theorem size_ok (V:Option Addr) (n c:Nat) (X:List StI) {w0 w:World} {L:List Pr} (H:Sp w0 L w) (hn:n=X.length) (hnm:n<=1000000) (hb:∀s ∈ X,s.1<=1000000) (h:Ent L (fun w=>StI_ w V X)) :
  Calls Tryd.prog 52 #[.slice V n c] w fun e w'=>e=.returned (.int .i64 (sizeI X))/\Sp w0 L w':=by
 have HN:=Lib.hid hn
 have HX:=Lib.hid h
 clear hn h
 go_enter Tryd.func52,Tryd.ntmps52
 go_wp2_with fail
 go_loopw [3,8] (fun av iv wr=>∃(i:Nat) (a:Int),av=.int .i64 a/\iv=.int .i64 (i:Int)/\i<=n/\0<=a/\a<=1000000 * (i:Int)/\sizeI X=a+sizeI (X.drop i)/\Sp w0 L wr) (fun _ iv _=>n - (intOf iv).toNat)
 case atStart=>exact⟨0,0,rfl,rfl,Nat.zero_le _,by omega,by omega,by rw [Int.zero_add]; rfl,H⟩
 case round =>
  obtain⟨i,a,rfl,rfl,hi,ha0,ha1,hm,H⟩:=hrel
  have HM:=Lib.hid hm
  clear hm
  by_cases hin:i<n
  ·have k1:(i:Int)<(n:Int):=by omega
   have hiX:i<X.length:=by rw [<- HN.out]; exact hin
   obtain⟨ad,rfl,p0,p1,p2⟩:=HX.out _ _ H i hiX
   have hcons:=sizeI_cons hiX
   have hxb:=hb _ (List.getElem_mem hiX)
   obtain⟨x,hx⟩:∃x,X[i].1=x:=⟨_,rfl⟩
   obtain⟨y,hy⟩:∃y,X[i].2.1=y:=⟨_,rfl⟩
   obtain⟨z,hz⟩:∃z,X[i].2.2=z:=⟨_,rfl⟩
   have hXi:X[i]=(x,y,z):=by rw [<- hx,<- hy,<- hz]
   rw [hx] at p0
   rw [hy] at p1
   rw [hz] at p2
   rw [hXi] at hcons hxb
   replace hxb:x<=1000000:=hxb
   obtain⟨m,hmm⟩:∃m,max x 1=m:=⟨_,rfl⟩
   have hmI:madeI (x,y,z)=m:=hmm
   rw [hmI] at hcons
   have hm1:1<=m:=by omega
   have hm2:m<=1000000:=by omega
   have HCONS:=Lib.hid hcons
   clear hcons hx hy hz hXi hmI
   go_wp2_with fail
   refine(made_okI x y (z.toNat:Int) _).mono ?_
   rintro _ w2 ⟨rfl,K2⟩
   have H2:=K2.sep (H.newBk [.int .i64 x,.int .i64 y,.int .u8 (z.toNat:Int)] 150)
   rw [hmm]
   clear hmm
   go_wp2_with fail
   go_roundw
   case rel=>exact⟨i+1,a+m,by go_num,by go_num,by omega,by omega,by omega,by rw [HM.out,HCONS.out]; omega,H2.tail⟩
   case measure=>first | (simp [intOf]; omega) | simp [intOf]
  ·have k1:¬ (i:Int)<(n:Int):=by omega
   go_wp2_with fail
   go_ret
   refine⟨ret_i64 ?_,H⟩
   rw [HM.out,List.drop_eq_nil_of_le (by rw [<- HN.out]; omega)]
   show a=a+0
   omega
open Go.RowKit Go.MapKept
namespace PM
theorem size_append (a b:List St):size (a++b)=size a+size b:=by
 induction a with
 | nil=>exact(Nat.zero_add _).symm
 | cons s a ih=>show made s+size (a++b)=made s+size a+size b; rw [ih,Nat.add_assoc]
end PM
set_option linter.unusedVariables false
set_option linter.unusedSimpArgs false
open Go.RowKit
theorem size_alloc (w:World) (o:Obj):(w.alloc o).heap.size=w.heap.size+1:=by simp
def wdC (t:PD.Wd):List Value:=[.int .i64 (t.1:Int),.int .i64 (t.2.1:Int),.int .i64 (t.2.2.1:Int),.int .i64 (t.2.2.2:Int)]
def cellsW (l:List PD.Wd):List Value:=l.flatMap wdC
theorem cellsW_app (a b:List PD.Wd):cellsW (a++b)=cellsW a++cellsW b:=by simp [cellsW]
theorem cellsW_len (l:List PD.Wd):(cellsW l).length=l.length * 4:=by
 induction l with
 | nil=>rfl
 | cons t l ih=>show(wdC t++cellsW l).length=_; rw [List.length_append,ih,List.length_cons]; show 4+_=_; omega
theorem wdC_one (t:PD.Wd):∀u ∈ wdC t,u.oneCell'=true:=by
 intro u hu
 simp only [wdC,List.mem_cons,List.not_mem_nil,or_false] at hu
 rcases hu with rfl | rfl | rfl | rfl <;> rfl
theorem infoT:(Tryd.prog.info? 194).map (fun i=>(i.zero,i.size,i.bytes))=some (some (.agg #[.int .i64 0,.int .i64 0,.int .i64 0,.int .i64 0]),4,32):=by kernel_rfl
namespace PD
theorem wds_take {Y:List PM.St} {i:Nat} (h:i<Y.length):wds (Y.take (i+1))=wds (Y.take i)++wd Y[i]:=by
 unfold wds
 rw [List.take_succ_eq_append_getElem h,List.flatMap_append]
 simp
theorem wds_len (Y:List PM.St):(wds Y).length<=2 * Y.length:=by
 have:=words_len Y
 unfold words at this
 simp at this; omega
def StOk (s:PM.St):Prop:=s.1=0∨(3<=s.1/\s.1<=258/\1<=s.2.1/\s.2.1<=32768)
theorem mays_ok:∀(Y:List PM.St) (n:Nat),PM.mays Y n->∀s ∈ Y,StOk s:=by
 intro Y
 induction Y with
 | nil=>intro n _ s hs; cases hs
 | cons t l ih =>
  intro n h s hs
  rcases List.mem_cons.1 hs with rfl | hs
  ·rcases h.1 with h1 | h1
   ·exact .inl h1.1
   ·exact .inr ⟨h1.1,h1.2.1,h1.2.2.1,h1.2.2.2.1⟩
  ·exact ih _ h.2 s hs
end PD
set_option maxRecDepth 100000 in
set_option maxHeartbeats 4000000 in
theorem dwords_ok (V:Option Addr) (n c:Nat) (Y:List PM.St) {TL TF:Option Addr} {cl cf:Nat} {w0 w:World} {L:List Pr} (H:Sp w0 L w) (hT:Ent L (DTabs TL TF cl cf)) (hn:n=Y.length) (hnm:n<=1000000) (h:Ent L fun w=>StAt w V Y) (hY:∀s ∈ Y,PD.StOk s) :
  Calls Tryd.prog 76 #[.slice V n c] w fun e w'=>∃v,e=.returned v/\Sp w0 (Row 194 4 v (PD.words Y).length (cellsW (PD.words Y))::L) w':=by
 obtain⟨i1,hj,hj0,hj1,hj2⟩:=info_parts infoT
 have HN:=Lib.hid hn
 have HX:=Lib.hid h
 have HT:=Lib.hid hT
 have HY:=Lib.hid hY
 clear hn h hT hY
 go_enter Tryd.func76,Tryd.ntmps76
 go_wp2_with fail
 go_loopw [3,14] (fun rv iv wr=>∃i:Nat,iv=.int .i64 (i:Int)/\i<=n/\Sp w0 (Row 194 4 rv (PD.wds (Y.take i)).length (cellsW (PD.wds (Y.take i)))::L) wr) (fun _ iv _=>n - (intOf iv).toNat)
 case atStart=>exact⟨0,rfl,Nat.zero_le _,H.rowNil _ _⟩
 case round =>
  obtain⟨i,rfl,hi,H1⟩:=hrel
  clear H
  obtain⟨R,hR⟩:∃R,PD.wds (Y.take i)=R:=⟨_,rfl⟩
  have hRl:R.length<=2 * i:=by
   rw [<- hR]
   have:=PD.wds_len (Y.take i)
   rw [List.length_take] at this; omega
  rw [hR] at H1
  obtain⟨VR,vrc,rfl,_,_⟩:=Row.form H1 0 rfl
  by_cases hin:i<n
  ·have k1:(i:Int)<(n:Int):=by omega
   have hiY:i<Y.length:=by rw [<- HN.out]; exact hin
   obtain⟨ad,rfl,p0,p1,p2⟩:=HX.out _ _ H1.tail i hiY
   have hw:=PD.wds_take hiY
   rw [hR] at hw
   have hok:=HY.out _ (List.getElem_mem hiY)
   obtain⟨⟨x,y,z⟩,hs⟩:∃s,Y[i]=s:=⟨_,rfl⟩
   rw [hs] at p0 p1 p2 hw hok
   simp only at p0 p1 p2
   have HW:=Lib.hid hw
   have H2:=H1.newBk [.int .i64 (x:Int),.int .i64 (y:Int),.int .u8 (z.toNat:Int)] 150
   have HH2:=Lib.hid H2
   clear hw hR hs
   by_cases hx:x=0
   ·subst hx
    have HW:Hid (PD.wds (Y.take (i+1))=R++[(0,z.toNat,0,0)]):=HW
    obtain⟨z8,hz8⟩:∃q,z.toNat=q:=⟨_,rfl⟩
    have hzl:z8<256:=by rw [<- hz8]; exact z.toNat_lt
    rw [hz8] at HW p2 H2 HH2
    replace p0:wr.cell? (ad.add (i * 3))=some (.int .i64 0):=p0
    have H3:=H2.newBk (wdC (0,z8,0,0)) 194
    have hR3:=Rd.of_blk (H3.blk 0 rfl)
    rw [size_alloc] at hR3
    have HR3:=Lib.hid hR3
    have HH3:=Lib.hid (H3.pick 3 [2])
    have t0:=HH2.out.cell 0 rfl 0
    have t2:=HH2.out.cell 0 rfl 2
    simp only [List.getElem?_cons_zero,List.getElem?_cons_succ] at t0 t2
    replace t0:World.cell? _ ⟨wr.heap.size,0,none⟩=some (.int .i64 0):=t0
    clear H1 H2 H3 hz8 hR3
    go_wp2_with (at_builtin; refine wpList_append_sp rfl _ _ 161 rfl 194 i1 (.agg #[.int .i64 0,.int .i64 0,.int .i64 0,.int .i64 0]) 4 32 Tryd.underlying161 hj hj0 hj1 hj2 rfl (by decide) _ R.length (cellsW R) rfl HH3.out (some ⟨_,0,none⟩) 1 1 (wdC (0,z8,0,0)) rfl rfl HR3.out (wdC_one _) (by unfold maxLen; omega) (by omega) ?_)
    intro v4 w4 H4 _
    clear HH3 HR3 HH2 p0 p1 p2 t0 t2
    go_wp2_with fail
    go_roundw
    case rel =>
     refine⟨i+1,by go_num,by omega,?_⟩
     rw [HW.out,List.length_append,cellsW_app]
     show Sp w0 (Row 194 4 v4 (R.length+1) (cellsW R++cellsW [(0,z8,0,0)])::L) w4
     rw [show cellsW [((0,z8,0,0):PD.Wd)]=wdC (0,z8,0,0) from List.append_nil _]
     exact H4
    case measure=>first | (simp [intOf]; omega) | simp [intOf]
   ·have hok2:3<=x/\x<=258/\1<=y/\y<=32768:=by
     rcases hok with h | h
     ·exact absurd h hx
     ·exact h
    have hw2:PD.wd (x,y,z)=[(0,PD.longI (x:Int)),(1,PD.farI (y:Int))]:=by
     unfold PD.wd PD.longI PD.farI
     rw [if_neg hx,if_pos (by omega),if_pos (by omega)]; rfl
    obtain⟨⟨s1,b1,v1⟩,e1⟩:∃t,PD.longI (x:Int)=t:=⟨_,rfl⟩
    obtain⟨⟨s2,b2,v2⟩,e2⟩:∃t,PD.farI (y:Int)=t:=⟨_,rfl⟩
    rw [e1,e2] at hw2
    have HW2:Hid (PD.wds (Y.take (i+1))=R++[(0,s1,b1,v1),(1,s2,b2,v2)]):=by rw [HW.out,hw2]; exact Lib.hid rfl
    have HE2:=Lib.hid e2
    have hL:=dlong_ok (x:Int) HH2.out (fun w0 w h=>HT.out w0 w (h.pick 2 []))
    rw [e1] at hL
    have HLG:=Lib.hid hL
    have k2:¬ (x:Int)=0:=by omega
    have t0:=HH2.out.cell 0 rfl 0
    simp only [List.getElem?_cons_zero] at t0
    generalize hst:Bk wr.heap.size _ _=ST at HLG
    have HST:=Lib.hid hst
    clear hw2 e1 e2 hL HW H1 H2 HH2 hst
    go_wp2_with fail
    refine HLG.out.mono ?_
    rintro _ w3 ⟨rfl,H3⟩
    have H4:=H3.newBk (wdC (0,s1,b1,v1)) 194
    have HR4:=Lib.hid (Rd.of_blk (H4.blk 0 rfl))
    have HH4:=Lib.hid (H4.pick 3 [2,1])
    clear H3 H4 HLG t0
    go_wp2_with (at_builtin; refine wpList_append_sp rfl _ _ 161 rfl 194 i1 (.agg #[.int .i64 0,.int .i64 0,.int .i64 0,.int .i64 0]) 4 32 Tryd.underlying161 hj hj0 hj1 hj2 rfl (by decide) _ R.length (cellsW R) rfl HH4.out (some ⟨_,0,none⟩) 1 1 (wdC (0,s1,b1,v1)) rfl rfl HR4.out (wdC_one _) (by unfold maxLen; omega) (by omega) ?_)
    intro v4 w4 H5 _
    rw [<- HST.out] at H5
    have t1:=H5.cell 1 rfl 1
    simp only [List.getElem?_cons_succ,List.getElem?_cons_zero] at t1
    have hF:=dfar_ok (y:Int) H5 (fun w0 w h=>HT.out w0 w (h.pick 2 []))
    rw [HE2.out,HST.out] at hF
    have HF:=Lib.hid hF
    clear hF HH4 HR4 H5 p0 p1 p2
    go_wp2_with fail
    refine HF.out.mono ?_
    rintro _ w5 ⟨rfl,H6⟩
    have H7:=H6.newBk (wdC (1,s2,b2,v2)) 194
    have HR7:=Lib.hid (Rd.of_blk (H7.blk 0 rfl))
    have HH7:=Lib.hid (H7.pick 3 [1])
    clear H6 H7 HF t1
    go_wp2_with (at_builtin; refine wpList_append_sp rfl _ _ 161 rfl 194 i1 (.agg #[.int .i64 0,.int .i64 0,.int .i64 0,.int .i64 0]) 4 32 Tryd.underlying161 hj hj0 hj1 hj2 rfl (by decide) _ (R.length+1) (cellsW R++wdC (0,s1,b1,v1)) rfl HH7.out (some ⟨_,0,none⟩) 1 1 (wdC (1,s2,b2,v2)) rfl rfl HR7.out (wdC_one _) (by unfold maxLen; omega) (by omega) ?_)
    intro v8 w8 H8 _
    clear HH7 HR7
    go_wp2_with fail
    go_roundw
    case rel =>
     refine⟨i+1,by go_num,by omega,?_⟩
     rw [HW2.out,List.length_append,cellsW_app]
     show Sp w0 (Row 194 4 v8 (R.length+2) (cellsW R++cellsW [(0,s1,b1,v1),(1,s2,b2,v2)])::L) w8
     rw [show cellsW [((0,s1,b1,v1):PD.Wd),(1,s2,b2,v2)]=wdC (0,s1,b1,v1)++wdC (1,s2,b2,v2) by simp [cellsW]]
     exact H8
    case measure=>first | (simp [intOf]; omega) | simp [intOf]
  ·have k1:¬ (i:Int)<(n:Int):=by omega
   have hRn:PD.words Y=R++[(0,256,0,0)]:=by
    unfold PD.words
    rw [<- hR,List.take_of_length_le (by rw [<- HN.out]; omega)]
   have HW:=Lib.hid hRn
   have H3:=H1.newBk (wdC (0,256,0,0)) 194
   have HR3:=Lib.hid (Rd.of_blk (H3.blk 0 rfl))
   have HH3:=Lib.hid (H3.pick 2 [1])
   clear H1 H3 hR hRn
   go_wp2_with (at_builtin; refine wpList_append_sp rfl _ _ 161 rfl 194 i1 (.agg #[.int .i64 0,.int .i64 0,.int .i64 0,.int .i64 0]) 4 32 Tryd.underlying161 hj hj0 hj1 hj2 rfl (by decide) _ R.length (cellsW R) rfl HH3.out (some ⟨_,0,none⟩) 1 1 (wdC (0,256,0,0)) rfl rfl HR3.out (wdC_one _) (by unfold maxLen; omega) (by omega) ?_)
   intro v4 w4 H4 _
   clear HH3 HR3
   go_wp2_with fail
   go_ret
   refine⟨_,rfl,?_⟩
   rw [HW.out,List.length_append,cellsW_app]
   show Sp w0 (Row 194 4 v4 (R.length+1) (cellsW R++cellsW [(0,256,0,0)])::L) w4
   rw [show cellsW [((0,256,0,0):PD.Wd)]=wdC (0,256,0,0) from List.append_nil _]
   exact H4
theorem infoInt:(Tryd.prog.info? 3).map (fun i=>(i.zero,i.size,i.bytes))=some (some (.int .i64 0),1,8):=by kernel_rfl
theorem cellsN_app (a b:List Nat):cellsN (a++b)=cellsN a++cellsN b:=by simp [cellsN]
theorem dfixedL_at {k:Nat} (hk:k<288):PI.fixedL.getD k 0=if 280<=k then 8 else if 256<=k then 7 else if 144<=k then 9 else 8:=by
 have:∀k,k<288->PI.fixedL.getD k 0=if 280<=k then 8 else if 256<=k then 7 else if 144<=k then 9 else 8:=by decide +kernel
 exact this k hk
theorem dfixedL_len:PI.fixedL.length=288:=by decide +kernel
theorem dfixedL_next {k v:Nat} (hk:k<288) (h:PI.fixedL.getD k 0=v):PI.fixedL.take (k+1)=PI.fixedL.take k++[v]:=by
 have hl:k<PI.fixedL.length:=by rw [dfixedL_len]; exact hk
 rw [List.take_succ_eq_append_getElem hl]
 rw [List.getD_eq_getElem?_getD,List.getElem?_eq_getElem hl] at h
 rw [show PI.fixedL[k]=v from h]
set_option maxRecDepth 100000 in
set_option maxHeartbeats 4000000 in
theorem dfixed_ok {w0 w:World} {L:List Pr} (H:Sp w0 L w) :
  Calls Tryd.prog 113 #[] w fun e w'=>∃v0 v1,e=.returned (.agg #[v0,v1])/\Sp w0 (Row 3 1 v0 288 (cellsN PI.fixedL)::Row 3 1 v1 32 (cellsN PI.fixedD)::L) w':=by
 obtain⟨i0,hi,hz0,hz1,hz2⟩:=info_parts infoInt
 have H1:=H.newBk [.slice none 0 0,.slice none 0 0] 163
 have H2:=H1.newBk [.slice none 0 0,.slice none 0 0] 163
 rw [size_alloc] at H2
 have HX:=Lib.hid (H2.rowNil 3 1)
 clear H H1 H2
 go_enter Tryd.func113,Tryd.ntmps113
 go_wp2_with fail
 generalize w.heap.size+1=g at HX ⊢
 generalize w.heap.size=g0 at HX ⊢
 go_loopw [4] (fun kv wr=>∃(k:Nat) (v:Value),kv=.int .i64 (k:Int)/\k<=288/\Sp w0 (Row 3 1 v k (cellsN (PI.fixedL.take k))::Bk g 163 [v,.slice none 0 0]::Bk g0 163 [.slice none 0 0,.slice none 0 0]::L) wr) (fun kv _=>288 - (intOf kv).toNat)
 case atStart=>exact⟨0,_,rfl,Nat.zero_le _,HX.out⟩
 case round =>
  obtain⟨k,v,rfl,hk,H2⟩:=hrel
  clear HX
  obtain⟨VA,vc,rfl,_,_⟩:=Row.form H2 0 rfl
  by_cases hlt:k<288
  ·have k1:(k:Int)<288:=by omega
   have hk:=hlt
   by_cases h280:280<=k
   ·have k2:(k:Int)≥280:=by omega
    have HV:Hid (PI.fixedL.take (k+1)=PI.fixedL.take k++[8]):=Lib.hid (dfixedL_next hk (by rw [dfixedL_at hk]; simp only [if_pos h280]))
    have H3:=H2.newBk [.int .i64 8] 3
    have HR3:=Lib.hid (Rd.of_blk (H3.blk 0 rfl))
    have HH3:=Lib.hid (H3.pick 4 [1,2,3])
    have c0:=H2.cell 1 rfl 0
    have z0:=H2.frozen 1 rfl 0
    simp only [List.getElem?_cons_zero] at c0
    clear H2 H3
    go_wp2_with (at_builtin; refine wpList_append_sp rfl _ _ 58 rfl 3 i0 (.int .i64 0) 1 8 Tryd.underlying58 hi hz0 hz1 hz2 rfl (by decide) _ k (cellsN (PI.fixedL.take k)) rfl HH3.out (some ⟨_,0,none⟩) 1 1 [.int .i64 8] rfl rfl HR3.out (by intro u hu; rw [List.mem_singleton.1 hu]; rfl) (by unfold maxLen; omega) (by omega) ?_)
    intro v4 w4 H4 _
    obtain⟨VA4,vc4,rfl,_,_⟩:=Row.form H4 0 rfl
    have c4:=H4.cell 1 rfl 0
    have z4:=H4.frozen 1 rfl 0
    simp only [List.getElem?_cons_zero] at c4
    have HX:=Lib.hid (H4.swap.set 0 (.slice VA4 (k+1) vc4))
    clear HH3 HR3 c0 z0 H4
    go_wp2_with fail
    go_roundw
    case rel =>
     refine⟨k+1,.slice VA4 (k+1) vc4,by go_num,by omega,?_⟩
     have h:=HX.out.swap
     rw [HV.out,cellsN_app]
     exact h
    case measure=>first | (simp [intOf]; omega) | simp [intOf]
   ·have k2:¬ (k:Int)≥280:=by omega
    by_cases h256:256<=k
    ·have k3:(k:Int)≥256:=by omega
     have HV:Hid (PI.fixedL.take (k+1)=PI.fixedL.take k++[7]):=Lib.hid (dfixedL_next hk (by rw [dfixedL_at hk]; simp only [if_neg h280,if_pos h256]))
     have H3:=H2.newBk [.int .i64 7] 3
     have HR3:=Lib.hid (Rd.of_blk (H3.blk 0 rfl))
     have HH3:=Lib.hid (H3.pick 4 [1,2,3])
     have c0:=H2.cell 1 rfl 0
     have z0:=H2.frozen 1 rfl 0
     simp only [List.getElem?_cons_zero] at c0
     clear H2 H3
     go_wp2_with (at_builtin; refine wpList_append_sp rfl _ _ 58 rfl 3 i0 (.int .i64 0) 1 8 Tryd.underlying58 hi hz0 hz1 hz2 rfl (by decide) _ k (cellsN (PI.fixedL.take k)) rfl HH3.out (some ⟨_,0,none⟩) 1 1 [.int .i64 7] rfl rfl HR3.out (by intro u hu; rw [List.mem_singleton.1 hu]; rfl) (by unfold maxLen; omega) (by omega) ?_)
     intro v4 w4 H4 _
     obtain⟨VA4,vc4,rfl,_,_⟩:=Row.form H4 0 rfl
     have c4:=H4.cell 1 rfl 0
     have z4:=H4.frozen 1 rfl 0
     simp only [List.getElem?_cons_zero] at c4
     have HX:=Lib.hid (H4.swap.set 0 (.slice VA4 (k+1) vc4))
     clear HH3 HR3 c0 z0 H4
     go_wp2_with fail
     go_roundw
     case rel =>
      refine⟨k+1,.slice VA4 (k+1) vc4,by go_num,by omega,?_⟩
      have h:=HX.out.swap
      rw [HV.out,cellsN_app]
      exact h
     case measure=>first | (simp [intOf]; omega) | simp [intOf]
    ·have k3:¬ (k:Int)≥256:=by omega
     by_cases h144:144<=k
     ·have k4:(k:Int)≥144:=by omega
      have HV:Hid (PI.fixedL.take (k+1)=PI.fixedL.take k++[9]):=Lib.hid (dfixedL_next hk (by rw [dfixedL_at hk]; simp only [if_neg h280,if_neg h256,if_pos h144]))
      have H3:=H2.newBk [.int .i64 9] 3
      have HR3:=Lib.hid (Rd.of_blk (H3.blk 0 rfl))
      have HH3:=Lib.hid (H3.pick 4 [1,2,3])
      have c0:=H2.cell 1 rfl 0
      have z0:=H2.frozen 1 rfl 0
      simp only [List.getElem?_cons_zero] at c0
      clear H2 H3
      go_wp2_with (at_builtin; refine wpList_append_sp rfl _ _ 58 rfl 3 i0 (.int .i64 0) 1 8 Tryd.underlying58 hi hz0 hz1 hz2 rfl (by decide) _ k (cellsN (PI.fixedL.take k)) rfl HH3.out (some ⟨_,0,none⟩) 1 1 [.int .i64 9] rfl rfl HR3.out (by intro u hu; rw [List.mem_singleton.1 hu]; rfl) (by unfold maxLen; omega) (by omega) ?_)
      intro v4 w4 H4 _
      obtain⟨VA4,vc4,rfl,_,_⟩:=Row.form H4 0 rfl
      have c4:=H4.cell 1 rfl 0
      have z4:=H4.frozen 1 rfl 0
      simp only [List.getElem?_cons_zero] at c4
      have HX:=Lib.hid (H4.swap.set 0 (.slice VA4 (k+1) vc4))
      clear HH3 HR3 c0 z0 H4
      go_wp2_with fail
      go_roundw
      case rel =>
       refine⟨k+1,.slice VA4 (k+1) vc4,by go_num,by omega,?_⟩
       have h:=HX.out.swap
       rw [HV.out,cellsN_app]
       exact h
      case measure=>first | (simp [intOf]; omega) | simp [intOf]
     ·have k4:¬ (k:Int)≥144:=by omega
      have HV:Hid (PI.fixedL.take (k+1)=PI.fixedL.take k++[8]):=Lib.hid (dfixedL_next hk (by rw [dfixedL_at hk]; simp only [if_neg h280,if_neg h256,if_neg h144]))
      have H3:=H2.newBk [.int .i64 8] 3
      have HR3:=Lib.hid (Rd.of_blk (H3.blk 0 rfl))
      have HH3:=Lib.hid (H3.pick 4 [1,2,3])
      have c0:=H2.cell 1 rfl 0
      have z0:=H2.frozen 1 rfl 0
      simp only [List.getElem?_cons_zero] at c0
      clear H2 H3
      go_wp2_with (at_builtin; refine wpList_append_sp rfl _ _ 58 rfl 3 i0 (.int .i64 0) 1 8 Tryd.underlying58 hi hz0 hz1 hz2 rfl (by decide) _ k (cellsN (PI.fixedL.take k)) rfl HH3.out (some ⟨_,0,none⟩) 1 1 [.int .i64 8] rfl rfl HR3.out (by intro u hu; rw [List.mem_singleton.1 hu]; rfl) (by unfold maxLen; omega) (by omega) ?_)
      intro v4 w4 H4 _
      obtain⟨VA4,vc4,rfl,_,_⟩:=Row.form H4 0 rfl
      have c4:=H4.cell 1 rfl 0
      have z4:=H4.frozen 1 rfl 0
      simp only [List.getElem?_cons_zero] at c4
      have HX:=Lib.hid (H4.swap.set 0 (.slice VA4 (k+1) vc4))
      clear HH3 HR3 c0 z0 H4
      go_wp2_with fail
      go_roundw
      case rel =>
       refine⟨k+1,.slice VA4 (k+1) vc4,by go_num,by omega,?_⟩
       have h:=HX.out.swap
       rw [HV.out,cellsN_app]
       exact h
      case measure=>first | (simp [intOf]; omega) | simp [intOf]
  ·have k1:¬ (k:Int)<288:=by omega
   obtain rfl:k=288:=by omega
   rw [List.take_of_length_le (by rw [dfixedL_len]; exact Nat.le_refl _)] at H2
   have HX:=Lib.hid (H2.rowNil 3 1)
   clear H2
   go_wp2_with fail
   clear hk hlt k1
   go_loopw [23] (fun jv wr=>∃(j:Nat) (u:Value),jv=.int .i64 (j:Int)/\j<=32/\Sp w0 (Row 3 1 u j (cellsN (List.replicate j 5))::Row 3 1 (.slice VA 288 vc) 288 (cellsN PI.fixedL)::Bk g 163 [.slice VA 288 vc,u]::Bk g0 163 [.slice none 0 0,.slice none 0 0]::L) wr) (fun jv _=>32 - (intOf jv).toNat)
   case atStart=>exact⟨0,_,rfl,Nat.zero_le _,HX.out⟩
   case round =>
    obtain⟨j,u,rfl,hj,H2⟩:=hrel
    clear HX
    obtain⟨VB,vb,rfl,_,_⟩:=Row.form H2 0 rfl
    by_cases hlt:j<32
    ·have k1:(j:Int)<32:=by omega
     have H3:=H2.newBk [.int .i64 5] 3
     have HR3:=Lib.hid (Rd.of_blk (H3.blk 0 rfl))
     have HH3:=Lib.hid (H3.pick 5 [1,2,3,4])
     have c0:=H2.cell 2 rfl 1
     have z0:=H2.frozen 2 rfl 1
     simp only [List.getElem?_cons_zero,List.getElem?_cons_succ] at c0
     clear H2 H3
     go_wp2_with (at_builtin; refine wpList_append_sp rfl _ _ 58 rfl 3 i0 (.int .i64 0) 1 8 Tryd.underlying58 hi hz0 hz1 hz2 rfl (by decide) _ j (cellsN (List.replicate j 5)) rfl HH3.out (some ⟨_,0,none⟩) 1 1 [.int .i64 5] rfl rfl HR3.out (by intro u hu; rw [List.mem_singleton.1 hu]; rfl) (by unfold maxLen; omega) (by omega) ?_)
     intro v4 w4 H4 _
     obtain⟨VB4,vb4,rfl,_,_⟩:=Row.form H4 0 rfl
     have c4:=H4.cell 2 rfl 1
     have z4:=H4.frozen 2 rfl 1
     simp only [List.getElem?_cons_zero,List.getElem?_cons_succ] at c4
     have HX:=Lib.hid ((H4.pick 3 [2,0,1]).set 1 (.slice VB4 (j+1) vb4))
     clear HH3 HR3 c0 z0 H4
     go_wp2_with fail
     go_roundw
     case rel =>
      refine⟨j+1,.slice VB4 (j+1) vb4,by go_num,by omega,?_⟩
      have h:=HX.out.pick 3 [1,2,0]
      rw [List.replicate_succ',cellsN_app]
      exact h
     case measure=>first | (simp [intOf]; omega) | simp [intOf]
    ·have k1:¬ (j:Int)<32:=by omega
     obtain rfl:j=32:=by omega
     have c0:=H2.cell 2 rfl 0
     have c1:=H2.cell 2 rfl 1
     have d0:=H2.cell 3 rfl 0
     have d1:=H2.cell 3 rfl 1
     have z0:=H2.frozen 3 rfl 0
     have z1:=H2.frozen 3 rfl 1
     simp only [List.getElem?_cons_zero,List.getElem?_cons_succ] at c0 c1 d0 d1
     have HX:=Lib.hid (((H2.pick 4 [3,0,1,2]).set 0 (.slice VA 288 vc)).set 1 (.slice VB 32 vb))
     clear H2
     go_wp2_with fail
     have t0:=HX.out.cell 0 rfl 0
     have t1:=HX.out.cell 0 rfl 1
     simp only [List.set_cons_zero,List.set_cons_succ,List.getElem?_cons_zero,List.getElem?_cons_succ] at t0 t1
     exact bodyPost_ret (v:=.agg #[.slice VA 288 vc,.slice VB 32 vb]) (by simp [results,go_sem,t0,t1]) rfl ⟨_,_,rfl,HX.out.pick 4 [2,1]⟩
namespace PI
abbrev Sg:=Nat × Nat × Nat
def farNx (f:Bool) (s:Nat):Bool:=!f && decide (256<s)
def farAt (l:List Sg):Nat->Bool
 | 0=>false
 | k+1=>farNx (farAt l k) (l.getD k (0,0,0)).1
theorem getD_cons_drop {α:Type} {l:List α} {k:Nat} (z:α) (h:k<l.length):l.drop k=l.getD k z::l.drop (k+1):=by
 rw [List.drop_eq_getElem_cons h,List.getD_eq_getElem?_getD,List.getElem?_eq_getElem h]; rfl
def SgOk (l:List Sg):Prop:=∀k,k<l.length->((farAt l k=false->(l.getD k (0,0,0)).1<286)/\(farAt l k=true->(l.getD k (0,0,0)).1<30))/\(l.getD k (0,0,0)).2.2<=13/\(l.getD k (0,0,0)).2.1<32768
end PI
namespace PI
theorem runL_eq (x:Nat):∀(l:List Nat) (m:Nat),m<=l.length->(∀j,j<m->l.getD j 0=x)->(m<l.length->l.getD m 0≠x)->runL x l=m:=by
 intro l
 induction l with
 | nil=>intro m h _ _; simp at h; rw [h]; rfl
 | cons y l ih =>
  intro m h1 h2 h3
  cases m with
  | zero =>
   have:=h3 (by simp)
   unfold runL
   rw [if_neg (by simpa using this)]
  | succ m =>
   have h0:=h2 0 (by omega)
   unfold runL
   rw [if_pos (by simpa using h0),ih m (by simpa using h1) (fun j hj=>by simpa using h2 (j+1) (by omega)) (fun hj=>by simpa using h3 (by simpa using hj))]
theorem runL_at {l:List Nat} {i k:Nat} (hi:i<l.length) (hik:i<k) (hk:k<=l.length) (h:∀j,i<=j->j<k->l.getD j 0=l.getD i 0) (hs:k<l.length->l.getD k 0≠l.getD i 0):runL (l.getD i 0) (l.drop (i+1))+1=k - i:=by
 have e:runL (l.getD i 0) (l.drop i)=k - i:=by
  refine runL_eq _ _ _ (by rw [List.length_drop]; omega) (fun j hj=>?_) (fun hj=>?_)
  ·rw [List.getD_eq_getElem?_getD,List.getElem?_drop,<- List.getD_eq_getElem?_getD]
   exact h (i+j) (by omega) (by omega)
  ·rw [List.getD_eq_getElem?_getD,List.getElem?_drop,<- List.getD_eq_getElem?_getD,show i+(k - i)=k by omega]
   exact hs (by rw [List.length_drop] at hj; omega)
 rw [<- e,getD_cons_drop 0 hi,runL,if_pos rfl]
end PI
end Go.Proofs.YtloijdbkikccgaaDoor

