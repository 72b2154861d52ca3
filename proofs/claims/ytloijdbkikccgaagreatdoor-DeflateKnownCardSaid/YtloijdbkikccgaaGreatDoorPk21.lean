/- A pack of texts: MatchS MatchT MatchR MatchD MatchE MatchX MatchY. -/
import Derived.Test.YtloijdbkikccgaaGreatDoorPk03
import Derived.Test.YtloijdbkikccgaaGreatDoorPk20
namespace Go.Proofs.YtloijdbkikccgaaGreatDoor
open Go.RowKit Go.MapKept
def stCells (s:PM.St):List Value:=[.int .i64 (s.1:Int),.int .i64 (s.2.1:Int),.int .u8 (s.2.2.toNat:Int)]
def stsV (l:List PM.St):List Value:=l.flatMap stCells
theorem stsV_append (a b:List PM.St):stsV (a++b)=stsV a++stsV b:=by simp [stsV]
theorem stsV_length (l:List PM.St):(stsV l).length=l.length * 3:=by
 induction l with
 | nil=>rfl
 | cons s l ih =>
  show(stCells s++stsV l).length=_
  rw [List.length_append,ih,List.length_cons]
  show 3+_=_
  omega
theorem infoSM:(Tryz.prog.info? 75).map (fun i=>(i.zero,i.size,i.bytes))=some (some (.agg #[.int .i64 0,.int .i64 0,.int .u8 0]),3,24):=by kernel_rfl
theorem st_one (s:PM.St):∀u ∈ stCells s,u.oneCell'=true:=by
 intro u hu
 simp only [stCells,List.mem_cons,List.not_mem_nil,or_false] at hu
 rcases hu with rfl | rfl | rfl <;> rfl
set_option maxRecDepth 100000 in
set_option maxHeartbeats 4000000 in
theorem steps_ok (g l d:Nat) (A0:Option Addr) (c:Nat) (B:List UInt8) {w0 w:World} {L:List Pr} (H:Sp w0 (Fd g (.slice A0 l c) B (d:Int) 0::L) w) (hl:l=B.length) (hb:Ent L (fun w=>Byt w (.slice A0 l c) B)) (hlm:l<=1000000) :
  Calls Tryz.prog 101 #[.slice A0 l c,.func (.func 103) #[.pointer (some ⟨g,0,none⟩)] #[]] w (Ret fun v w'=>Sp w0 (Row 75 3 v (PM.Cut B d).length (stsV (PM.Cut B d))::L) w'):=by
 obtain⟨i0,hi,hz0,hz1,hz2⟩:=info_parts infoSM
 have HL:=Lib.hid hl
 have HB:=Lib.hid hb
 clear hl hb
 go_enter Tryz.func101,Tryz.ntmps101
 go_wp2
 go_loopw [5,6] (fun lv iv wr=>∃(q n:Nat) (V:Option Addr) (cV:Nat) (D:List PM.St),iv=.int .i64 (q:Int)/\lv=.slice V D.length cV/\q<=l/\n<=q/\D.length<=q/\D++PM.cutAt B d q=PM.Cut B d /\
   Sp w0 (Row 75 3 (.slice V D.length cV) D.length (stsV D)::Fd g (.slice A0 l c) B (d:Int) n::L) wr) (fun _ iv _=>l - (intOf iv).toNat)
 case atStart=>exact⟨0,0,none,0,[],rfl,rfl,Nat.zero_le _,Nat.le_refl _,Nat.le_refl _,(PM.Cut_at B d).symm,H.rowNil _ _⟩
 case round =>
  obtain⟨q,n,V,cV,D,rfl,rfl,hq,hn,hDq,hcut,H⟩:=hrel
  have HCUT:=Lib.hid hcut
  clear hcut
  by_cases hql:q<l
  ·have k1:decide ((q:Int)<(l:Int))=true:=decide_eq_true (by omega)
   obtain⟨ad,rfl⟩:∃ad,A0=some ad:=by
    obtain⟨_,_,e,hr,_,_⟩:=HB.out _ _ (H.pick 2 [])
    obtain⟨ad,e2,_⟩:=hr.at8 (k:=q) (by rw [<- HL.out]; omega)
    injection e with e
    exact⟨ad,e.trans e2⟩
   obtain⟨bx,hbx⟩:∃bx:UInt8,B.getD q 0=bx:=⟨_,rfl⟩
   have hcell:Ent L (fun w=>w.cell? (ad.add q)=some (.int .u8 (bx.toNat:Int))):=HB.out.mono fun w' hw=>by
    obtain⟨_,_,e,hr,_,_⟩:=hw
    have hqB:q<B.length:=by rw [<- HL.out]; exact hql
    obtain⟨ad2,e2,hc⟩:=hr.at8 hqB
    injection e with e
    rw [<- e] at e2
    injection e2 with e2
    rw [e2,hc,<- hbx,List.getD_eq_getElem?_getD,List.getElem?_eq_getElem hqB]
    rfl
   have HCE:=Lib.hid hcell
   have HBX:=Lib.hid hbx
   clear hcell hbx
   obtain⟨b1,hb1⟩:∃b1,(PM.best B q d).1=b1:=⟨_,rfl⟩
   obtain⟨b2,hb2⟩:∃b2,(PM.best B q d).2=b2:=⟨_,rfl⟩
   have hbl:b1<=l - q:=by
    rcases PM.best_is B q d with h0 | ⟨far,h1,h2,h3,h4,h5,h6⟩
    ·rw [<- hb1,h0]; exact Nat.zero_le _
    ·have:=PM.mlen_in (B:=B) (p:=q - far) (q:=q) (by omega)
     rw [<- hb1,h5,HL.out]
     show PM.mlen B (q - far) q<=_
     omega
   have HB1:=Lib.hid hb1
   have HB2:=Lib.hid hb2
   have hbest:=best_ok g q n l d (some ad) c B H.swap HL.out (Ent.cons _ HB.out) (by omega) (by omega) hn
   rw [hb1,hb2] at hbest
   have HBEST:=Lib.hid hbest
   clear hb1 hb2 hbest
   by_cases h0:b1=0
   ·have e0:decide (0<b1)=false:=decide_eq_false (by omega)
    rw [e0] at HBEST
    go_wp2_with fail
    refine HBEST.out.mono ?_
    rintro _ w2 ⟨n2,hn2,rfl,H2⟩
    unfold stV
    have ce:∀o,(w2.alloc o).cell? (ad.add q)=some (.int .u8 (bx.toNat:Int)):=fun o=>HCE.out _ _ ((H2.alloc o).pick 2 [])
    have hsz:(w2.alloc (.cells #[.int .i64 0,.int .i64 0,.int .u8 (bx.toNat:Int)] 75)).heap.size=w2.heap.size+1:=Array.size_push _
    have hr9:Rd ((w2.alloc (.cells #[.int .i64 0,.int .i64 0,.int .u8 (bx.toNat:Int)] 75)).alloc (.cells #[.int .i64 0,.int .i64 0,.int .u8 (bx.toNat:Int)] 75)) (some ⟨w2.heap.size+1,0,none⟩) (stCells (0,0,bx)):=by
     have:=Rd.of_blk (Blk.new (w2.alloc (.cells #[.int .i64 0,.int .i64 0,.int .u8 (bx.toNat:Int)] 75)) 75 [.int .i64 0,.int .i64 0,.int .u8 (bx.toNat:Int)])
     rwa [hsz] at this
    have HR9:=Lib.hid hr9
    have H9:=((H2.newBk [.int .i64 0,.int .i64 0,.int .u8 (bx.toNat:Int)] 75).pick 3 [2,0,1]).alloc (.cells #[.int .i64 0,.int .i64 0,.int .u8 (bx.toNat:Int)] 75)
    have HH9:=Lib.hid H9
    clear hr9 H9 hsz
    go_wp2_with (at_builtin; refine wpList_append_sp rfl _ _ 50 rfl 75 i0 (.agg #[.int .i64 0,.int .i64 0,.int .u8 0]) 3 24 Tryz.underlying50 hi hz0 hz1 hz2 rfl (by decide) (.slice V D.length cV) D.length (stsV D) rfl HH9.out (some ⟨w2.heap.size+1,0,none⟩) 1 1 (stCells (0,0,bx)) rfl rfl HR9.out (st_one _) (by unfold maxLen; omega) (by omega) ?_)
    intro v5 w5 H5 _
    clear HH9 HR9
    obtain⟨V5,c5,rfl,_,_⟩:=Row.form H5 0 rfl
    generalize w2.heap.size=s at H5 ⊢
    have t0:=H5.cell 1 rfl 0
    have t1:=H5.cell 1 rfl 1
    have t2:=H5.cell 1 rfl 2
    simp only [List.getElem?_cons_zero,List.getElem?_cons_succ] at t0 t1 t2
    clear ce
    go_wp2_with fail
    refine(made_ok (0,0,bx) _).mono ?_
    rintro _ w6 ⟨rfl,K6⟩
    have H6:=K6.sep H5
    have hmade:PM.made (0,0,bx)=1:=rfl
    rw [hmade]
    go_wp2
    go_roundw
    case rel =>
     refine⟨q+1,n2,V5,c5,D++[(0,0,bx)],by go_num,by rw [List.length_append]; rfl,by omega,by omega,by rw [List.length_append]; show D.length+1<=_; omega,?_,?_⟩
     ·rw [<- HCUT.out,PM.cutAt_lit B d q (by rw [<- HL.out]; exact hql) (.inl (by rw [HB1.out]; exact h0)),HBX.out,List.append_assoc]
      rfl
     ·rw [List.length_append,stsV_append,show stsV [(0,0,bx)]=stCells (0,0,bx)++[] from rfl,List.append_nil]
      exact H6.pick 3 [0,2]
    case measure=>simp [intOf]; omega
   ·have e0:decide (0<b1)=true:=decide_eq_true (by omega)
    rw [e0] at HBEST
    by_cases hq1:q+1<l
    ·have k2:decide ((q:Int)+1<(l:Int))=true:=decide_eq_true (by omega)
     go_wp2_with fail
     refine HBEST.out.mono ?_
     rintro _ w2 ⟨n2,hn2,rfl,H2⟩
     unfold stV
     go_wp2_with fail
     have H2b:=(H2.newBk [.int .i64 (b1:Int),.int .i64 (b2:Int),.int .u8 0] 75).swap
     generalize w2.heap.size=s at H2b ⊢
     generalize w2.alloc _=w3 at H2b ⊢
     clear H2 w2
     have hbest2:=best_ok g (q+1) n2 l d (some ad) c B H2b HL.out (Ent.pick 2 [] HB.out) (by omega) (by omega) (by omega)
     obtain⟨c1,hc1⟩:∃c1,(PM.best B (q+1) d).1=c1:=⟨_,rfl⟩
     obtain⟨c2,hc2⟩:∃c2,(PM.best B (q+1) d).2=c2:=⟨_,rfl⟩
     have hqe:((q+1:Nat):Int)=(q:Int)+1:=by omega
     rw [hqe,hc1,hc2] at hbest2
     have HC1:=Lib.hid hc1
     have HC2:=Lib.hid hc2
     clear hqe hc1 hc2 H2b
     refine hbest2.mono ?_
     rintro _ w4 ⟨n3,hn3,rfl,H4⟩
     unfold stV
     have t0:∀o,(w4.alloc o).cell? ⟨s,0,none⟩=some (.int .i64 (b1:Int)):=fun o=>(H4.alloc o).cell 1 rfl 0
     have t1:∀o,(w4.alloc o).cell? ⟨s,1,none⟩=some (.int .i64 (b2:Int)):=fun o=>(H4.alloc o).cell 1 rfl 1
     have t2:∀o,(w4.alloc o).cell? ⟨s,2,none⟩=some (.int .u8 0):=fun o=>(H4.alloc o).cell 1 rfl 2
     have z0:∀o,(w4.alloc o).frozen? ⟨s,0,none⟩=false:=fun o=>(H4.alloc o).frozen 1 rfl 0
     have z1:∀o,(w4.alloc o).frozen? ⟨s,1,none⟩=false:=fun o=>(H4.alloc o).frozen 1 rfl 1
     have z2:∀o,(w4.alloc o).frozen? ⟨s,2,none⟩=false:=fun o=>(H4.alloc o).frozen 1 rfl 2
     have ce:∀o,(w4.alloc o).cell? (ad.add q)=some (.int .u8 (bx.toNat:Int)):=fun o=>HCE.out _ _ ((H4.alloc o).pick 3 [])
     clear hbest2
     by_cases hbc:b1<c1
     ·have e1:decide (0<c1)=true:=decide_eq_true (by omega)
      have e2:decide (b1<c1)=true:=decide_eq_true hbc
      rw [e1]
      have hlit:PM.cutAt B d q=(0,0,bx)::PM.cutAt B d (q+1):=by
       rw [PM.cutAt_lit B d q (by rw [<- HL.out]; exact hql) (.inr (by rw [HB1.out,HC1.out]; exact hbc)),HBX.out]
      have HLIT:=Lib.hid hlit
      clear hlit
      have hsz:((((w4.alloc (.cells #[.int .i64 (c1:Int),.int .i64 (c2:Int),.int .u8 0] 75)).setCell ⟨s,0,none⟩ (.int .i64 0)).setCell ⟨s,1,none⟩ (.int .i64 0)).setCell ⟨s,2,none⟩ (.int .u8 (bx.toNat:Int))).heap.size=w4.heap.size+1:=by simp [World.setCell]
      have hr9:Rd (((((w4.alloc (.cells #[.int .i64 (c1:Int),.int .i64 (c2:Int),.int .u8 0] 75)).setCell ⟨s,0,none⟩ (.int .i64 0)).setCell ⟨s,1,none⟩ (.int .i64 0)).setCell ⟨s,2,none⟩ (.int .u8 (bx.toNat:Int))).alloc (.cells #[.int .i64 0,.int .i64 0,.int .u8 (bx.toNat:Int)] 75)) (some ⟨w4.heap.size+1,0,none⟩) (stCells (0,0,bx)):=by
       have:=Rd.of_blk (Blk.new ((((w4.alloc (.cells #[.int .i64 (c1:Int),.int .i64 (c2:Int),.int .u8 0] 75)).setCell ⟨s,0,none⟩ (.int .i64 0)).setCell ⟨s,1,none⟩ (.int .i64 0)).setCell ⟨s,2,none⟩ (.int .u8 (bx.toNat:Int))) 75 [.int .i64 0,.int .i64 0,.int .u8 (bx.toNat:Int)])
       rwa [hsz] at this
      have HR9:=Lib.hid hr9
      have H9:=((((((H4.alloc (.cells #[.int .i64 (c1:Int),.int .i64 (c2:Int),.int .u8 0] 75)).pick 3 [1,0,2]).set 0 (.int .i64 0)).set 1 (.int .i64 0)).set 2 (.int .u8 (bx.toNat:Int))).pick 3 [2,0,1]).alloc (.cells #[.int .i64 0,.int .i64 0,.int .u8 (bx.toNat:Int)] 75)
      have HH9:=Lib.hid H9
      clear hr9 H9 hsz
      go_wp2_with (at_builtin; refine wpList_append_sp rfl _ _ 50 rfl 75 i0 (.agg #[.int .i64 0,.int .i64 0,.int .u8 0]) 3 24 Tryz.underlying50 hi hz0 hz1 hz2 rfl (by decide) (.slice V D.length cV) D.length (stsV D) rfl HH9.out (some ⟨w4.heap.size+1,0,none⟩) 1 1 (stCells (0,0,bx)) rfl rfl HR9.out (st_one _) (by unfold maxLen; omega) (by omega) ?_)
      intro v5 w5 H5 _
      clear HH9 HR9
      obtain⟨V5,c5,rfl,_,_⟩:=Row.form H5 0 rfl
      generalize w4.heap.size=s at H5 ⊢
      have t0:=H5.cell 1 rfl 0
      have t1:=H5.cell 1 rfl 1
      have t2:=H5.cell 1 rfl 2
      simp only [List.getElem?_cons_zero,List.getElem?_cons_succ] at t0 t1 t2
      clear ce
      go_wp2_with fail
      refine(made_ok (0,0,bx) _).mono ?_
      rintro _ w6 ⟨rfl,K6⟩
      have H6:=K6.sep H5
      have hmade:PM.made (0,0,bx)=1:=rfl
      rw [hmade]
      go_wp2
      go_roundw
      case rel =>
       refine⟨q+1,n3,V5,c5,D++[(0,0,bx)],by go_num,by rw [List.length_append]; rfl,by omega,by omega,by rw [List.length_append]; show D.length+1<=_; omega,?_,?_⟩
       ·rw [<- HCUT.out,HLIT.out,List.append_assoc]
        rfl
       ·rw [List.length_append,stsV_append,show stsV [(0,0,bx)]=stCells (0,0,bx)++[] from rfl,List.append_nil]
        exact H6.pick 3 [0,2]
      case measure=>simp [intOf]; omega
     ·have hcopy:PM.cutAt B d q=(b1,b2,0)::PM.cutAt B d (q+b1):=by
       rw [PM.cutAt_copy B d q (by rw [<- HL.out]; exact hql) (by rw [HB1.out,HC1.out]; omega),HB1.out,HB2.out]
      have HCOPY:=Lib.hid hcopy
      clear hcopy
      by_cases hc0:c1=0
      ·have e1:decide (0<c1)=false:=decide_eq_false (by omega)
       rw [e1]
       clear hc0
       have hsz:(w4.alloc (.cells #[.int .i64 (c1:Int),.int .i64 (c2:Int),.int .u8 0] 75)).heap.size=w4.heap.size+1:=Array.size_push _
       have hr9:Rd ((w4.alloc (.cells #[.int .i64 (c1:Int),.int .i64 (c2:Int),.int .u8 0] 75)).alloc (.cells #[.int .i64 (b1:Int),.int .i64 (b2:Int),.int .u8 0] 75)) (some ⟨w4.heap.size+1,0,none⟩) (stCells (b1,b2,0)):=by
        have:=Rd.of_blk (Blk.new (w4.alloc (.cells #[.int .i64 (c1:Int),.int .i64 (c2:Int),.int .u8 0] 75)) 75 [.int .i64 (b1:Int),.int .i64 (b2:Int),.int .u8 0])
        rwa [hsz] at this
       have HR9:=Lib.hid hr9
       have H9:=((H4.alloc (.cells #[.int .i64 (c1:Int),.int .i64 (c2:Int),.int .u8 0] 75)).pick 3 [2,1,0]).alloc (.cells #[.int .i64 (b1:Int),.int .i64 (b2:Int),.int .u8 0] 75)
       have HH9:=Lib.hid H9
       clear hr9 H9 hsz
       go_wp2_with (at_builtin; refine wpList_append_sp rfl _ _ 50 rfl 75 i0 (.agg #[.int .i64 0,.int .i64 0,.int .u8 0]) 3 24 Tryz.underlying50 hi hz0 hz1 hz2 rfl (by decide) (.slice V D.length cV) D.length (stsV D) rfl HH9.out (some ⟨w4.heap.size+1,0,none⟩) 1 1 (stCells (b1,b2,0)) rfl rfl HR9.out (st_one _) (by unfold maxLen; omega) (by omega) ?_)
       intro v5 w5 H5 _
       clear HH9 HR9
       obtain⟨V5,c5,rfl,_,_⟩:=Row.form H5 0 rfl
       generalize w4.heap.size=s at H5 ⊢
       have t0:=H5.cell 1 rfl 0
       have t1:=H5.cell 1 rfl 1
       have t2:=H5.cell 1 rfl 2
       simp only [List.getElem?_cons_zero,List.getElem?_cons_succ] at t0 t1 t2
       clear ce
       go_wp2_with fail
       refine(made_ok (b1,b2,0) _).mono ?_
       rintro _ w6 ⟨rfl,K6⟩
       have H6:=K6.sep H5
       have hmade:PM.made (b1,b2,0)=b1:=(show max b1 1=b1 by omega)
       rw [hmade]
       go_wp2
       go_roundw
       case rel =>
        refine⟨q+b1,n3,V5,c5,D++[(b1,b2,0)],by go_num,by rw [List.length_append]; rfl,by omega,by omega,by rw [List.length_append]; show D.length+1<=_; omega,?_,?_⟩
        ·rw [<- HCUT.out,HCOPY.out,List.append_assoc]
         rfl
        ·rw [List.length_append,stsV_append,show stsV [(b1,b2,0)]=stCells (b1,b2,0)++[] from rfl,List.append_nil]
         exact H6.pick 3 [0,2]
       case measure=>simp [intOf]; omega
      ·have e1:decide (0<c1)=true:=decide_eq_true (by omega)
       have e2:decide (b1<c1)=false:=decide_eq_false hbc
       rw [e1]
       have hsz:(w4.alloc (.cells #[.int .i64 (c1:Int),.int .i64 (c2:Int),.int .u8 0] 75)).heap.size=w4.heap.size+1:=Array.size_push _
       have hr9:Rd ((w4.alloc (.cells #[.int .i64 (c1:Int),.int .i64 (c2:Int),.int .u8 0] 75)).alloc (.cells #[.int .i64 (b1:Int),.int .i64 (b2:Int),.int .u8 0] 75)) (some ⟨w4.heap.size+1,0,none⟩) (stCells (b1,b2,0)):=by
        have:=Rd.of_blk (Blk.new (w4.alloc (.cells #[.int .i64 (c1:Int),.int .i64 (c2:Int),.int .u8 0] 75)) 75 [.int .i64 (b1:Int),.int .i64 (b2:Int),.int .u8 0])
        rwa [hsz] at this
       have HR9:=Lib.hid hr9
       have H9:=((H4.alloc (.cells #[.int .i64 (c1:Int),.int .i64 (c2:Int),.int .u8 0] 75)).pick 3 [2,1,0]).alloc (.cells #[.int .i64 (b1:Int),.int .i64 (b2:Int),.int .u8 0] 75)
       have HH9:=Lib.hid H9
       clear hr9 H9 hsz
       go_wp2_with (at_builtin; refine wpList_append_sp rfl _ _ 50 rfl 75 i0 (.agg #[.int .i64 0,.int .i64 0,.int .u8 0]) 3 24 Tryz.underlying50 hi hz0 hz1 hz2 rfl (by decide) (.slice V D.length cV) D.length (stsV D) rfl HH9.out (some ⟨w4.heap.size+1,0,none⟩) 1 1 (stCells (b1,b2,0)) rfl rfl HR9.out (st_one _) (by unfold maxLen; omega) (by omega) ?_)
       intro v5 w5 H5 _
       clear HH9 HR9
       obtain⟨V5,c5,rfl,_,_⟩:=Row.form H5 0 rfl
       generalize w4.heap.size=s at H5 ⊢
       have t0:=H5.cell 1 rfl 0
       have t1:=H5.cell 1 rfl 1
       have t2:=H5.cell 1 rfl 2
       simp only [List.getElem?_cons_zero,List.getElem?_cons_succ] at t0 t1 t2
       clear ce
       go_wp2_with fail
       refine(made_ok (b1,b2,0) _).mono ?_
       rintro _ w6 ⟨rfl,K6⟩
       have H6:=K6.sep H5
       have hmade:PM.made (b1,b2,0)=b1:=(show max b1 1=b1 by omega)
       rw [hmade]
       go_wp2
       go_roundw
       case rel =>
        refine⟨q+b1,n3,V5,c5,D++[(b1,b2,0)],by go_num,by rw [List.length_append]; rfl,by omega,by omega,by rw [List.length_append]; show D.length+1<=_; omega,?_,?_⟩
        ·rw [<- HCUT.out,HCOPY.out,List.append_assoc]
         rfl
        ·rw [List.length_append,stsV_append,show stsV [(b1,b2,0)]=stCells (b1,b2,0)++[] from rfl,List.append_nil]
         exact H6.pick 3 [0,2]
       case measure=>simp [intOf]; omega
    ·have k2:decide ((q:Int)+1<(l:Int))=false:=decide_eq_false (by omega)
     have hcopy:PM.cutAt B d q=(b1,b2,0)::PM.cutAt B d (q+b1):=by
      rw [PM.cutAt_copy B d q (by rw [<- HL.out]; exact hql) (by rw [HB1.out,PM.best_short B (q+1) d (by rw [<- HL.out]; omega)]; show ¬ (b1=0∨b1<0); omega),HB1.out,HB2.out]
     have HCOPY:=Lib.hid hcopy
     clear hcopy
     go_wp2_with fail
     refine HBEST.out.mono ?_
     rintro _ w2 ⟨n2,hn2,rfl,H2⟩
     unfold stV
     have hsz:(w2.alloc (.cells #[.int .i64 (b1:Int),.int .i64 (b2:Int),.int .u8 0] 75)).heap.size=w2.heap.size+1:=Array.size_push _
     have hr9:Rd ((w2.alloc (.cells #[.int .i64 (b1:Int),.int .i64 (b2:Int),.int .u8 0] 75)).alloc (.cells #[.int .i64 (b1:Int),.int .i64 (b2:Int),.int .u8 0] 75)) (some ⟨w2.heap.size+1,0,none⟩) (stCells (b1,b2,0)):=by
      have:=Rd.of_blk (Blk.new (w2.alloc (.cells #[.int .i64 (b1:Int),.int .i64 (b2:Int),.int .u8 0] 75)) 75 [.int .i64 (b1:Int),.int .i64 (b2:Int),.int .u8 0])
      rwa [hsz] at this
     have HR9:=Lib.hid hr9
     have H9:=((H2.newBk [.int .i64 (b1:Int),.int .i64 (b2:Int),.int .u8 0] 75).pick 3 [2,0,1]).alloc (.cells #[.int .i64 (b1:Int),.int .i64 (b2:Int),.int .u8 0] 75)
     have HH9:=Lib.hid H9
     clear hr9 H9 hsz
     go_wp2_with (at_builtin; refine wpList_append_sp rfl _ _ 50 rfl 75 i0 (.agg #[.int .i64 0,.int .i64 0,.int .u8 0]) 3 24 Tryz.underlying50 hi hz0 hz1 hz2 rfl (by decide) (.slice V D.length cV) D.length (stsV D) rfl HH9.out (some ⟨w2.heap.size+1,0,none⟩) 1 1 (stCells (b1,b2,0)) rfl rfl HR9.out (st_one _) (by unfold maxLen; omega) (by omega) ?_)
     intro v5 w5 H5 _
     clear HH9 HR9
     obtain⟨V5,c5,rfl,_,_⟩:=Row.form H5 0 rfl
     generalize w2.heap.size=s at H5 ⊢
     have t0:=H5.cell 1 rfl 0
     have t1:=H5.cell 1 rfl 1
     have t2:=H5.cell 1 rfl 2
     simp only [List.getElem?_cons_zero,List.getElem?_cons_succ] at t0 t1 t2
     skip
     go_wp2_with fail
     refine(made_ok (b1,b2,0) _).mono ?_
     rintro _ w6 ⟨rfl,K6⟩
     have H6:=K6.sep H5
     have hmade:PM.made (b1,b2,0)=b1:=(show max b1 1=b1 by omega)
     rw [hmade]
     go_wp2
     go_roundw
     case rel =>
      refine⟨q+b1,n2,V5,c5,D++[(b1,b2,0)],by go_num,by rw [List.length_append]; rfl,by omega,by omega,by rw [List.length_append]; show D.length+1<=_; omega,?_,?_⟩
      ·rw [<- HCUT.out,HCOPY.out,List.append_assoc]
       rfl
      ·rw [List.length_append,stsV_append,show stsV [(b1,b2,0)]=stCells (b1,b2,0)++[] from rfl,List.append_nil]
       exact H6.pick 3 [0,2]
     case measure=>simp [intOf]; omega
  ·have k1:decide ((q:Int)<(l:Int))=false:=decide_eq_false (by omega)
   go_wp2_with fail
   go_ret
   refine⟨_,rfl,?_⟩
   have e:D=PM.Cut B d:=by
    rw [<- HCUT.out,PM.cutAt_end B d q (by rw [<- HL.out]; omega),List.append_nil]
   rw [<- e]
   exact H.pick 2 [0]
open Go.RowKit Go.MapKept
def cutL (B:List UInt8) (d:Int):List PM.St:=if 1<=d/\d<=32768 then PM.Cut B d.toNat else []
def cutE (d:Int):Int:=if 1<=d/\d<=32768 then 0 else 1
set_option maxRecDepth 100000 in
theorem Cut_ok (l:Nat) (d:Int) (A0:Option Addr) (c:Nat) (B:List UInt8) {w0 w:World} {L:List Pr} (H:Sp w0 L w) (hl:l=B.length) (hb:Ent L (fun w=>Byt w (.slice A0 l c) B)) (hlm:l<=1000000) :
  Calls Tryz.prog 61 #[.slice A0 l c,.int .i64 d] w fun e w'=>∃v,e=.returned (.tuple #[v,.int .i64 (cutE d)])/\Sp w0 (Row 75 3 v (cutL B d).length (stsV (cutL B d))::L) w':=by
 have HL:=Lib.hid hl
 have HB:=Lib.hid hb
 clear hl hb
 unfold cutE cutL
 by_cases h1:d<1
 ·rw [if_neg (by omega),if_neg (by omega)]
  have k1:decide (d<1)=true:=decide_eq_true h1
  go_enter Tryz.func61,Tryz.ntmps61
  go_wp2
  go_ret2
  exact⟨_,rfl,H.rowNil _ _⟩
 ·have k1:decide (d<1)=false:=decide_eq_false h1
  by_cases h2:32768<d
  ·rw [if_neg (by omega),if_neg (by omega)]
   have k2:decide (32768<d)=true:=decide_eq_true h2
   go_enter Tryz.func61,Tryz.ntmps61
   go_wp2
   go_ret2
   exact⟨_,rfl,H.rowNil _ _⟩
  ·rw [if_pos (by omega),if_pos (by omega)]
   have k2:decide (32768<d)=false:=decide_eq_false h2
   obtain⟨n,rfl⟩:=Int.eq_ofNat_of_zero_le (show 0<=d by omega)
   rw [show(n:Int).toNat=n from rfl]
   go_enter Tryz.func61,Tryz.ntmps61
   go_wp2_with fail
   refine(finds_ok A0 l c (n:Int) B H).mono ?_
   rintro _ w2 ⟨g,rfl,H2⟩
   go_wp2_with fail
   refine(steps_ok g l n A0 c B H2 HL.out HB.out hlm).mono ?_
   rintro _ w3 ⟨v,rfl,H3⟩
   go_wp2
   go_ret2
   exact⟨_,rfl,H3⟩
open Go.RowKit Go.MapKept
namespace PM
theorem go_far (B:List UInt8) (q:Nat) (ps:List Nat) (d:Nat) (b:Nat × Nat) (h:∀p ∈ ps,32768<q - p):go B q ps d b=b:=by
 cases ps with
 | nil=>rfl
 | cons p ps =>
  rw [go]
  split
  ·rfl
  ·rw [if_pos (h p (List.mem_cons_self ..))]
def SInv (B:List UInt8) (q d j t:Nat) (b:Nat × Nat):Prop:=1<=j/\j<=q+1/\t<=j/\b.1<=258/\go B q (places B (q+1 - j) (at3 B q)).reverse (d - t) b=best B q d
theorem SInv.start {B:List UInt8} {q d:Nat} (hq:q+3<=B.length):SInv B q d 1 0 (0,0):=by
 refine⟨Nat.le_refl _,by omega,by omega,Nat.zero_le _,?_⟩
 unfold best
 rw [if_pos hq]
 rfl
theorem SInv.skip {B:List UInt8} {q d j t:Nat} {b:Nat × Nat} (h:SInv B q d j t b) (hq:q+3<=B.length) (hj:j<=q) (hm:mlen B (q - j) q<3):SInv B q d (j+1) t b:=by
 obtain⟨h1,h2,h3,h5,h4⟩:=h
 refine⟨by omega,by omega,by omega,h5,?_⟩
 rw [<- h4]
 have e:q+1 - j=(q - j)+1:=by omega
 rw [e,places_succ,if_neg (fun he=>by have:=(mlen_three hq).2 he; omega),show q+1 - (j+1)=q - j by omega]
theorem SInv.take {B:List UInt8} {q d j t m:Nat} {b:Nat × Nat} (h:SInv B q d j t b) (hq:q+3<=B.length) (hj:j<=q) (hf:j<=32768) (ht:t<d) (hm:mlen B (q - j) q=m) (h3:¬ m<3) :
  SInv B q d (j+1) (t+1) (if b.1<m then (m,j) else b):=by
 obtain⟨h1,h2,h3',h5,h4⟩:=h
 have hm2:=mlen_le B (q - j) q
 refine⟨by omega,by omega,by omega,by split <;> first | exact h5 | (show m<=258; omega),?_⟩
 rw [<- h4]
 have e:q+1 - j=(q - j)+1:=by omega
 rw [e,places_succ,if_pos ((mlen_three hq).1 (by omega)),show q+1 - (j+1)=q - j by omega,List.reverse_append,List.reverse_singleton,List.singleton_append,go,if_neg (show ¬ (d - t=0) by omega),show q - (q - j)=j by omega,if_neg (show ¬ (32768<j) by omega),hm,Nat.sub_sub]
theorem SInv.done {B:List UInt8} {q d j t:Nat} {b:Nat × Nat} (h:SInv B q d j t b) (he:32768<j∨q<j∨d<=t):b=best B q d:=by
 obtain⟨h1,h2,h3,h5,h4⟩:=h
 rw [<- h4]
 rcases he with he | he | he
 ·rw [go_far]
  intro p hp
  rw [List.mem_reverse,places_mem] at hp
  omega
 ·rw [show q+1 - j=0 by omega]; rfl
 ·rw [show d - t=0 by omega,go_zero]
end PM
open Go.RowKit Go.MapKept
theorem stsV_at (X:List PM.St) (i:Nat) (h:i<X.length):(stsV X)[i * 3]?=some (.int .i64 (X[i].1:Int))/\(stsV X)[i * 3+1]?=some (.int .i64 (X[i].2.1:Int))/\(stsV X)[i * 3+2]?=some (.int .u8 (X[i].2.2.toNat:Int)):=by
 induction X generalizing i with
 | nil=>exact absurd h (Nat.not_lt_zero _)
 | cons x X ih =>
  have e:stsV (x::X)=stCells x++stsV X:=rfl
  rw [e]
  cases i with
  | zero=>exact⟨rfl,rfl,rfl⟩
  | succ i =>
   have h3:(stCells x).length=3:=rfl
   have:=ih i (by simpa using h)
   rw [List.getElem?_append_right (by rw [h3]; omega),List.getElem?_append_right (by rw [h3]; omega),List.getElem?_append_right (by rw [h3]; omega),h3,show(i+1) * 3 - 3=i * 3 by omega,show(i+1) * 3+1 - 3=i * 3+1 by omega,show(i+1) * 3+2 - 3=i * 3+2 by omega]
   simpa using this
def StAt (w:World) (V:Option Addr) (X:List PM.St):Prop:=∀(i:Nat) (h:i<X.length),∃ad,V=some ad/\w.cell? (ad.add (i * 3))=some (.int .i64 (X[i].1:Int)) /\
 w.cell? ⟨(ad.add (i * 3)).block,(ad.add (i * 3)).off+1,none⟩=some (.int .i64 (X[i].2.1:Int))/\w.cell? ⟨(ad.add (i * 3)).block,(ad.add (i * 3)).off+2,none⟩=some (.int .u8 (X[i].2.2.toNat:Int))
theorem StAt.of_rd {w:World} {V:Option Addr} {X:List PM.St} (h:Rd w V (stsV X)):StAt w V X:=fun i hi=>by
 obtain⟨ad,e,hc⟩:=h (by
  have:=stsV_length X
  intro h0
  rw [h0] at this
  simp only [List.length_nil] at this
  omega)
 obtain⟨a1,a2,a3⟩:=stsV_at X i hi
 refine⟨ad,e,hc _ _ a1,?_,?_⟩
 ·rw [field_addr ad (i * 3) 1 (by omega)]; exact hc _ _ a2
 ·rw [field_addr ad (i * 3) 2 (by omega)]; exact hc _ _ a3
theorem Sp.stAt {w0 w:World} {L:List Pr} (H:Sp w0 L w) (k:Nat) {e:TypeId} {n c:Nat} {V:Option Addr} {X:List PM.St} (hk:L[k]?=some (Row e 3 (.slice V n c) n (stsV X))):StAt w V X:=by
 obtain⟨A,c',e,hr,_⟩:=H.row_rd k hk
 injection e with e
 subst e
 exact .of_rd hr
open Go.RowKit Go.MapKept
abbrev StI:=Int × Int × UInt8
def toI (s:PM.St):StI:=((s.1:Int),(s.2.1:Int),s.2.2)
def fitsI (s:StI) (n:Int):Bool:=if s.1=0 then decide (s.2.1=0) else decide (3<=s.1/\s.1<=258/\1<=s.2.1/\s.2.1<=32768/\s.2.1<=n/\s.2.2.toNat=0)
def madeI (s:StI):Int:=max s.1 1
def mayI:List StI->Int->Bool
 | [],_=>true
 | s::l,n=>fitsI s n && mayI l (n+madeI s)
def sizeI:List StI->Int
 | []=>0
 | s::l=>madeI s+sizeI l
theorem fitsI_made {s:StI} {n:Int} (h:fitsI s n=true):1<=madeI s/\madeI s<=258:=by
 unfold fitsI at h
 unfold madeI
 split at h
 ·omega
 ·have:=of_decide_eq_true h; omega
theorem mayI_map (X:List PM.St) (n:Nat) (h:PM.mays X n):mayI (X.map toI) (n:Int)=true:=by
 induction X generalizing n with
 | nil=>rfl
 | cons s X ih =>
  obtain⟨h1,h2⟩:=h
  obtain⟨a,b,c⟩:=s
  show(fitsI (toI (a,b,c)) (n:Int) && mayI (X.map toI) ((n:Int)+madeI (toI (a,b,c))))=true
  have e:(n:Int)+madeI (toI (a,b,c))=((n+PM.made (a,b,c):Nat):Int):=by
   show(n:Int)+max (a:Int) 1=((n+max a 1:Nat):Int)
   omega
  rw [e,ih _ h2,Bool.and_true]
  unfold fitsI
  show(if (a:Int)=0 then decide ((b:Int)=0) else _)=true
  rcases h1 with ⟨h3,h4⟩ | ⟨h3,h4,h5,h6,h7,h8⟩
  ·replace h3:a=0:=h3
   replace h4:b=0:=h4
   subst h3 h4
   rfl
  ·replace h3:3<=a:=h3
   replace h4:a<=258:=h4
   replace h5:1<=b:=h5
   replace h6:b<=32768:=h6
   replace h7:b<=n:=h7
   replace h8:c=0:=h8
   subst h8
   rw [if_neg (by omega)]
   exact decide_eq_true ⟨by show(3:Int)<=(a:Int); omega,by show(a:Int)<=258; omega,by show(1:Int)<=(b:Int); omega,by show(b:Int)<=32768; omega,by show(b:Int)<=(n:Int); omega,rfl⟩
theorem sizeI_map (X:List PM.St):sizeI (X.map toI)=(PM.size X:Int):=by
 induction X with
 | nil=>rfl
 | cons s X ih =>
  show madeI (toI s)+sizeI (X.map toI)=((PM.made s+PM.size X:Nat):Int)
  rw [ih]
  show max (s.1:Int) 1+(PM.size X:Int)=((max s.1 1+PM.size X:Nat):Int)
  omega
def StI_ (w:World) (V:Option Addr) (X:List StI):Prop:=∀(i:Nat) (h:i<X.length),∃ad,V=some ad/\w.cell? (ad.add (i * 3))=some (.int .i64 X[i].1) /\
 w.cell? ⟨(ad.add (i * 3)).block,(ad.add (i * 3)).off+1,none⟩=some (.int .i64 X[i].2.1)/\w.cell? ⟨(ad.add (i * 3)).block,(ad.add (i * 3)).off+2,none⟩=some (.int .u8 (X[i].2.2.toNat:Int))
theorem StAt.toI {w:World} {V:Option Addr} {X:List PM.St} (h:StAt w V X):StI_ w V (X.map toI):=fun i hi=>by
 rw [List.length_map] at hi
 obtain⟨ad,e,h1,h2,h3⟩:=h i hi
 refine⟨ad,e,?_,?_,?_⟩
 ·rw [h1,List.getElem_map]; rfl
 ·rw [h2,List.getElem_map]; rfl
 ·rw [h3,List.getElem_map]; rfl
set_option maxRecDepth 100000 in
theorem fits_ok (x y n:Int) (z:UInt8) (w:World) :
  Calls Tryz.prog 62 #[.agg #[.int .i64 x,.int .i64 y,.int .u8 (z.toNat:Int)],.int .i64 n] w fun e w'=>e=.returned (.bool (fitsI (x,y,z) n))/\Keep w w':=by
 obtain⟨r,hr⟩:∃r,fitsI (x,y,z) n=r:=⟨_,rfl⟩
 have hr2:fitsI (x,y,z) n=if x=0 then decide (y=0) else decide (3<=x/\x<=258/\1<=y/\y<=32768/\y<=n/\z.toNat=0):=rfl
 rw [hr2] at hr
 rw [hr2,hr]
 have HR:=Lib.hid hr
 clear hr hr2
 obtain⟨zn,hzn⟩:∃zn,z.toNat=zn:=⟨_,rfl⟩
 rw [hzn] at HR ⊢
 clear hzn
 by_cases hx:x=0
 ·have e:=HR.out
  rw [if_pos hx] at e
  have HE:=Lib.hid e
  clear e HR
  go_enter Tryz.func62,Tryz.ntmps62
  go_wp2
  all_goals (
   go_ret
   refine⟨ret_bool ?_,Keep.alloc _ _⟩
   rw [<- HE.out,Bool.eq_iff_iff]
   simp only [beq_iff_eq,decide_eq_true_eq] <;> first | omega | (constructor <;> intro h <;> first | exact h.elim | omega))
 ·have e:=HR.out
  rw [if_neg hx] at e
  have HE:=Lib.hid e
  clear e HR
  go_enter Tryz.func62,Tryz.ntmps62
  go_wp2
  all_goals (
   go_ret
   refine⟨ret_bool ?_,Keep.alloc _ _⟩
   rw [<- HE.out,Bool.eq_iff_iff]
   simp only [beq_iff_eq,decide_eq_true_eq,Bool.false_eq_true] <;> first | omega | (constructor <;> intro h <;> first | exact h.elim | omega))
theorem made_okI (x y:Int) (z:Int) (w:World) :
  Calls Tryz.prog 59 #[.agg #[.int .i64 x,.int .i64 y,.int .u8 z]] w fun e w'=>e=.returned (.int .i64 (max x 1))/\Keep w w':=by
 obtain⟨m,hm⟩:∃m:Int,max x 1=m:=⟨_,rfl⟩
 rw [hm]
 go_enter Tryz.func59,Tryz.ntmps59
 go_wp2
 all_goals (go_ret; exact⟨ret_i64 (by omega),Keep.alloc _ _⟩)
open Go.RowKit Go.MapKept
theorem mayI_cons {X:List StI} {i:Nat} {a:Int} (h:i<X.length):mayI (X.drop i) a=(fitsI X[i] a && mayI (X.drop (i+1)) (a+madeI X[i])):=by
 rw [List.drop_eq_getElem_cons h]; rfl
theorem sizeI_cons {X:List StI} {i:Nat} (h:i<X.length):sizeI (X.drop i)=madeI X[i]+sizeI (X.drop (i+1)):=by
 rw [List.drop_eq_getElem_cons h]; rfl
set_option maxRecDepth 100000 in
set_option maxHeartbeats 1000000 in
theorem may_ok (V:Option Addr) (n c:Nat) (X:List StI) {w0 w:World} {L:List Pr} (H:Sp w0 L w) (hn:n=X.length) (hnm:n<=1000000) (h:Ent L (fun w=>StI_ w V X)) :
  Calls Tryz.prog 35 #[.slice V n c] w fun e w'=>e=.returned (.bool (mayI X 0))/\Sp w0 L w':=by
 have HN:=Lib.hid hn
 have HX:=Lib.hid h
 clear hn h
 go_enter Tryz.func35,Tryz.ntmps35
 go_wp2_with fail
 go_loopw [3,8] (fun av iv wr=>∃(i:Nat) (a:Int),av=.int .i64 a/\iv=.int .i64 (i:Int)/\i<=n/\0<=a/\a<=258 * (i:Int)/\mayI X 0=mayI (X.drop i) a/\Sp w0 L wr) (fun _ iv _=>n - (intOf iv).toNat)
 case atStart=>exact⟨0,0,rfl,rfl,Nat.zero_le _,by omega,by omega,rfl,H⟩
 case round =>
  obtain⟨i,a,rfl,rfl,hi,ha0,ha1,hm,H⟩:=hrel
  have HM:=Lib.hid hm
  clear hm
  by_cases hin:i<n
  ·have k1:(i:Int)<(n:Int):=by omega
   have hiX:i<X.length:=by rw [<- HN.out]; exact hin
   obtain⟨ad,rfl,p0,p1,p2⟩:=HX.out _ _ H i hiX
   have hcons:=mayI_cons (a:=a) hiX
   obtain⟨x,hx⟩:∃x,X[i].1=x:=⟨_,rfl⟩
   obtain⟨y,hy⟩:∃y,X[i].2.1=y:=⟨_,rfl⟩
   obtain⟨z,hz⟩:∃z,X[i].2.2=z:=⟨_,rfl⟩
   have hXi:X[i]=(x,y,z):=by rw [<- hx,<- hy,<- hz]
   rw [hx] at p0
   rw [hy] at p1
   rw [hz] at p2
   rw [hXi] at hcons
   have HCONS:=Lib.hid hcons
   clear hcons hx hy hz hXi
   go_wp2_with fail
   refine(fits_ok x y a z _).mono ?_
   rintro _ w2 ⟨rfl,K2⟩
   have H2:=K2.sep (H.newBk [.int .i64 x,.int .i64 y,.int .u8 (z.toNat:Int)] 75)
   generalize wr.heap.size=s at H2 ⊢
   clear K2 p0 p1 p2
   by_cases hf:fitsI (x,y,z) a=true
   ·have hmd:=fitsI_made hf
    rw [hf]
    have t0:=H2.cell 0 rfl 0
    have t1:=H2.cell 0 rfl 1
    have t2:=H2.cell 0 rfl 2
    simp only [List.getElem?_cons_zero,List.getElem?_cons_succ] at t0 t1 t2
    obtain⟨m,hmm⟩:∃m,max x 1=m:=⟨_,rfl⟩
    have hmI:madeI (x,y,z)=m:=hmm
    rw [hmI] at hmd
    have e:=HCONS.out
    rw [hf,Bool.true_and,hmI] at e
    have HE:=Lib.hid e
    clear e hf hmI HCONS
    go_wp2_with fail
    refine(made_okI x y (z.toNat:Int) _).mono ?_
    rintro _ w3 ⟨rfl,K3⟩
    have H3:=K3.sep H2
    rw [hmm]
    clear hmm
    go_wp2_with fail
    go_roundw
    case rel=>exact⟨i+1,a+m,by go_num,by go_num,by omega,by omega,by omega,HM.out.trans HE.out,H3.tail⟩
    case measure=>first | (simp [intOf]; omega) | simp [intOf]
   ·have hf2:fitsI (x,y,z) a=false:=by simpa using hf
    rw [hf2]
    go_wp2_with fail
    go_ret
    refine⟨ret_bool ?_,H2.tail⟩
    rw [HM.out,HCONS.out,hf2]
    rfl
  ·have k1:¬ (i:Int)<(n:Int):=by omega
   go_wp2_with fail
   go_ret
   refine⟨ret_bool ?_,H⟩
   rw [HM.out,List.drop_eq_nil_of_le (by rw [<- HN.out]; omega)]
   rfl
set_option maxRecDepth 100000 in
set_option maxHeartbeats 1000000 in
theorem size_ok (V:Option Addr) (n c:Nat) (X:List StI) {w0 w:World} {L:List Pr} (H:Sp w0 L w) (hn:n=X.length) (hnm:n<=1000000) (hb:∀s ∈ X,s.1<=1000000) (h:Ent L (fun w=>StI_ w V X)) :
  Calls Tryz.prog 32 #[.slice V n c] w fun e w'=>e=.returned (.int .i64 (sizeI X))/\Sp w0 L w':=by
 have HN:=Lib.hid hn
 have HX:=Lib.hid h
 clear hn h
 go_enter Tryz.func32,Tryz.ntmps32
 go_wp2_with fail
 go_loopw [3,8] (fun av iv wr=>∃(i:Nat) (a:Int),av=.int .i64 a/\iv=.int .i64 (i:Int)/\i<=n/\0<=a/\a<=1000000 * (i:Int)/\sizeI X=a+sizeI (X.drop i)/\Sp w0 L wr) (fun _ iv _=>n - (intOf iv).toNat)
 case atStart=>exact⟨0,0,rfl,rfl,Nat.zero_le _,by omega,by omega,by rw [Int.zero_add]; rfl,H⟩
 case round =>
  obtain⟨i,a,rfl,rfl,hi,ha0,ha1,hm,H⟩:=hrel
  have HM:=Lib.hid hm
  clear hm
  by_cases hin:i<n
  ·have k1:(i:Int)<(n:Int):=by omega
   have hiX:i<X.length:=by rw [<- HN.out]; exact hin
   obtain⟨ad,rfl,p0,p1,p2⟩:=HX.out _ _ H i hiX
   have hcons:=sizeI_cons hiX
   have hxb:=hb _ (List.getElem_mem hiX)
   obtain⟨x,hx⟩:∃x,X[i].1=x:=⟨_,rfl⟩
   obtain⟨y,hy⟩:∃y,X[i].2.1=y:=⟨_,rfl⟩
   obtain⟨z,hz⟩:∃z,X[i].2.2=z:=⟨_,rfl⟩
   have hXi:X[i]=(x,y,z):=by rw [<- hx,<- hy,<- hz]
   rw [hx] at p0
   rw [hy] at p1
   rw [hz] at p2
   rw [hXi] at hcons hxb
   replace hxb:x<=1000000:=hxb
   obtain⟨m,hmm⟩:∃m,max x 1=m:=⟨_,rfl⟩
   have hmI:madeI (x,y,z)=m:=hmm
   rw [hmI] at hcons
   have hm1:1<=m:=by omega
   have hm2:m<=1000000:=by omega
   have HCONS:=Lib.hid hcons
   clear hcons hx hy hz hXi hmI
   go_wp2_with fail
   refine(made_okI x y (z.toNat:Int) _).mono ?_
   rintro _ w2 ⟨rfl,K2⟩
   have H2:=K2.sep (H.newBk [.int .i64 x,.int .i64 y,.int .u8 (z.toNat:Int)] 75)
   rw [hmm]
   clear hmm
   go_wp2_with fail
   go_roundw
   case rel=>exact⟨i+1,a+m,by go_num,by go_num,by omega,by omega,by omega,by rw [HM.out,HCONS.out]; omega,H2.tail⟩
   case measure=>first | (simp [intOf]; omega) | simp [intOf]
  ·have k1:¬ (i:Int)<(n:Int):=by omega
   go_wp2_with fail
   go_ret
   refine⟨ret_i64 ?_,H⟩
   rw [HM.out,List.drop_eq_nil_of_le (by rw [<- HN.out]; omega)]
   show a=a+0
   omega
open Go.RowKit Go.MapKept
namespace PM
theorem mays_at (Y:List St) (m i:Nat) (h:mays Y m) (hi:i<Y.length):fits (Y[i]'hi) (m+size (Y.take i)):=by
 induction Y generalizing m i with
 | nil=>exact absurd hi (Nat.not_lt_zero _)
 | cons s Y ih =>
  cases i with
  | zero=>exact h.1
  | succ i =>
   have hi2:i<Y.length:=by simpa using hi
   have:=ih (m+made s) i h.2 hi2
   show fits (Y[i]'hi2) (m+(made s+size (Y.take i)))
   rwa [<- Nat.add_assoc]
theorem size_append (a b:List St):size (a++b)=size a+size b:=by
 induction a with
 | nil=>exact(Nat.zero_add _).symm
 | cons s a ih=>show made s+size (a++b)=made s+size a+size b; rw [ih,Nat.add_assoc]
theorem size_take (Y:List St) (i:Nat):size (Y.take i)<=size Y:=by
 have:=size_append (Y.take i) (Y.drop i)
 rw [List.take_append_drop] at this
 omega
end PM
theorem cells8_append (a b:List UInt8):cells8 (a++b)=cells8 a++cells8 b:=List.map_append
set_option maxRecDepth 100000 in
theorem expand_bad (V:Option Addr) (n c:Nat) (X:List StI) (cap:Int) {w0 w:World} {L:List Pr} (H:Sp w0 L w) (hn:n=X.length) (hnm:n<=1000000) (h:Ent L (fun w=>StI_ w V X)) (hbad:cap<0∨mayI X 0=false) :
  Calls Tryz.prog 36 #[.slice V n c,.int .i64 cap] w fun e w'=>e=.returned (.tuple #[.slice none 0 0,.int .i64 1])/\Sp w0 L w':=by
 have HN:=Lib.hid hn
 have HX:=Lib.hid h
 clear hn h
 by_cases hc:cap<0
 ·clear hbad
  go_enter Tryz.func36,Tryz.ntmps36
  go_wp2_with fail
  go_ret2
  exact⟨rfl,H⟩
 ·have hm:mayI X 0=false:=hbad.resolve_left hc
  have hcm:=may_ok V n c X H HN.out hnm HX.out
  rw [hm] at hcm
  clear hm hbad
  go_enter Tryz.func36,Tryz.ntmps36
  go_wp2_with fail
  refine hcm.mono ?_
  rintro _ w1 ⟨rfl,H1⟩
  clear hcm
  go_wp2_with fail
  go_ret2
  exact⟨rfl,H1⟩
set_option maxRecDepth 100000 in
set_option maxHeartbeats 4000000 in
theorem expand_ok (V:Option Addr) (n c:Nat) (Y:List PM.St) (cap:Int) {w0 w:World} {L:List Pr} (H:Sp w0 L w) (hn:n=Y.length) (hnm:n<=1000000) (h:Ent L (fun w=>StAt w V Y)) (hm:PM.mays Y 0) (hs:(PM.size Y:Int)<=cap) (hsm:PM.size Y<=1000000) :
  Calls Tryz.prog 36 #[.slice V n c,.int .i64 cap] w fun e w'=>∃v,e=.returned (.tuple #[v,.int .i64 0])/\Sp w0 (Row 5 1 v (PM.expand Y []).length (cells8 (PM.expand Y []))::L) w':=by
 obtain⟨i0,hi0,hz0,hz1,hz2⟩:=info_parts info8
 have hXI:Ent L (fun w=>StI_ w V (Y.map toI)):=h.mono fun w h=>h.toI
 have hbd:∀s ∈ Y.map toI,s.1<=1000000:=by
  intro s hs
  obtain⟨t,ht,rfl⟩:=List.mem_map.1 hs
  obtain⟨i,hi,rfl⟩:=List.getElem_of_mem ht
  have:=PM.mays_at Y 0 i hm hi
  show((Y[i].1:Nat):Int)<=1000000
  rcases this with h | h
  ·rw [h.1]; omega
  ·have:=h.2.1; omega
 have hcm:=may_ok V n c (Y.map toI) H (by rw [List.length_map]; exact hn) hnm hXI
 rw [show mayI (Y.map toI) 0=true from mayI_map Y 0 hm] at hcm
 have hcs:=fun(w:World) (H:Sp w0 L w)=>size_ok V n c (Y.map toI) H (by rw [List.length_map]; exact hn) hnm hbd hXI
 rw [sizeI_map] at hcs
 have HN:=Lib.hid hn
 have HY:=Lib.hid h
 have HM:=Lib.hid hm
 have HCS:=Lib.hid hcs
 obtain⟨z0,hz⟩:∃z,PM.size Y=z:=⟨_,rfl⟩
 rw [hz] at hs hsm HCS
 have HZ:=Lib.hid hz
 have k0:¬ cap<0:=by omega
 have k1:¬ cap<(z0:Int):=by omega
 clear hn h hm hcs hz hXI hbd
 go_enter Tryz.func36,Tryz.ntmps36
 go_wp2_with fail
 refine hcm.mono ?_
 rintro _ w1 ⟨rfl,H1⟩
 clear hcm
 go_wp2_with fail
 refine(HCS.out _ H1).mono ?_
 rintro _ w2 ⟨rfl,H2⟩
 go_wp2_with fail
 clear HCS H1 H
 go_loopw [6,24] (fun bv iv wr=>∃(i:Nat) (V6:Option Addr) (c6:Nat) (b:List UInt8),iv=.int .i64 (i:Int)/\bv=.slice V6 b.length c6/\i<=n/\PM.expand (Y.take i) []=b/\Sp w0 (Row 5 1 (.slice V6 b.length c6) b.length (cells8 b)::L) wr) (fun _ iv _=>n - (intOf iv).toNat)
 case atStart=>exact⟨0,none,0,[],rfl,rfl,Nat.zero_le _,rfl,H2.rowNil _ _⟩
 case round =>
  obtain⟨i,V6,c6,b,rfl,rfl,hin,hb,H⟩:=hrel
  by_cases hi:i<n
  ·have k2:(i:Int)<(n:Int):=by omega
   have hiY:i<Y.length:=by rw [<- HN.out]; exact hi
   obtain⟨ad,rfl,p0,p1,p2⟩:=HY.out _ _ H.tail i hiY
   have hfit:=PM.mays_at Y 0 i HM.out hiY
   have hbl:b.length=PM.size (Y.take i):=by rw [<- hb,PM.expand_length]; exact Nat.zero_add _
   rw [Nat.zero_add,<- hbl] at hfit
   have hexp:PM.expand (Y.take (i+1)) []=PM.step Y[i] b:=by
    rw [List.take_succ_eq_append_getElem hiY,PM.expand_append,hb]; rfl
   have hszb:b.length+PM.made Y[i]<=z0:=by
    have h1:=PM.size_take Y (i+1)
    rw [List.take_succ_eq_append_getElem hiY,PM.size_append,HZ.out] at h1
    have:PM.size [Y[i]]=PM.made Y[i]:=Nat.add_zero _
    rw [this] at h1
    omega
   obtain⟨x,hx⟩:∃x,Y[i].1=x:=⟨_,rfl⟩
   obtain⟨y,hy⟩:∃y,Y[i].2.1=y:=⟨_,rfl⟩
   obtain⟨z,hz⟩:∃z,Y[i].2.2=z:=⟨_,rfl⟩
   have hYi:Y[i]=(x,y,z):=by rw [<- hx,<- hy,<- hz]
   rw [hx] at p0
   rw [hy] at p1
   rw [hz] at p2
   rw [hYi] at hexp hfit hszb
   have HEXP:=Lib.hid hexp
   have HB:=Lib.hid hb
   clear hexp hx hy hz hYi hb hbl
   replace hszb:b.length+max x 1<=z0:=hszb
   have t0:∀o,(wr.alloc o).cell? (ad.add (i * 3))=some (.int .i64 (x:Int)):=fun o=>by rw [cell_alloc_old o p0]; exact p0
   by_cases hx0:x=0
   ·have hy0:y=0:=by
     rcases hfit with h | h
     ·exact h.2
     ·have:3<=x:=h.1
      omega
    subst hx0 hy0
    have q0:wr.cell? (ad.add (i * 3))=some (.int .i64 0):=p0
    have q1:wr.cell? ⟨(ad.add (i * 3)).block,(ad.add (i * 3)).off+1,none⟩=some (.int .i64 0):=p1
    have es:(wr.alloc (.cells #[.int .i64 0,.int .i64 0,.int .u8 (z.toNat:Int)] 75)).heap.size=wr.heap.size+1:=Array.size_push _
    have hr9:Rd ((wr.alloc (.cells #[.int .i64 0,.int .i64 0,.int .u8 (z.toNat:Int)] 75)).alloc (.cells #[.int .u8 (z.toNat:Int)] 5)) (some ⟨wr.heap.size+1,0,none⟩) [.int .u8 (z.toNat:Int)]:=by
     have:=Rd.of_blk (Blk.new (wr.alloc (.cells #[.int .i64 0,.int .i64 0,.int .u8 (z.toNat:Int)] 75)) 5 [.int .u8 (z.toNat:Int)])
     rwa [es] at this
    have h9:=((H.newBk [.int .i64 0,.int .i64 0,.int .u8 (z.toNat:Int)] 75).alloc (.cells #[.int .u8 (z.toNat:Int)] 5)).swap
    have HR9:=Lib.hid hr9
    have HH9:=Lib.hid h9
    have hb1:b.length+1<=1000000:=by omega
    clear t0 p0 p1 hr9 h9 es
    go_wp2_with (at_builtin; refine wpList_append_sp rfl _ _ 23 rfl 5 i0 (.int .u8 0) 1 1 Tryz.underlying23 hi0 hz0 hz1 hz2 rfl (by decide) (.slice V6 b.length c6) b.length (cells8 b) rfl HH9.out (some ⟨wr.heap.size+1,0,none⟩) 1 1 [.int .u8 (z.toNat:Int)] rfl rfl HR9.out (by intro u hu; rw [List.mem_singleton.1 hu]; rfl) (by simp only [maxLen]; omega) (by omega) ?_)
    intro v5 w5 H5 _
    clear HR9 HH9
    obtain⟨V5,c5,rfl,_,_⟩:=Row.form H5 0 rfl
    generalize wr.heap.size=s at H5 ⊢
    have t0:w5.cell? ⟨s,0,none⟩=some (.int .i64 0):=H5.cell 1 rfl 0
    rw [show cells8 b++[.int .u8 (z.toNat:Int)]=cells8 (b++[z]) from(cells8_append b [z]).symm] at H5
    go_wp2_with fail
    go_loopw [6,38] (fun bv kv wr=>bv=.slice V5 (b.length+1) c5/\kv=.int .i64 0/\Sp w0 (Row 5 1 (.slice V5 (b.length+1) c5) (b.length+1) (cells8 (b++[z]))::L) wr) (fun _ _ _=>0)
    case atStart=>exact⟨rfl,rfl,H5.pick 2 [0]⟩
    case round =>
     obtain⟨rfl,rfl,H6⟩:=hrel
     go_wp2_with fail
     go_roundw
     case rel =>
      refine⟨i+1,V5,c5,b++[z],by go_num,by rw [List.length_append]; rfl,by omega,HEXP.out,?_⟩
      rw [List.length_append]
      exact H6
     case measure=>first | (simp [intOf]; omega) | simp [intOf]
   ·have hf:3<=x/\x<=258/\1<=y/\y<=32768/\y<=b.length/\z=0:=by
     rcases hfit with h | h
     ·exact absurd h.1 hx0
     ·exact h
    obtain⟨f1,f2,f3,f4,f5,rfl⟩:=hf
    have k3:((x:Int) == 0)=false:=by
     rw [beq_eq_false_iff_ne]; omega
    have q2:wr.cell? ⟨(ad.add (i * 3)).block,(ad.add (i * 3)).off+2,none⟩=some (.int .u8 0):=p2
    have h9:=(H.newBk [.int .i64 (x:Int),.int .i64 (y:Int),.int .u8 0] 75).swap
    clear t0 p2 hfit
    go_wp2_with fail
    generalize wr.heap.size=s at h9 ⊢
    generalize wr.alloc _=w5 at h9 ⊢
    clear p0 p1 q2
    have hstep:PM.step (x,y,0) b=PM.grow y x b:=if_neg hx0
    rw [hstep] at HEXP
    clear hstep hx0
    go_loopw [6,38] (fun bv kv wr=>∃(k:Nat) (V7:Option Addr) (c7:Nat) (b7:List UInt8),kv=.int .i64 (k:Int)/\bv=.slice V7 b7.length c7/\k<=x/\PM.grow y k b=b7/\Sp w0 (Row 5 1 (.slice V7 b7.length c7) b7.length (cells8 b7)::Bk s 75 [.int .i64 (x:Int),.int .i64 (y:Int),.int .u8 0]::L) wr) (fun _ kv _=>x - (intOf kv).toNat)
    case atStart=>exact⟨0,V6,c6,b,rfl,rfl,Nat.zero_le _,rfl,h9⟩
    case round =>
     obtain⟨k,V7,c7,b7,rfl,rfl,hk,hg,H7⟩:=hrel
     by_cases hkx:k<x
     ·have k4:(k:Int)<(x:Int):=by omega
      have hbl7:b7.length=b.length+k:=by rw [<- hg,PM.grow_length]
      obtain⟨j,hj⟩:∃j,b7.length - y=j:=⟨_,rfl⟩
      have e1:(b7.length:Int) - (y:Int)=(j:Int):=by omega
      have k5:(j:Int)<(b7.length:Int):=by omega
      have k6:b7.length<=900000∨True:=.inr trivial
      have hlen7:b7.length+1<=1000000:=by omega
      obtain⟨V8,c8,ev,hr,_,_⟩:=H7.row_rd 0 rfl
      injection ev with ev _ e3
      subst ev
      subst e3
      obtain⟨a7,rfl,hce⟩:=hr.at8 (k:=j) (by omega)
      obtain⟨gb,hgb⟩:∃gb:UInt8,b7[j]'(by omega)=gb:=⟨_,rfl⟩
      rw [hgb] at hce
      have hgr:PM.grow y (k+1) b=b7++[gb]:=by
       rw [PM.grow_succ,hg,hj,List.getD_eq_getElem?_getD,List.getElem?_eq_getElem (by omega),hgb]; rfl
      have HGR:=Lib.hid hgr
      have HG:=Lib.hid hg
      have t0:wr.cell? ⟨s,0,none⟩=some (.int .i64 (x:Int)):=H7.cell 1 rfl 0
      have t1:wr.cell? ⟨s,1,none⟩=some (.int .i64 (y:Int)):=H7.cell 1 rfl 1
      have hr9:=Rd.of_blk (Blk.new wr 5 [.int .u8 (gb.toNat:Int)])
      have g9:=(H7.newBk [.int .u8 (gb.toNat:Int)] 5).swap
      have HR9:=Lib.hid hr9
      have HH9:=Lib.hid g9
      clear hr hgb hj hbl7 hg hgr hr9 g9 k6
      go_wp2_with (at_builtin; refine wpList_append_sp rfl _ _ 23 rfl 5 i0 (.int .u8 0) 1 1 Tryz.underlying23 hi0 hz0 hz1 hz2 rfl (by decide) (.slice (some a7) b7.length c7) b7.length (cells8 b7) rfl HH9.out (some ⟨wr.heap.size,0,none⟩) 1 1 [.int .u8 (gb.toNat:Int)] rfl rfl HR9.out (by intro u hu; rw [List.mem_singleton.1 hu]; rfl) (by simp only [maxLen]; omega) (by omega) ?_)
      intro v5 w6 H6 _
      clear HR9 HH9
      obtain⟨V5,c5,rfl,_,_⟩:=Row.form H6 0 rfl
      rw [show cells8 b7++[.int .u8 (gb.toNat:Int)]=cells8 (b7++[gb]) from(cells8_append b7 [gb]).symm] at H6
      go_wp2_with fail
      go_roundw
      case rel =>
       refine⟨k+1,V5,c5,b7++[gb],by go_num,by rw [List.length_append]; rfl,by omega,HGR.out,?_⟩
       rw [List.length_append]
       exact H6.pick 3 [0,2]
      case measure=>first | (simp [intOf]; omega) | simp [intOf]
     ·have k4:¬ (k:Int)<(x:Int):=by omega
      obtain rfl:k=x:=by omega
      have hgx:=HEXP.out.trans hg
      have HGX:=Lib.hid hgx
      clear hgx hg
      go_wp2_with fail
      go_roundw
      case rel=>exact⟨i+1,V7,c7,b7,by go_num,rfl,by omega,HGX.out,H7.pick 2 [0]⟩
      case measure=>first | (simp [intOf]; omega) | simp [intOf]
  ·have k2:¬ (i:Int)<(n:Int):=by omega
   go_wp2_with fail
   go_ret2
   rw [List.take_of_length_le (by rw [<- HN.out]; omega)] at hb
   refine⟨_,rfl,?_⟩
   rw [hb]
   exact H
end Go.Proofs.YtloijdbkikccgaaGreatDoor

