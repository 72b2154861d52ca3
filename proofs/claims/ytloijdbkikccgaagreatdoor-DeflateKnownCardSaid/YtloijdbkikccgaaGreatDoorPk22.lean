/- A pack of texts: DefB DefC InfBit InfSg InfHd DefD DefE. -/
import Derived.Deep.CutRange
import Derived.Test.YtloijdbkikccgaaGreatDoorPk08
import Derived.Test.YtloijdbkikccgaaGreatDoorPk14
import Derived.Test.YtloijdbkikccgaaGreatDoorPk15
import Derived.Test.YtloijdbkikccgaaGreatDoorPk21
namespace Go.Proofs.YtloijdbkikccgaaGreatDoor
set_option linter.unusedVariables false
set_option linter.unusedSimpArgs false
open Go.RowKit
theorem size_alloc (w:World) (o:Obj):(w.alloc o).heap.size=w.heap.size+1:=by simp
def wdC (t:PD.Wd):List Value:=[.int .i64 (t.1:Int),.int .i64 (t.2.1:Int),.int .i64 (t.2.2.1:Int),.int .i64 (t.2.2.2:Int)]
def cellsW (l:List PD.Wd):List Value:=l.flatMap wdC
theorem cellsW_app (a b:List PD.Wd):cellsW (a++b)=cellsW a++cellsW b:=by simp [cellsW]
theorem cellsW_len (l:List PD.Wd):(cellsW l).length=l.length * 4:=by
 induction l with
 | nil=>rfl
 | cons t l ih=>show(wdC t++cellsW l).length=_; rw [List.length_append,ih,List.length_cons]; show 4+_=_; omega
theorem wdC_one (t:PD.Wd):∀u ∈ wdC t,u.oneCell'=true:=by
 intro u hu
 simp only [wdC,List.mem_cons,List.not_mem_nil,or_false] at hu
 rcases hu with rfl | rfl | rfl | rfl <;> rfl
theorem infoT:(Tryz.prog.info? 184).map (fun i=>(i.zero,i.size,i.bytes))=some (some (.agg #[.int .i64 0,.int .i64 0,.int .i64 0,.int .i64 0]),4,32):=by kernel_rfl
namespace PD
theorem wds_take {Y:List PM.St} {i:Nat} (h:i<Y.length):wds (Y.take (i+1))=wds (Y.take i)++wd Y[i]:=by
 unfold wds
 rw [List.take_succ_eq_append_getElem h,List.flatMap_append]
 simp
theorem wds_len (Y:List PM.St):(wds Y).length<=2 * Y.length:=by
 have:=words_len Y
 unfold words at this
 simp at this; omega
def StOk (s:PM.St):Prop:=s.1=0∨(3<=s.1/\s.1<=258/\1<=s.2.1/\s.2.1<=32768)
theorem mays_ok:∀(Y:List PM.St) (n:Nat),PM.mays Y n->∀s ∈ Y,StOk s:=by
 intro Y
 induction Y with
 | nil=>intro n _ s hs; cases hs
 | cons t l ih =>
  intro n h s hs
  rcases List.mem_cons.1 hs with rfl | hs
  ·rcases h.1 with h1 | h1
   ·exact .inl h1.1
   ·exact .inr ⟨h1.1,h1.2.1,h1.2.2.1,h1.2.2.2.1⟩
  ·exact ih _ h.2 s hs
end PD
set_option maxRecDepth 100000 in
set_option maxHeartbeats 4000000 in
theorem dwords_ok (V:Option Addr) (n c:Nat) (Y:List PM.St) {TL TF:Option Addr} {cl cf:Nat} {w0 w:World} {L:List Pr} (H:Sp w0 L w) (hT:Ent L (DTabs TL TF cl cf)) (hn:n=Y.length) (hnm:n<=1000000) (h:Ent L fun w=>StAt w V Y) (hY:∀s ∈ Y,PD.StOk s) :
  Calls Tryz.prog 86 #[.slice V n c] w fun e w'=>∃v,e=.returned v/\Sp w0 (Row 184 4 v (PD.words Y).length (cellsW (PD.words Y))::L) w':=by
 obtain⟨i1,hj,hj0,hj1,hj2⟩:=info_parts infoT
 have HN:=Lib.hid hn
 have HX:=Lib.hid h
 have HT:=Lib.hid hT
 have HY:=Lib.hid hY
 clear hn h hT hY
 go_enter Tryz.func86,Tryz.ntmps86
 go_wp2_with fail
 go_loopw [3,14] (fun rv iv wr=>∃i:Nat,iv=.int .i64 (i:Int)/\i<=n/\Sp w0 (Row 184 4 rv (PD.wds (Y.take i)).length (cellsW (PD.wds (Y.take i)))::L) wr) (fun _ iv _=>n - (intOf iv).toNat)
 case atStart=>exact⟨0,rfl,Nat.zero_le _,H.rowNil _ _⟩
 case round =>
  obtain⟨i,rfl,hi,H1⟩:=hrel
  clear H
  obtain⟨R,hR⟩:∃R,PD.wds (Y.take i)=R:=⟨_,rfl⟩
  have hRl:R.length<=2 * i:=by
   rw [<- hR]
   have:=PD.wds_len (Y.take i)
   rw [List.length_take] at this; omega
  rw [hR] at H1
  obtain⟨VR,vrc,rfl,_,_⟩:=Row.form H1 0 rfl
  by_cases hin:i<n
  ·have k1:(i:Int)<(n:Int):=by omega
   have hiY:i<Y.length:=by rw [<- HN.out]; exact hin
   obtain⟨ad,rfl,p0,p1,p2⟩:=HX.out _ _ H1.tail i hiY
   have hw:=PD.wds_take hiY
   rw [hR] at hw
   have hok:=HY.out _ (List.getElem_mem hiY)
   obtain⟨⟨x,y,z⟩,hs⟩:∃s,Y[i]=s:=⟨_,rfl⟩
   rw [hs] at p0 p1 p2 hw hok
   simp only at p0 p1 p2
   have HW:=Lib.hid hw
   have H2:=H1.newBk [.int .i64 (x:Int),.int .i64 (y:Int),.int .u8 (z.toNat:Int)] 75
   have HH2:=Lib.hid H2
   clear hw hR hs
   by_cases hx:x=0
   ·subst hx
    have HW:Hid (PD.wds (Y.take (i+1))=R++[(0,z.toNat,0,0)]):=HW
    obtain⟨z8,hz8⟩:∃q,z.toNat=q:=⟨_,rfl⟩
    have hzl:z8<256:=by rw [<- hz8]; exact z.toNat_lt
    rw [hz8] at HW p2 H2 HH2
    replace p0:wr.cell? (ad.add (i * 3))=some (.int .i64 0):=p0
    have H3:=H2.newBk (wdC (0,z8,0,0)) 184
    have hR3:=Rd.of_blk (H3.blk 0 rfl)
    rw [size_alloc] at hR3
    have HR3:=Lib.hid hR3
    have HH3:=Lib.hid (H3.pick 3 [2])
    have t0:=HH2.out.cell 0 rfl 0
    have t2:=HH2.out.cell 0 rfl 2
    simp only [List.getElem?_cons_zero,List.getElem?_cons_succ] at t0 t2
    replace t0:World.cell? _ ⟨wr.heap.size,0,none⟩=some (.int .i64 0):=t0
    clear H1 H2 H3 hz8 hR3
    go_wp2_with (at_builtin; refine wpList_append_sp rfl _ _ 145 rfl 184 i1 (.agg #[.int .i64 0,.int .i64 0,.int .i64 0,.int .i64 0]) 4 32 Tryz.underlying145 hj hj0 hj1 hj2 rfl (by decide) _ R.length (cellsW R) rfl HH3.out (some ⟨_,0,none⟩) 1 1 (wdC (0,z8,0,0)) rfl rfl HR3.out (wdC_one _) (by unfold maxLen; omega) (by omega) ?_)
    intro v4 w4 H4 _
    clear HH3 HR3 HH2 p0 p1 p2 t0 t2
    go_wp2_with fail
    go_roundw
    case rel =>
     refine⟨i+1,by go_num,by omega,?_⟩
     rw [HW.out,List.length_append,cellsW_app]
     show Sp w0 (Row 184 4 v4 (R.length+1) (cellsW R++cellsW [(0,z8,0,0)])::L) w4
     rw [show cellsW [((0,z8,0,0):PD.Wd)]=wdC (0,z8,0,0) from List.append_nil _]
     exact H4
    case measure=>first | (simp [intOf]; omega) | simp [intOf]
   ·have hok2:3<=x/\x<=258/\1<=y/\y<=32768:=by
     rcases hok with h | h
     ·exact absurd h hx
     ·exact h
    have hw2:PD.wd (x,y,z)=[(0,PD.longI (x:Int)),(1,PD.farI (y:Int))]:=by
     unfold PD.wd PD.longI PD.farI
     rw [if_neg hx,if_pos (by omega),if_pos (by omega)]; rfl
    obtain⟨⟨s1,b1,v1⟩,e1⟩:∃t,PD.longI (x:Int)=t:=⟨_,rfl⟩
    obtain⟨⟨s2,b2,v2⟩,e2⟩:∃t,PD.farI (y:Int)=t:=⟨_,rfl⟩
    rw [e1,e2] at hw2
    have HW2:Hid (PD.wds (Y.take (i+1))=R++[(0,s1,b1,v1),(1,s2,b2,v2)]):=by rw [HW.out,hw2]; exact Lib.hid rfl
    have HE2:=Lib.hid e2
    have hL:=dlong_ok (x:Int) HH2.out (fun w0 w h=>HT.out w0 w (h.pick 2 []))
    rw [e1] at hL
    have HLG:=Lib.hid hL
    have k2:¬ (x:Int)=0:=by omega
    have t0:=HH2.out.cell 0 rfl 0
    simp only [List.getElem?_cons_zero] at t0
    generalize hst:Bk wr.heap.size _ _=ST at HLG
    have HST:=Lib.hid hst
    clear hw2 e1 e2 hL HW H1 H2 HH2 hst
    go_wp2_with fail
    refine HLG.out.mono ?_
    rintro _ w3 ⟨rfl,H3⟩
    have H4:=H3.newBk (wdC (0,s1,b1,v1)) 184
    have HR4:=Lib.hid (Rd.of_blk (H4.blk 0 rfl))
    have HH4:=Lib.hid (H4.pick 3 [2,1])
    clear H3 H4 HLG t0
    go_wp2_with (at_builtin; refine wpList_append_sp rfl _ _ 145 rfl 184 i1 (.agg #[.int .i64 0,.int .i64 0,.int .i64 0,.int .i64 0]) 4 32 Tryz.underlying145 hj hj0 hj1 hj2 rfl (by decide) _ R.length (cellsW R) rfl HH4.out (some ⟨_,0,none⟩) 1 1 (wdC (0,s1,b1,v1)) rfl rfl HR4.out (wdC_one _) (by unfold maxLen; omega) (by omega) ?_)
    intro v4 w4 H5 _
    rw [<- HST.out] at H5
    have t1:=H5.cell 1 rfl 1
    simp only [List.getElem?_cons_succ,List.getElem?_cons_zero] at t1
    have hF:=dfar_ok (y:Int) H5 (fun w0 w h=>HT.out w0 w (h.pick 2 []))
    rw [HE2.out,HST.out] at hF
    have HF:=Lib.hid hF
    clear hF HH4 HR4 H5 p0 p1 p2
    go_wp2_with fail
    refine HF.out.mono ?_
    rintro _ w5 ⟨rfl,H6⟩
    have H7:=H6.newBk (wdC (1,s2,b2,v2)) 184
    have HR7:=Lib.hid (Rd.of_blk (H7.blk 0 rfl))
    have HH7:=Lib.hid (H7.pick 3 [1])
    clear H6 H7 HF t1
    go_wp2_with (at_builtin; refine wpList_append_sp rfl _ _ 145 rfl 184 i1 (.agg #[.int .i64 0,.int .i64 0,.int .i64 0,.int .i64 0]) 4 32 Tryz.underlying145 hj hj0 hj1 hj2 rfl (by decide) _ (R.length+1) (cellsW R++wdC (0,s1,b1,v1)) rfl HH7.out (some ⟨_,0,none⟩) 1 1 (wdC (1,s2,b2,v2)) rfl rfl HR7.out (wdC_one _) (by unfold maxLen; omega) (by omega) ?_)
    intro v8 w8 H8 _
    clear HH7 HR7
    go_wp2_with fail
    go_roundw
    case rel =>
     refine⟨i+1,by go_num,by omega,?_⟩
     rw [HW2.out,List.length_append,cellsW_app]
     show Sp w0 (Row 184 4 v8 (R.length+2) (cellsW R++cellsW [(0,s1,b1,v1),(1,s2,b2,v2)])::L) w8
     rw [show cellsW [((0,s1,b1,v1):PD.Wd),(1,s2,b2,v2)]=wdC (0,s1,b1,v1)++wdC (1,s2,b2,v2) by simp [cellsW]]
     exact H8
    case measure=>first | (simp [intOf]; omega) | simp [intOf]
  ·have k1:¬ (i:Int)<(n:Int):=by omega
   have hRn:PD.words Y=R++[(0,256,0,0)]:=by
    unfold PD.words
    rw [<- hR,List.take_of_length_le (by rw [<- HN.out]; omega)]
   have HW:=Lib.hid hRn
   have H3:=H1.newBk (wdC (0,256,0,0)) 184
   have HR3:=Lib.hid (Rd.of_blk (H3.blk 0 rfl))
   have HH3:=Lib.hid (H3.pick 2 [1])
   clear H1 H3 hR hRn
   go_wp2_with (at_builtin; refine wpList_append_sp rfl _ _ 145 rfl 184 i1 (.agg #[.int .i64 0,.int .i64 0,.int .i64 0,.int .i64 0]) 4 32 Tryz.underlying145 hj hj0 hj1 hj2 rfl (by decide) _ R.length (cellsW R) rfl HH3.out (some ⟨_,0,none⟩) 1 1 (wdC (0,256,0,0)) rfl rfl HR3.out (wdC_one _) (by unfold maxLen; omega) (by omega) ?_)
   intro v4 w4 H4 _
   clear HH3 HR3
   go_wp2_with fail
   go_ret
   refine⟨_,rfl,?_⟩
   rw [HW.out,List.length_append,cellsW_app]
   show Sp w0 (Row 184 4 v4 (R.length+1) (cellsW R++cellsW [(0,256,0,0)])::L) w4
   rw [show cellsW [((0,256,0,0):PD.Wd)]=wdC (0,256,0,0) from List.append_nil _]
   exact H4
theorem infoInt:(Tryz.prog.info? 3).map (fun i=>(i.zero,i.size,i.bytes))=some (some (.int .i64 0),1,8):=by kernel_rfl
theorem cellsN_app (a b:List Nat):cellsN (a++b)=cellsN a++cellsN b:=by simp [cellsN]
theorem dfixedL_at {k:Nat} (hk:k<288):PI.fixedL.getD k 0=if 280<=k then 8 else if 256<=k then 7 else if 144<=k then 9 else 8:=by
 have:∀k,k<288->PI.fixedL.getD k 0=if 280<=k then 8 else if 256<=k then 7 else if 144<=k then 9 else 8:=by decide +kernel
 exact this k hk
theorem dfixedL_len:PI.fixedL.length=288:=by decide +kernel
theorem dfixedL_next {k v:Nat} (hk:k<288) (h:PI.fixedL.getD k 0=v):PI.fixedL.take (k+1)=PI.fixedL.take k++[v]:=by
 have hl:k<PI.fixedL.length:=by rw [dfixedL_len]; exact hk
 rw [List.take_succ_eq_append_getElem hl]
 rw [List.getD_eq_getElem?_getD,List.getElem?_eq_getElem hl] at h
 rw [show PI.fixedL[k]=v from h]
set_option maxRecDepth 100000 in
set_option maxHeartbeats 4000000 in
theorem dfixed_ok {w0 w:World} {L:List Pr} (H:Sp w0 L w) :
  Calls Tryz.prog 93 #[] w fun e w'=>∃v0 v1,e=.returned (.agg #[v0,v1])/\Sp w0 (Row 3 1 v0 288 (cellsN PI.fixedL)::Row 3 1 v1 32 (cellsN PI.fixedD)::L) w':=by
 obtain⟨i0,hi,hz0,hz1,hz2⟩:=info_parts infoInt
 have H1:=H.newBk [.slice none 0 0,.slice none 0 0] 148
 have H2:=H1.newBk [.slice none 0 0,.slice none 0 0] 148
 rw [size_alloc] at H2
 have HX:=Lib.hid (H2.rowNil 3 1)
 clear H H1 H2
 go_enter Tryz.func93,Tryz.ntmps93
 go_wp2_with fail
 generalize w.heap.size+1=g at HX ⊢
 generalize w.heap.size=g0 at HX ⊢
 go_loopw [4] (fun kv wr=>∃(k:Nat) (v:Value),kv=.int .i64 (k:Int)/\k<=288/\Sp w0 (Row 3 1 v k (cellsN (PI.fixedL.take k))::Bk g 148 [v,.slice none 0 0]::Bk g0 148 [.slice none 0 0,.slice none 0 0]::L) wr) (fun kv _=>288 - (intOf kv).toNat)
 case atStart=>exact⟨0,_,rfl,Nat.zero_le _,HX.out⟩
 case round =>
  obtain⟨k,v,rfl,hk,H2⟩:=hrel
  clear HX
  obtain⟨VA,vc,rfl,_,_⟩:=Row.form H2 0 rfl
  by_cases hlt:k<288
  ·have k1:(k:Int)<288:=by omega
   have hk:=hlt
   by_cases h280:280<=k
   ·have k2:(k:Int)≥280:=by omega
    have HV:Hid (PI.fixedL.take (k+1)=PI.fixedL.take k++[8]):=Lib.hid (dfixedL_next hk (by rw [dfixedL_at hk]; simp only [if_pos h280]))
    have H3:=H2.newBk [.int .i64 8] 3
    have HR3:=Lib.hid (Rd.of_blk (H3.blk 0 rfl))
    have HH3:=Lib.hid (H3.pick 4 [1,2,3])
    have c0:=H2.cell 1 rfl 0
    have z0:=H2.frozen 1 rfl 0
    simp only [List.getElem?_cons_zero] at c0
    clear H2 H3
    go_wp2_with (at_builtin; refine wpList_append_sp rfl _ _ 147 rfl 3 i0 (.int .i64 0) 1 8 Tryz.underlying147 hi hz0 hz1 hz2 rfl (by decide) _ k (cellsN (PI.fixedL.take k)) rfl HH3.out (some ⟨_,0,none⟩) 1 1 [.int .i64 8] rfl rfl HR3.out (by intro u hu; rw [List.mem_singleton.1 hu]; rfl) (by unfold maxLen; omega) (by omega) ?_)
    intro v4 w4 H4 _
    obtain⟨VA4,vc4,rfl,_,_⟩:=Row.form H4 0 rfl
    have c4:=H4.cell 1 rfl 0
    have z4:=H4.frozen 1 rfl 0
    simp only [List.getElem?_cons_zero] at c4
    have HX:=Lib.hid (H4.swap.set 0 (.slice VA4 (k+1) vc4))
    clear HH3 HR3 c0 z0 H4
    go_wp2_with fail
    go_roundw
    case rel =>
     refine⟨k+1,.slice VA4 (k+1) vc4,by go_num,by omega,?_⟩
     have h:=HX.out.swap
     rw [HV.out,cellsN_app]
     exact h
    case measure=>first | (simp [intOf]; omega) | simp [intOf]
   ·have k2:¬ (k:Int)≥280:=by omega
    by_cases h256:256<=k
    ·have k3:(k:Int)≥256:=by omega
     have HV:Hid (PI.fixedL.take (k+1)=PI.fixedL.take k++[7]):=Lib.hid (dfixedL_next hk (by rw [dfixedL_at hk]; simp only [if_neg h280,if_pos h256]))
     have H3:=H2.newBk [.int .i64 7] 3
     have HR3:=Lib.hid (Rd.of_blk (H3.blk 0 rfl))
     have HH3:=Lib.hid (H3.pick 4 [1,2,3])
     have c0:=H2.cell 1 rfl 0
     have z0:=H2.frozen 1 rfl 0
     simp only [List.getElem?_cons_zero] at c0
     clear H2 H3
     go_wp2_with (at_builtin; refine wpList_append_sp rfl _ _ 147 rfl 3 i0 (.int .i64 0) 1 8 Tryz.underlying147 hi hz0 hz1 hz2 rfl (by decide) _ k (cellsN (PI.fixedL.take k)) rfl HH3.out (some ⟨_,0,none⟩) 1 1 [.int .i64 7] rfl rfl HR3.out (by intro u hu; rw [List.mem_singleton.1 hu]; rfl) (by unfold maxLen; omega) (by omega) ?_)
     intro v4 w4 H4 _
     obtain⟨VA4,vc4,rfl,_,_⟩:=Row.form H4 0 rfl
     have c4:=H4.cell 1 rfl 0
     have z4:=H4.frozen 1 rfl 0
     simp only [List.getElem?_cons_zero] at c4
     have HX:=Lib.hid (H4.swap.set 0 (.slice VA4 (k+1) vc4))
     clear HH3 HR3 c0 z0 H4
     go_wp2_with fail
     go_roundw
     case rel =>
      refine⟨k+1,.slice VA4 (k+1) vc4,by go_num,by omega,?_⟩
      have h:=HX.out.swap
      rw [HV.out,cellsN_app]
      exact h
     case measure=>first | (simp [intOf]; omega) | simp [intOf]
    ·have k3:¬ (k:Int)≥256:=by omega
     by_cases h144:144<=k
     ·have k4:(k:Int)≥144:=by omega
      have HV:Hid (PI.fixedL.take (k+1)=PI.fixedL.take k++[9]):=Lib.hid (dfixedL_next hk (by rw [dfixedL_at hk]; simp only [if_neg h280,if_neg h256,if_pos h144]))
      have H3:=H2.newBk [.int .i64 9] 3
      have HR3:=Lib.hid (Rd.of_blk (H3.blk 0 rfl))
      have HH3:=Lib.hid (H3.pick 4 [1,2,3])
      have c0:=H2.cell 1 rfl 0
      have z0:=H2.frozen 1 rfl 0
      simp only [List.getElem?_cons_zero] at c0
      clear H2 H3
      go_wp2_with (at_builtin; refine wpList_append_sp rfl _ _ 147 rfl 3 i0 (.int .i64 0) 1 8 Tryz.underlying147 hi hz0 hz1 hz2 rfl (by decide) _ k (cellsN (PI.fixedL.take k)) rfl HH3.out (some ⟨_,0,none⟩) 1 1 [.int .i64 9] rfl rfl HR3.out (by intro u hu; rw [List.mem_singleton.1 hu]; rfl) (by unfold maxLen; omega) (by omega) ?_)
      intro v4 w4 H4 _
      obtain⟨VA4,vc4,rfl,_,_⟩:=Row.form H4 0 rfl
      have c4:=H4.cell 1 rfl 0
      have z4:=H4.frozen 1 rfl 0
      simp only [List.getElem?_cons_zero] at c4
      have HX:=Lib.hid (H4.swap.set 0 (.slice VA4 (k+1) vc4))
      clear HH3 HR3 c0 z0 H4
      go_wp2_with fail
      go_roundw
      case rel =>
       refine⟨k+1,.slice VA4 (k+1) vc4,by go_num,by omega,?_⟩
       have h:=HX.out.swap
       rw [HV.out,cellsN_app]
       exact h
      case measure=>first | (simp [intOf]; omega) | simp [intOf]
     ·have k4:¬ (k:Int)≥144:=by omega
      have HV:Hid (PI.fixedL.take (k+1)=PI.fixedL.take k++[8]):=Lib.hid (dfixedL_next hk (by rw [dfixedL_at hk]; simp only [if_neg h280,if_neg h256,if_neg h144]))
      have H3:=H2.newBk [.int .i64 8] 3
      have HR3:=Lib.hid (Rd.of_blk (H3.blk 0 rfl))
      have HH3:=Lib.hid (H3.pick 4 [1,2,3])
      have c0:=H2.cell 1 rfl 0
      have z0:=H2.frozen 1 rfl 0
      simp only [List.getElem?_cons_zero] at c0
      clear H2 H3
      go_wp2_with (at_builtin; refine wpList_append_sp rfl _ _ 147 rfl 3 i0 (.int .i64 0) 1 8 Tryz.underlying147 hi hz0 hz1 hz2 rfl (by decide) _ k (cellsN (PI.fixedL.take k)) rfl HH3.out (some ⟨_,0,none⟩) 1 1 [.int .i64 8] rfl rfl HR3.out (by intro u hu; rw [List.mem_singleton.1 hu]; rfl) (by unfold maxLen; omega) (by omega) ?_)
      intro v4 w4 H4 _
      obtain⟨VA4,vc4,rfl,_,_⟩:=Row.form H4 0 rfl
      have c4:=H4.cell 1 rfl 0
      have z4:=H4.frozen 1 rfl 0
      simp only [List.getElem?_cons_zero] at c4
      have HX:=Lib.hid (H4.swap.set 0 (.slice VA4 (k+1) vc4))
      clear HH3 HR3 c0 z0 H4
      go_wp2_with fail
      go_roundw
      case rel =>
       refine⟨k+1,.slice VA4 (k+1) vc4,by go_num,by omega,?_⟩
       have h:=HX.out.swap
       rw [HV.out,cellsN_app]
       exact h
      case measure=>first | (simp [intOf]; omega) | simp [intOf]
  ·have k1:¬ (k:Int)<288:=by omega
   obtain rfl:k=288:=by omega
   rw [List.take_of_length_le (by rw [dfixedL_len]; exact Nat.le_refl _)] at H2
   have HX:=Lib.hid (H2.rowNil 3 1)
   clear H2
   go_wp2_with fail
   clear hk hlt k1
   go_loopw [23] (fun jv wr=>∃(j:Nat) (u:Value),jv=.int .i64 (j:Int)/\j<=32/\Sp w0 (Row 3 1 u j (cellsN (List.replicate j 5))::Row 3 1 (.slice VA 288 vc) 288 (cellsN PI.fixedL)::Bk g 148 [.slice VA 288 vc,u]::Bk g0 148 [.slice none 0 0,.slice none 0 0]::L) wr) (fun jv _=>32 - (intOf jv).toNat)
   case atStart=>exact⟨0,_,rfl,Nat.zero_le _,HX.out⟩
   case round =>
    obtain⟨j,u,rfl,hj,H2⟩:=hrel
    clear HX
    obtain⟨VB,vb,rfl,_,_⟩:=Row.form H2 0 rfl
    by_cases hlt:j<32
    ·have k1:(j:Int)<32:=by omega
     have H3:=H2.newBk [.int .i64 5] 3
     have HR3:=Lib.hid (Rd.of_blk (H3.blk 0 rfl))
     have HH3:=Lib.hid (H3.pick 5 [1,2,3,4])
     have c0:=H2.cell 2 rfl 1
     have z0:=H2.frozen 2 rfl 1
     simp only [List.getElem?_cons_zero,List.getElem?_cons_succ] at c0
     clear H2 H3
     go_wp2_with (at_builtin; refine wpList_append_sp rfl _ _ 147 rfl 3 i0 (.int .i64 0) 1 8 Tryz.underlying147 hi hz0 hz1 hz2 rfl (by decide) _ j (cellsN (List.replicate j 5)) rfl HH3.out (some ⟨_,0,none⟩) 1 1 [.int .i64 5] rfl rfl HR3.out (by intro u hu; rw [List.mem_singleton.1 hu]; rfl) (by unfold maxLen; omega) (by omega) ?_)
     intro v4 w4 H4 _
     obtain⟨VB4,vb4,rfl,_,_⟩:=Row.form H4 0 rfl
     have c4:=H4.cell 2 rfl 1
     have z4:=H4.frozen 2 rfl 1
     simp only [List.getElem?_cons_zero,List.getElem?_cons_succ] at c4
     have HX:=Lib.hid ((H4.pick 3 [2,0,1]).set 1 (.slice VB4 (j+1) vb4))
     clear HH3 HR3 c0 z0 H4
     go_wp2_with fail
     go_roundw
     case rel =>
      refine⟨j+1,.slice VB4 (j+1) vb4,by go_num,by omega,?_⟩
      have h:=HX.out.pick 3 [1,2,0]
      rw [List.replicate_succ',cellsN_app]
      exact h
     case measure=>first | (simp [intOf]; omega) | simp [intOf]
    ·have k1:¬ (j:Int)<32:=by omega
     obtain rfl:j=32:=by omega
     have c0:=H2.cell 2 rfl 0
     have c1:=H2.cell 2 rfl 1
     have d0:=H2.cell 3 rfl 0
     have d1:=H2.cell 3 rfl 1
     have z0:=H2.frozen 3 rfl 0
     have z1:=H2.frozen 3 rfl 1
     simp only [List.getElem?_cons_zero,List.getElem?_cons_succ] at c0 c1 d0 d1
     have HX:=Lib.hid (((H2.pick 4 [3,0,1,2]).set 0 (.slice VA 288 vc)).set 1 (.slice VB 32 vb))
     clear H2
     go_wp2_with fail
     have t0:=HX.out.cell 0 rfl 0
     have t1:=HX.out.cell 0 rfl 1
     simp only [List.set_cons_zero,List.set_cons_succ,List.getElem?_cons_zero,List.getElem?_cons_succ] at t0 t1
     exact bodyPost_ret (v:=.agg #[.slice VA 288 vc,.slice VB 32 vb]) (by simp [results,go_sem,t0,t1]) rfl ⟨_,_,rfl,HX.out.pick 4 [2,1]⟩
namespace PI
theorem all_pos {B:List Bool} {most:Nat} {r:Nat × List UInt8 × List Blk} (h:all B most=.ok r):r.1<=B.length/\r.2.1.length<=most :=
 let ⟨_,h2,_,h4⟩:=Fine.all.pos B most (Nat.zero_le _) (Nat.zero_le _) r h
 ⟨h2,h4⟩
end PI
namespace PI
theorem getD_cons_drop {α:Type} {l:List α} {k:Nat} (z:α) (h:k<l.length):l.drop k=l.getD k z::l.drop (k+1):=by
 rw [List.drop_eq_getElem_cons h,List.getD_eq_getElem?_getD,List.getElem?_eq_getElem h]; rfl
end PI
namespace PI
theorem runL_eq (x:Nat):∀(l:List Nat) (m:Nat),m<=l.length->(∀j,j<m->l.getD j 0=x)->(m<l.length->l.getD m 0≠x)->runL x l=m:=by
 intro l
 induction l with
 | nil=>intro m h _ _; simp at h; rw [h]; rfl
 | cons y l ih =>
  intro m h1 h2 h3
  cases m with
  | zero =>
   have:=h3 (by simp)
   unfold runL
   rw [if_neg (by simpa using this)]
  | succ m =>
   have h0:=h2 0 (by omega)
   unfold runL
   rw [if_pos (by simpa using h0),ih m (by simpa using h1) (fun j hj=>by simpa using h2 (j+1) (by omega)) (fun hj=>by simpa using h3 (by simpa using hj))]
theorem runL_at {l:List Nat} {i k:Nat} (hi:i<l.length) (hik:i<k) (hk:k<=l.length) (h:∀j,i<=j->j<k->l.getD j 0=l.getD i 0) (hs:k<l.length->l.getD k 0≠l.getD i 0):runL (l.getD i 0) (l.drop (i+1))+1=k - i:=by
 have e:runL (l.getD i 0) (l.drop i)=k - i:=by
  refine runL_eq _ _ _ (by rw [List.length_drop]; omega) (fun j hj=>?_) (fun hj=>?_)
  ·rw [List.getD_eq_getElem?_getD,List.getElem?_drop,<- List.getD_eq_getElem?_getD]
   exact h (i+j) (by omega) (by omega)
  ·rw [List.getD_eq_getElem?_getD,List.getElem?_drop,<- List.getD_eq_getElem?_getD,show i+(k - i)=k by omega]
   exact hs (by rw [List.length_drop] at hj; omega)
 rw [<- e,getD_cons_drop 0 hi,runL,if_pos rfl]
end PI
theorem cellsW_get:∀(l:List PD.Wd) (i:Nat),i<l.length->∀j v,(wdC (l.getD i (0,0,0,0)))[j]?=some v->(cellsW l)[i * 4+j]?=some v
 | [],i,h=>by simp at h
 | t::l,0,_=>fun j v hj=>by
  have hj4:j<(wdC t).length:=(List.getElem?_eq_some_iff.1 hj).1
  show(wdC t++cellsW l)[0 * 4+j]?=some v
  rw [List.getElem?_append_left (by omega),Nat.zero_mul,Nat.zero_add]; exact hj
 | t::l,i+1,h=>fun j v hj=>by
  show(wdC t++cellsW l)[(i+1) * 4+j]?=some v
  rw [List.getElem?_append_right (by show 4<=_; omega),show(i+1) * 4+j - (wdC t).length=i * 4+j by show _ - 4=_; omega]
  exact cellsW_get l i (by simpa using h) j v hj
theorem rdW {w:World} {A:Option Addr} {l:List PD.Wd} (h:Rd w A (cellsW l)) {i:Nat} (hi:i<l.length):∃ad,A=some ad/\w.cell? (ad.add (i * 4))=some (.int .i64 ((l.getD i (0,0,0,0)).1:Int))/\w.cell? ⟨(ad.add (i * 4)).block,(ad.add (i * 4)).off+1,none⟩=some (.int .i64 ((l.getD i (0,0,0,0)).2.1:Int))/\w.cell? ⟨(ad.add (i * 4)).block,(ad.add (i * 4)).off+2,none⟩=some (.int .i64 ((l.getD i (0,0,0,0)).2.2.1:Int))/\w.cell? ⟨(ad.add (i * 4)).block,(ad.add (i * 4)).off+3,none⟩=some (.int .i64 ((l.getD i (0,0,0,0)).2.2.2:Int)):=by
 obtain⟨ad,e,hc⟩:=h (by intro e; have:=cellsW_len l; rw [e] at this; simp at this; omega)
 have hg:=fun j v hj=>hc _ _ (cellsW_get l i hi j v hj)
 refine⟨ad,e,hg 0 _ rfl,?_,?_,?_⟩
 ·rw [field_addr ad (i * 4) 1 (by omega)]; exact hg 1 _ rfl
 ·rw [field_addr ad (i * 4) 2 (by omega)]; exact hg 2 _ rfl
 ·rw [field_addr ad (i * 4) 3 (by omega)]; exact hg 3 _ rfl
theorem cntR_cnts (m:Nat) (l:List Nat):cntR m l=cellsN (PI.cnts m l):=by unfold cntR cellsN PI.cnts; rw [List.map_map]; rfl
theorem signs_take {l:List PD.Wd} {i b:Nat} (h:i<l.length):PD.signsOf b (l.take (i+1))=PD.signsOf b (l.take i)++(if (l.getD i (0,0,0,0)).1=b then [(l.getD i (0,0,0,0)).2.1] else []):=by
 rw [List.take_succ_eq_append_getElem h,PD.signsOf_app]
 congr 1
 have e:l.getD i (0,0,0,0)=l[i]:=by rw [List.getD_eq_getElem?_getD,List.getElem?_eq_getElem h]; rfl
 rw [e]
 unfold PD.signsOf
 by_cases hb:l[i].1=b
 ·rw [if_pos hb,List.filter_cons,if_pos (by simpa using hb)]; rfl
 ·rw [if_neg hb,List.filter_cons,if_neg (by simpa using hb)]; rfl
set_option maxRecDepth 100000 in
set_option maxHeartbeats 2000000 in
theorem dcounts_ok (A:Option Addr) (n c:Nat) (l:List PD.Wd) (bk m:Nat) {w0 w:World} {L:List Pr} (H:Sp w0 L w) (hrd:Ent L fun w=>Rd w A (cellsW l)) (hn:n=l.length) (hnm:n<=1000000) (hm:m<=1000) (hs:∀t ∈ l,t.1=bk->t.2.1<m) :
  Calls Tryz.prog 88 #[.slice A n c,.int .i64 (bk:Int),.int .i64 (m:Int)] w fun e w'=>∃v,e=.returned v/\Sp w0 (Row 3 1 v m (cellsN (PI.cnts m (PD.signsOf bk l)))::L) w':=by
 obtain⟨i0,hi,hz0,hz1,hz2⟩:=info_parts infoInt
 rw [<- cntR_cnts]
 have HRD:=Lib.hid hrd
 have HN:=Lib.hid hn
 have HS:=Lib.hid hs
 clear hrd hn hs
 go_enter Tryz.func88,Tryz.ntmps88
 go_wp2_with (at_make; refine wpList_make_sp rfl _ _ _ rfl 3 i0 (.int .i64 0) Tryz.underlying147 hi hz0 hz1 rfl m rfl rfl (by rw [hz2]; omega) (by unfold maxLen; omega) H ?_)
 intro av w1 H1
 have e0:List.replicate m (Value.int .i64 0)=cntR m (PD.signsOf bk (l.take 0)):=by
  unfold cntR
  rw [List.take_zero]
  apply List.ext_getElem
  ·simp
  ·intro i h1 h2
   simp [PD.signsOf]
 rw [e0] at H1
 have HX:=Lib.hid H1
 clear H H1 e0
 go_wp2_with fail
 go_loopw [14] (fun iv wr=>∃i:Nat,iv=.int .i64 (i:Int)/\i<=n/\Sp w0 (Row 3 1 (.slice (some av) m m) m (cntR m (PD.signsOf bk (l.take i)))::L) wr) (fun iv _=>n - (intOf iv).toNat)
 case atStart=>exact⟨0,rfl,Nat.zero_le _,HX.out⟩
 case round =>
  obtain⟨i,rfl,hin,H1⟩:=hrel
  clear HX
  by_cases hlt:i<n
  ·have k1:(i:Int)<(n:Int):=by omega
   have hil:i<l.length:=by rw [<- HN.out]; exact hlt
   obtain⟨ad,rfl,p0,p1,p2,p3⟩:=rdW (HRD.out _ _ H1.tail) hil
   have hsg:=signs_take (b:=bk) hil
   have hmem:l.getD i (0,0,0,0) ∈ l:=by rw [List.getD_eq_getElem?_getD,List.getElem?_eq_getElem hil]; exact List.getElem_mem hil
   have hsm:=HS.out _ hmem
   obtain⟨⟨b,s,q,r⟩,ht⟩:∃t,l.getD i (0,0,0,0)=t:=⟨_,rfl⟩
   rw [ht] at p0 p1 p2 p3 hsg hsm
   simp only at p0 p1 p2 p3 hsg hsm
   have H2:=H1.newBk [.int .i64 (b:Int),.int .i64 (s:Int),.int .i64 (q:Int),.int .i64 (r:Int)] 184
   have t0:=H2.cell 0 rfl 0
   have t1:=H2.cell 0 rfl 1
   simp only [List.getElem?_cons_zero,List.getElem?_cons_succ] at t0 t1
   obtain⟨R,hR⟩:∃R,PD.signsOf bk (l.take i)=R:=⟨_,rfl⟩
   rw [hR] at hsg H1 H2
   have hRl:R.length<=i:=by
    rw [<- hR]; unfold PD.signsOf
    rw [List.length_map]
    exact Nat.le_trans (List.length_filter_le _ _) (by rw [List.length_take]; omega)
   have HSG:=Lib.hid hsg
   clear ht hmem hsg hR
   by_cases hb:b=bk
   ·subst hb
    have hsm2:=hsm rfl
    have k2:(s:Int)<(m:Int):=by omega
    obtain⟨ad2,c2,ev,_,hcc,hfz,hset⟩:=H2.swap.rowSet hsm2
    injection ev with e1 e2 e3
    injection e1 with e1
    subst e1
    rw [cntR_get _ _ _ hsm2] at hcc
    obtain⟨q0,hq0⟩:∃q,R.count s=q:=⟨_,rfl⟩
    rw [hq0] at hcc
    have hq0l:q0<=1000000:=by
     have:=List.count_le_length (a:=s) (l:=R)
     omega
    have hs9:=hset (.int .i64 ((q0:Int)+1))
    rw [cntR_set m s R ((q0:Int)+1) (by rw [hq0])] at hs9
    have HSET:=Lib.hid hs9
    rw [if_pos rfl] at HSG
    clear hset hs9 H1 H2 hsm hq0 e2 e3
    go_wp2_with fail
    go_roundw
    case rel =>
     refine⟨i+1,by go_num,by omega,?_⟩
     rw [HSG.out]
     exact HSET.out.pick 2 [0]
    case measure=>first | (simp [intOf]; omega) | simp [intOf]
   ·have k2:((b:Int) == (bk:Int))=false:=by rw [beq_eq_false_iff_ne]; omega
    have k3:¬ (b:Int)=(bk:Int):=by omega
    rw [if_neg hb,List.append_nil] at HSG
    have HX:=Lib.hid H2.tail
    clear H1 H2 hsm
    go_wp2_with fail
    go_roundw
    case rel =>
     refine⟨i+1,by go_num,by omega,?_⟩
     rw [HSG.out]
     exact HX.out
    case measure=>first | (simp [intOf]; omega) | simp [intOf]
  ·have k1:¬ (i:Int)<(n:Int):=by omega
   rw [List.take_of_length_le (by rw [<- HN.out]; omega)] at H1
   have HX:=Lib.hid H1
   clear H1
   go_wp2_with fail
   go_ret
   exact⟨_,rfl,HX.out⟩
set_option maxRecDepth 100000 in
set_option maxHeartbeats 1000000 in
theorem dused_ok (A:Option Addr) (n c:Nat) (l:List Nat) (least:Nat) {w0 w:World} {L:List Pr} (H:Sp w0 L w) (hrd:Ent L fun w=>Rd w A (cellsN l)) (hn:n=l.length) (hnm:n<=1000000) (hls:least<=1000000) :
  Calls Tryz.prog 89 #[.slice A n c,.int .i64 (least:Int)] w fun e w'=>e=.returned (.int .i64 (PD.used l least n:Int))/\Sp w0 L w':=by
 obtain⟨T,hT⟩:∃T,PD.used l least n=T:=⟨_,rfl⟩
 rw [hT]
 have HT:=Lib.hid hT
 have HRD:=Lib.hid hrd
 have HN:=Lib.hid hn
 clear hrd hn hT
 go_enter Tryz.func89,Tryz.ntmps89
 go_wp2_with fail
 go_loopw [5] (fun kv wr=>∃k:Nat,kv=.int .i64 (k:Int)/\k<=n/\PD.used l least k=T/\Sp w0 L wr) (fun kv _=>(intOf kv).toNat)
 case atStart=>exact⟨n,rfl,Nat.le_refl _,HT.out,H⟩
 case round =>
  obtain⟨k,rfl,hk,hu,H1⟩:=hrel
  clear HT H
  by_cases hlk:least<k
  ·obtain⟨j,rfl⟩:∃j,k=j+1:=⟨k - 1,by omega⟩
   have k1:((j+1:Nat):Int) > (least:Int):=by omega
   have k2:(j:Int)+1 > (least:Int):=by omega
   have hjl:j<l.length:=by rw [<- HN.out]; omega
   have k3:(j:Int)<(n:Int):=by omega
   obtain⟨ad,rfl,hc⟩:=(HRD.out _ _ H1).at_ (k:=j) (by simpa [cellsN] using hjl)
   obtain⟨x,hx⟩:∃x,l.getD j 0=x:=⟨_,rfl⟩
   have hc2:wr.cell? (ad.add j)=some (.int .i64 (x:Int)):=by
    rw [hc,<- hx,List.getD_eq_getElem?_getD,List.getElem?_eq_getElem hjl]; simp [cellsN]
   rw [PD.used,hx] at hu
   have HU:=Lib.hid hu
   clear hc hx hu
   by_cases h0:x=0
   ·subst h0
    replace hc2:wr.cell? (ad.add j)=some (.int .i64 0):=hc2
    rw [if_pos ⟨hlk,rfl⟩] at HU
    go_wp2_with fail
    go_roundw
    case rel=>exact⟨j,by go_num,by omega,HU.out,H1⟩
    case measure=>first | (simp [intOf]; omega) | simp [intOf]
   ·have k4:((x:Int) == 0)=false:=by rw [beq_eq_false_iff_ne]; omega
    have k5:¬ (x:Int)=0:=by omega
    rw [if_neg (fun h=>h0 h.2)] at HU
    go_wp2_with fail
    go_ret
    exact⟨by rw [<- HU.out]; rfl,H1⟩
  ·have k1:¬ (k:Int) > (least:Int):=by omega
   have HU:Hid (k=T):=by
    rw [<- hu]
    cases k with
    | zero=>exact Lib.hid rfl
    | succ j=>rw [PD.used,if_neg (fun h=>hlk h.1)]; exact Lib.hid rfl
   clear hu
   go_wp2_with fail
   go_ret
   exact⟨by rw [<- HU.out]; rfl,H1⟩
theorem rdN {w:World} {A:Option Addr} {l:List Nat} (h:Rd w A (cellsN l)) {i:Nat} (hi:i<l.length):∃ad,A=some ad/\w.cell? (ad.add i)=some (.int .i64 (l.getD i 0:Nat)):=by
 obtain⟨ad,e,hc⟩:=h.at_ (k:=i) (by simpa [cellsN] using hi)
 refine⟨ad,e,?_⟩
 rw [hc,List.getD_eq_getElem?_getD,List.getElem?_eq_getElem hi]
 simp [cellsN]
theorem rdN' {ad:Addr} {l:List Nat} {w:World} (h:Rd w (some ad) (cellsN l)) {i:Nat} (hi:i<l.length):w.cell? (ad.add i)=some (.int .i64 (l.getD i 0:Nat)):=by
 obtain⟨a2,e,hc⟩:=rdN h hi
 injection e with e
 rw [e]; exact hc
set_option maxRecDepth 100000 in
set_option maxHeartbeats 2000000 in
theorem drun_ok (A:Option Addr) (n c:Nat) (l:List Nat) (i:Nat) {w0 w:World} {L:List Pr} (H:Sp w0 L w) (hrd:Ent L fun w=>Rd w A (cellsN l)) (hn:n=l.length) (hnm:n<=1000000) (hi:i<n) :
  Calls Tryz.prog 121 #[.slice A n c,.int .i64 (i:Int)] w fun e w'=>e=.returned (.int .i64 ((PI.runL (l.getD i 0) (l.drop (i+1))+1:Nat):Int))/\Sp w0 L w':=by
 obtain⟨T,hT⟩:∃T,PI.runL (l.getD i 0) (l.drop (i+1))+1=T:=⟨_,rfl⟩
 rw [hT]
 have hil:i<l.length:=by rw [<- hn]; exact hi
 obtain⟨ad,rfl,hc0⟩:=rdN (hrd _ _ H) hil
 obtain⟨x,hx⟩:∃x,l.getD i 0=x:=⟨_,rfl⟩
 have HT:=Lib.hid hT
 have HRD:=Lib.hid hrd
 have HN:=Lib.hid hn
 have HX:=Lib.hid hx
 clear hrd hn hT hx hc0
 go_enter Tryz.func121,Tryz.ntmps121
 go_wp2_with fail
 go_loopw [5] (fun kv wr=>∃k:Nat,kv=.int .i64 (k:Int)/\i+k<=n/\(∀j,i<=j->j<i+k->l.getD j 0=x)/\Sp w0 L wr) (fun kv _=>n - (intOf kv).toNat)
 case atStart=>exact⟨0,rfl,by omega,fun j h1 h2=>by omega,H⟩
 case round =>
  obtain⟨k,rfl,hk,hall,H1⟩:=hrel
  have HALL:=Lib.hid hall
  obtain⟨q,hq⟩:∃q,i+k=q:=⟨_,rfl⟩
  have y1:(i:Int)+(k:Int)=(q:Int):=by omega
  have c0:=rdN' (HRD.out _ _ H1) hil
  rw [HX.out] at c0
  clear hall
  by_cases hqn:q<n
  ·have n1:(q:Int)<(n:Int):=by omega
   have n2:decide ((q:Int)<(n:Int))=true:=decide_eq_true n1
   have n3:(i:Int)<(n:Int):=by omega
   have hql:q<l.length:=by rw [<- HN.out]; exact hqn
   have c1:=rdN' (HRD.out _ _ H1) hql
   obtain⟨y,hy⟩:∃y,l.getD q 0=y:=⟨_,rfl⟩
   rw [hy] at c1
   have HY:=Lib.hid hy
   clear hy
   by_cases hyx:y=x
   ·subst hyx
    have HH1:=Lib.hid H1
    clear H1 H
    go_wp2_with fail
    go_quiet (fail)
    have HQ:=Lib.hid (HH1.out.drewN nq)
    clear HH1
    go_wp2_with fail
    go_roundw
    case rel=>exact⟨k+1,by go_num,by omega,fun j h1 h2=>by
     by_cases e:j=q
     ·rw [e]; exact HY.out
     ·exact HALL.out j h1 (by omega),HQ.out⟩
    case measure=>first | (simp [intOf]; omega) | simp [intOf]
   ·have n4:((y:Int) == (x:Int))=false:=by rw [beq_eq_false_iff_ne]; omega
    have n5:¬ (y:Int)=(x:Int):=by omega
    have HK:Hid (k=T):=by
     rw [<- HT.out]
     have k0:0<k:=by
      rcases Nat.eq_zero_or_pos k with h | h
      ·subst h
       have:q=i:=by omega
       subst this
       exact absurd (HY.out.symm.trans HX.out) hyx
      ·exact h
     have h:=PI.runL_at (l:=l) (i:=i) (k:=q) hil (by omega) (by omega) (fun j h1 h2=>by rw [HX.out]; exact HALL.out j h1 (by omega)) (fun _=>by rw [HY.out,HX.out]; exact hyx)
     rw [h]
     exact Lib.hid (by omega)
    have HH1:=Lib.hid H1
    clear H1 H HT HALL
    go_wp2_with fail
    go_quiet (fail)
    have HQ:=Lib.hid (HH1.out.drewN nq)
    clear HH1
    go_wp2_with fail
    go_ret
    exact⟨by rw [<- HK.out]; rfl,HQ.out⟩
  ·have n1:¬ (q:Int)<(n:Int):=by omega
   have n2:decide ((q:Int)<(n:Int))=false:=decide_eq_false n1
   have HK:Hid (k=T):=by
    rw [<- HT.out]
    have h:=PI.runL_at (l:=l) (i:=i) (k:=q) hil (by omega) (by have:=HN.out; omega) (fun j h1 h2=>by rw [HX.out]; exact HALL.out j h1 (by omega)) (fun h=>by have:=HN.out; omega)
    rw [h]
    exact Lib.hid (by omega)
   have HH1:=Lib.hid H1
   clear H1 H HT HALL
   go_wp2_with fail
   go_quiet (fail)
   have HQ:=Lib.hid (HH1.out.drewN nq)
   clear HH1
   go_wp2_with fail
   go_ret
   exact⟨by rw [<- HK.out]; rfl,HQ.out⟩
namespace PD
theorem runL_get (x:Nat):∀(r:List Nat) (j:Nat),j<PI.runL x r->r.getD j 0=x:=by
 intro r
 induction r with
 | nil=>intro j h; simp [PI.runL] at h
 | cons y r ih =>
  intro j h
  unfold PI.runL at h
  split at h
  ·rename_i e
   cases j with
   | zero=>exact e
   | succ j=>exact ih j (by omega)
  ·omega
theorem rl_at {l:List Nat} {i f p:Nat} (hi:i<l.length):rl (f+1) p (l.drop i) =
  if p=l.getD i 0/\l.getD i 0≠0/\3<=PI.runL (l.getD i 0) (l.drop (i+1))+1 then (16,min (PI.runL (l.getD i 0) (l.drop (i+1))+1) 6 - 3)::rl f (l.getD i 0) (l.drop (i+min (PI.runL (l.getD i 0) (l.drop (i+1))+1) 6))
  else if l.getD i 0=0/\11<=PI.runL (l.getD i 0) (l.drop (i+1))+1 then (18,min (PI.runL (l.getD i 0) (l.drop (i+1))+1) 138 - 11)::rl f (l.getD i 0) (l.drop (i+min (PI.runL (l.getD i 0) (l.drop (i+1))+1) 138))
  else if l.getD i 0=0/\3<=PI.runL (l.getD i 0) (l.drop (i+1))+1 then (17,PI.runL (l.getD i 0) (l.drop (i+1))+1 - 3)::rl f (l.getD i 0) (l.drop (i+(PI.runL (l.getD i 0) (l.drop (i+1))+1)))
  else (l.getD i 0,0)::rl f (l.getD i 0) (l.drop (i+1)):=by
 have e:l.drop i=l.getD i 0::l.drop (i+1):=by
  rw [List.drop_eq_getElem_cons hi,List.getD_eq_getElem?_getD,List.getElem?_eq_getElem hi]; rfl
 generalize l.getD i 0=x at e ⊢
 generalize l.drop (i+1)=r at e ⊢
 have d:∀k,l.drop (i+k)=(x::r).drop k:=fun k=>by rw [<- e,List.drop_drop]
 rw [d (min (PI.runL x r+1) 6),d (min (PI.runL x r+1) 138),d (PI.runL x r+1),e]
 rfl
end PD
set_option maxRecDepth 100000 in
set_option maxHeartbeats 8000000 in
theorem drows_ok (A:Option Addr) (n c:Nat) (l:List Nat) {w0 w:World} {L:List Pr} (H:Sp w0 L w) (hrd:Ent L fun w=>Rd w A (cellsN l)) (hn:n=l.length) (hnm:n<=100000) (h15:∀x ∈ l,x<=15) :
  Calls Tryz.prog 90 #[.slice A n c] w fun e w'=>∃v,e=.returned v/\Sp w0 (Row 184 4 v ((PD.row l).map PD.rwd).length (cellsW ((PD.row l).map PD.rwd))::L) w':=by
 obtain⟨i1,hj,hj0,hj1,hj2⟩:=info_parts infoT
 obtain⟨FW,hFW⟩:∃FW,(PD.row l).map PD.rwd=FW:=⟨_,rfl⟩
 rw [hFW]
 have hF0:([]:List PD.Wd)++(PD.rl n 0 (l.drop 0)).map PD.rwd=FW:=by rw [<- hFW,hn]; rfl
 have HF:=Lib.hid hF0
 have HRD:=Lib.hid hrd
 have HN:=Lib.hid hn
 have H15:=Lib.hid h15
 clear hrd hn h15 hFW hF0
 go_enter Tryz.func90,Tryz.ntmps90
 go_wp2_with fail
 go_loopw [3,4] (fun rv iv wr=>∃(i f:Nat) (R:List PD.Wd) (p:Nat),iv=.int .i64 (i:Int)/\i<=n/\n<=i+f/\R.length<=i/\(if i=0 then 0 else l.getD (i - 1) 0)=p/\R++(PD.rl f p (l.drop i)).map PD.rwd=FW/\Sp w0 (Row 184 4 rv R.length (cellsW R)::L) wr) (fun _ iv _=>n - (intOf iv).toNat)
 case atStart=>exact⟨0,n,[],0,rfl,Nat.zero_le _,by omega,Nat.le_refl _,rfl,HF.out,H.rowNil _ _⟩
 case round =>
  obtain⟨i,f,R,p,rfl,hin,hf,hRl,hp,hinv,H1⟩:=hrel
  clear H HF
  have HI:=Lib.hid hinv
  have HP:=Lib.hid hp
  clear hinv hp
  by_cases hlt:i<n
  ·have k1:(i:Int)<(n:Int):=by omega
   have hil:i<l.length:=by rw [<- HN.out]; exact hlt
   obtain⟨f,rfl⟩:∃f',f=f'+1:=⟨f - 1,by omega⟩
   have hrl:=PD.rl_at (f:=f) (p:=p) hil
   obtain⟨ad,rfl,c0⟩:=rdN (HRD.out _ _ H1.tail) hil
   have hrun:=drun_ok (some ad) n c l i H1 (fun w0 w h=>HRD.out w0 w h.tail) HN.out (by omega) hlt
   obtain⟨x,hx⟩:∃x,l.getD i 0=x:=⟨_,rfl⟩
   have hx15:x<=15:=by
    rw [<- hx,List.getD_eq_getElem?_getD,List.getElem?_eq_getElem hil]
    exact H15.out _ (List.getElem_mem hil)
   obtain⟨q,hq⟩:∃q,PI.runL (l.getD i 0) (l.drop (i+1))+1=q:=⟨_,rfl⟩
   have hqn:1<=q/\i+q<=n:=by
    have:=PI.runL_le (l.getD i 0) (l.drop (i+1))
    rw [List.length_drop] at this
    have:=HN.out
    omega
   have hget:∀k,1<=k->k<=q->(if i+k=0 then 0 else l.getD (i+k - 1) 0)=x:=fun k h1 h2=>by
    rw [if_neg (by omega)]
    by_cases e:k=1
    ·subst e; rw [Nat.add_sub_cancel]; exact hx
    ·have h:=PD.runL_get (l.getD i 0) (l.drop (i+1)) (k - 2) (by omega)
     rw [List.getD_eq_getElem?_getD,List.getElem?_drop,show i+1+(k - 2)=i+k - 1 by omega,hx] at h
     rw [List.getD_eq_getElem?_getD]
     exact h
   rw [hq] at hrl hrun
   rw [hx] at hrl c0
   obtain⟨ag,hag⟩:∃ag,decide (p=x/\x≠0)=ag:=⟨_,rfl⟩
   have HGET:=Lib.hid hget
   have HRL:=Lib.hid hrl
   have HRUN:=Lib.hid hrun
   have HAG:=Lib.hid hag
   have HX:=Lib.hid hx
   obtain⟨VR,vrc,rfl,_,_⟩:=Row.form H1 0 rfl
   clear hrl hrun hget hq hx hag
   go_wp2_with fail
   refine HRUN.out.mono ?_
   rintro _ w2 ⟨rfl,H1⟩
   clear HRUN c0
   go_upto_region 5 with (fail)
   go_cut [6] from 7 to 93 (fun s6 wx=>s6=.bool ag/\Sp w0 (Row 184 4 (.slice VR R.length vrc) R.length (cellsW R)::L) wx)
   case first =>
    have c0:=rdN' (HRD.out _ _ H1.tail) hil
    rw [HX.out] at c0
    have HH1:=Lib.hid H1
    by_cases hi0:0<i
    ·have g1:(i:Int) > 0:=by omega
     have g2:decide (0<i)=true:=decide_eq_true hi0
     obtain⟨j,hj9⟩:∃j,i - 1=j:=⟨_,rfl⟩
     have y1:(i:Int) - 1=(j:Int):=by omega
     have k2:(j:Int)<(n:Int):=by omega
     have c1:=rdN' (i:=j) (HRD.out _ _ H1.tail) (by omega)
     have hpj:l.getD j 0=p:=by
      have h:=HP.out
      rw [if_neg (by omega),hj9] at h
      exact h
     rw [hpj] at c1
     have HAG2:=HAG.out
     clear H1 hpj hj9
     by_cases hpx:p=x
     ·subst hpx
      by_cases h0:p=0
      ·have e:ag=false:=by rw [<- HAG2,decide_eq_false]; exact fun h=>h.2 h0
       subst e h0
       replace c0:w2.cell? (ad.add i)=some (.int .i64 0):=c0
       replace c1:w2.cell? (ad.add j)=some (.int .i64 0):=c1
       clear HAG2
       go_wp2_with fail
       go_quiet (fail)
       have HQ:=Lib.hid (HH1.out.drewN nq)
       clear HH1
       go_wp2_with fail
       go_meet
       exact⟨rfl,HQ.out⟩
      ·have e:ag=true:=by rw [<- HAG2,decide_eq_true]; exact⟨rfl,h0⟩
       subst e
       have g5:¬ (p:Int)=0:=by omega
       have g6:((p:Int) != 0)=true:=by simpa using h0
       clear HAG2
       go_wp2_with fail
       go_quiet (fail)
       have HQ:=Lib.hid (HH1.out.drewN nq)
       clear HH1
       go_wp2_with fail
       go_meet
       exact⟨rfl,HQ.out⟩
     ·have e:ag=false:=by rw [<- HAG2,decide_eq_false]; exact fun h=>hpx h.1
      subst e
      have g5:¬ (p:Int)=(x:Int):=by omega
      have g6:((p:Int) == (x:Int))=false:=by rw [beq_eq_false_iff_ne]; exact g5
      clear HAG2
      go_wp2_with fail
      go_quiet (fail)
      have HQ:=Lib.hid (HH1.out.drewN nq)
      clear HH1
      go_wp2_with fail
      go_meet
      exact⟨rfl,HQ.out⟩
    ·have g1:¬ (i:Int) > 0:=by omega
     have g2:decide (0<i)=false:=decide_eq_false hi0
     have e:ag=false:=by
      rw [<- HAG.out,decide_eq_false]
      have h:=HP.out
      rw [if_pos (by omega)] at h
      intro h2; exact h2.2 (by omega)
     subst e
     clear H1
     go_wp2_with fail
     go_quiet (fail)
     have HQ:=Lib.hid (HH1.out.drewN nq)
     clear HH1
     go_wp2_with fail
     go_meet
     exact⟨rfl,HQ.out⟩
   case rest =>
    obtain⟨rfl,H1⟩:=hcut
    have HR:=HRL.out
    have HA:=HAG.out
    clear HRL HAG
    by_cases c1:ag=true/\3<=q
    ·obtain⟨rfl,h3⟩:=c1
     have hpx:=of_decide_eq_true HA
     rw [if_pos ⟨hpx.1,hpx.2,h3⟩] at HR
     obtain⟨m,hm⟩:∃m,min q 6=m:=⟨_,rfl⟩
     obtain⟨v,hv⟩:∃v,m - 3=v:=⟨_,rfl⟩
     have y1:min (q:Int) 6=(m:Int):=by omega
     have y2:(m:Int) - 3=(v:Int):=by omega
     have y3:(q:Int)≥3:=by omega
     rw [hm,hv] at HR
     have HN2:Hid (R++(((0,16,2,v):PD.Wd)::(PD.rl f x (l.drop (i+m))).map PD.rwd)=FW):=by rw [<- HI.out,HR]; exact Lib.hid rfl
     have HN:=HN2
     have hmq:1<=m/\m<=q:=by omega
     clear HI HR HA hm hv hpx HN2
     have H3:=H1.newBk (wdC (0,16,2,v)) 184
     have HR3:=Lib.hid (Rd.of_blk (H3.blk 0 rfl))
     have HH3:=Lib.hid (H3.pick 2 [1])
     clear H1 H3
     go_wp2_with (at_builtin; refine wpList_append_sp rfl _ _ 145 rfl 184 i1 (.agg #[.int .i64 0,.int .i64 0,.int .i64 0,.int .i64 0]) 4 32 Tryz.underlying145 hj hj0 hj1 hj2 rfl (by decide) _ R.length (cellsW R) rfl HH3.out (some ⟨_,0,none⟩) 1 1 (wdC (0,16,2,v)) rfl rfl HR3.out (wdC_one _) (by unfold maxLen; omega) (by omega) ?_)
     intro v4 w4 H4 _
     clear HH3 HR3
     go_wp2_with fail
     go_roundw
     case rel =>
      refine⟨i+m,f,R++[(0,16,2,v)],x,by go_num,by omega,by omega,by rw [List.length_append]; simp only [List.length_cons,List.length_nil]; omega,HGET.out m (by omega) (by omega),by rw [List.append_assoc]; exact HN.out,?_⟩
      rw [List.length_append,cellsW_app]
      rw [show cellsW [((0,16,2,v):PD.Wd)]=wdC (0,16,2,v) from List.append_nil _]
      exact H4
     case measure=>first | (simp [intOf]; omega) | simp [intOf]
    ·have HR2:PD.rl (f+1) p (l.drop i)=if x=0/\11<=q then (18,min q 138 - 11)::PD.rl f x (l.drop (i+min q 138)) else if x=0/\3<=q then (17,q - 3)::PD.rl f x (l.drop (i+q)) else (x,0)::PD.rl f x (l.drop (i+1)):=by
      rw [HR,if_neg]
      intro h
      exact c1 ⟨by rw [<- HA,decide_eq_true]; exact⟨h.1,h.2.1⟩,h.2.2⟩
     have hsk:ag=false∨¬ (q:Int)≥3:=by
      cases ag
      ·exact .inl rfl
      ·exact .inr fun h=>c1 ⟨rfl,by omega⟩
     have c0:=rdN' (HRD.out _ _ H1.tail) hil
     rw [HX.out] at c0
     have HR3:=Lib.hid HR2
     clear HR HR2 HA c1
     clear c0
     go_upto_region 8 with (fail)
     go_cut [43] from 7 to 93 (fun s43 wx=>s43=.bool false/\Sp w0 (Row 184 4 (.slice VR R.length vrc) R.length (cellsW R)::L) wx)
     case first =>
      rcases hsk with rfl | y3
      ·go_wp2_with fail
       go_meet
       exact⟨rfl,H1⟩
      ·cases ag
       ·go_wp2_with fail
        go_meet
        exact⟨rfl,H1⟩
       ·go_wp2_with fail
        go_meet
        exact⟨rfl,H1⟩
     case rest =>
      obtain⟨rfl,H1⟩:=hcut
      clear hsk
      have HR:=HR3.out
      have c0:=rdN' (HRD.out _ _ H1.tail) hil
      rw [HX.out] at c0
      clear HR3
      by_cases h0:x=0
      ·subst h0
       replace c0:World.cell? _ (ad.add i)=some (.int .i64 0):=c0
       by_cases h11:11<=q
       ·rw [if_pos ⟨rfl,h11⟩] at HR
        have y3:(q:Int)≥11:=by omega
        obtain⟨m,hm⟩:∃m,min q 138=m:=⟨_,rfl⟩
        obtain⟨v,hv⟩:∃v,m - 11=v:=⟨_,rfl⟩
        have y1:min (q:Int) 138=(m:Int):=by omega
        have y2:(m:Int) - 11=(v:Int):=by omega
        rw [hm,hv] at HR
        have HN:Hid (R++(((0,18,7,v):PD.Wd)::(PD.rl f 0 (l.drop (i+m))).map PD.rwd)=FW):=by rw [<- HI.out,HR]; exact Lib.hid rfl
        have hmq:1<=m/\m<=q:=by omega
        clear HI HR hm hv
        have H3:=H1.newBk (wdC (0,18,7,v)) 184
        have HR3:=Lib.hid (Rd.of_blk (H3.blk 0 rfl))
        have HH3:=Lib.hid (H3.pick 2 [1])
        clear H1 H3
        go_wp2_with (at_builtin; refine wpList_append_sp rfl _ _ 145 rfl 184 i1 (.agg #[.int .i64 0,.int .i64 0,.int .i64 0,.int .i64 0]) 4 32 Tryz.underlying145 hj hj0 hj1 hj2 rfl (by decide) _ R.length (cellsW R) rfl HH3.out (some ⟨_,0,none⟩) 1 1 (wdC (0,18,7,v)) rfl rfl HR3.out (wdC_one _) (by unfold maxLen; omega) (by omega) ?_)
        intro v4 w4 H4 _
        clear HH3 HR3
        go_wp2_with fail
        go_roundw
        case rel =>
         refine⟨i+m,f,R++[(0,18,7,v)],0,by go_num,by omega,by omega,by rw [List.length_append]; simp only [List.length_cons,List.length_nil]; omega,HGET.out m (by omega) (by omega),by rw [List.append_assoc]; exact HN.out,?_⟩
         rw [List.length_append,cellsW_app]
         rw [show cellsW [((0,18,7,v):PD.Wd)]=wdC (0,18,7,v) from List.append_nil _]
         exact H4
        case measure=>first | (simp [intOf]; omega) | simp [intOf]
       ·rw [if_neg (fun h=>h11 h.2)] at HR
        have y3:¬ (q:Int)≥11:=by omega
        by_cases h3:3<=q
        ·rw [if_pos ⟨rfl,h3⟩] at HR
         have y4:(q:Int)≥3:=by omega
         obtain⟨v,hv⟩:∃v,q - 3=v:=⟨_,rfl⟩
         have y2:(q:Int) - 3=(v:Int):=by omega
         rw [hv] at HR
         have HN:Hid (R++(((0,17,3,v):PD.Wd)::(PD.rl f 0 (l.drop (i+q))).map PD.rwd)=FW):=by rw [<- HI.out,HR]; exact Lib.hid rfl
         clear HI HR hv
         have H3:=H1.newBk (wdC (0,17,3,v)) 184
         have HR3:=Lib.hid (Rd.of_blk (H3.blk 0 rfl))
         have HH3:=Lib.hid (H3.pick 2 [1])
         clear H1 H3
         go_wp2_with (at_builtin; refine wpList_append_sp rfl _ _ 145 rfl 184 i1 (.agg #[.int .i64 0,.int .i64 0,.int .i64 0,.int .i64 0]) 4 32 Tryz.underlying145 hj hj0 hj1 hj2 rfl (by decide) _ R.length (cellsW R) rfl HH3.out (some ⟨_,0,none⟩) 1 1 (wdC (0,17,3,v)) rfl rfl HR3.out (wdC_one _) (by unfold maxLen; omega) (by omega) ?_)
         intro v4 w4 H4 _
         clear HH3 HR3
         go_wp2_with fail
         go_roundw
         case rel =>
          refine⟨i+q,f,R++[(0,17,3,v)],0,by go_num,by omega,by omega,by rw [List.length_append]; simp only [List.length_cons,List.length_nil]; omega,HGET.out q (by omega) (by omega),by rw [List.append_assoc]; exact HN.out,?_⟩
          rw [List.length_append,cellsW_app]
          rw [show cellsW [((0,17,3,v):PD.Wd)]=wdC (0,17,3,v) from List.append_nil _]
          exact H4
         case measure=>first | (simp [intOf]; omega) | simp [intOf]
        ·rw [if_neg (fun h=>h3 h.2)] at HR
         have y4:¬ (q:Int)≥3:=by omega
         have HN:Hid (R++(((0,0,0,0):PD.Wd)::(PD.rl f 0 (l.drop (i+1))).map PD.rwd)=FW):=by rw [<- HI.out,HR]; exact Lib.hid rfl
         clear HI HR
         have H3:=H1.newBk (wdC (0,0,0,0)) 184
         have HR3:=Lib.hid (Rd.of_blk (H3.blk 0 rfl))
         have HH3:=Lib.hid (H3.pick 2 [1])
         clear H1 H3
         go_wp2_with (at_builtin; refine wpList_append_sp rfl _ _ 145 rfl 184 i1 (.agg #[.int .i64 0,.int .i64 0,.int .i64 0,.int .i64 0]) 4 32 Tryz.underlying145 hj hj0 hj1 hj2 rfl (by decide) _ R.length (cellsW R) rfl HH3.out (some ⟨_,0,none⟩) 1 1 (wdC (0,0,0,0)) rfl rfl HR3.out (wdC_one _) (by unfold maxLen; omega) (by omega) ?_)
         intro v4 w4 H4 _
         clear HH3 HR3
         go_wp2_with fail
         go_roundw
         case rel =>
          refine⟨i+1,f,R++[(0,0,0,0)],0,by go_num,by omega,by omega,by rw [List.length_append]; simp only [List.length_cons,List.length_nil]; omega,HGET.out 1 (by omega) (by omega),by rw [List.append_assoc]; exact HN.out,?_⟩
          rw [List.length_append,cellsW_app]
          rw [show cellsW [((0,0,0,0):PD.Wd)]=wdC (0,0,0,0) from List.append_nil _]
          exact H4
         case measure=>first | (simp [intOf]; omega) | simp [intOf]
      ·rw [if_neg (fun h=>h0 h.1),if_neg (fun h=>h0 h.1)] at HR
       have y3:¬ (x:Int)=0:=by omega
       have y4:((x:Int) == 0)=false:=by rw [beq_eq_false_iff_ne]; exact y3
       have HN:Hid (R++(((0,x,0,0):PD.Wd)::(PD.rl f x (l.drop (i+1))).map PD.rwd)=FW):=by
        rw [<- HI.out,HR,List.map_cons]
        have e:PD.rwd (x,0)=(0,x,0,0):=by unfold PD.rwd; rw [PI.tellB_small x hx15]
        rw [e]; exact Lib.hid rfl
       clear HI HR
       have H3:=H1.newBk (wdC (0,x,0,0)) 184
       have HR3:=Lib.hid (Rd.of_blk (H3.blk 0 rfl))
       have HH3:=Lib.hid (H3.pick 2 [1])
       clear H1 H3
       go_wp2_with (at_builtin; refine wpList_append_sp rfl _ _ 145 rfl 184 i1 (.agg #[.int .i64 0,.int .i64 0,.int .i64 0,.int .i64 0]) 4 32 Tryz.underlying145 hj hj0 hj1 hj2 rfl (by decide) _ R.length (cellsW R) rfl HH3.out (some ⟨_,0,none⟩) 1 1 (wdC (0,x,0,0)) rfl rfl HR3.out (wdC_one _) (by unfold maxLen; omega) (by omega) ?_)
       intro v4 w4 H4 _
       clear HH3 HR3
       go_wp2_with fail
       go_roundw
       case rel =>
        refine⟨i+1,f,R++[(0,x,0,0)],x,by go_num,by omega,by omega,by rw [List.length_append]; simp only [List.length_cons,List.length_nil]; omega,HGET.out 1 (by omega) (by omega),by rw [List.append_assoc]; exact HN.out,?_⟩
        rw [List.length_append,cellsW_app]
        rw [show cellsW [((0,x,0,0):PD.Wd)]=wdC (0,x,0,0) from List.append_nil _]
        exact H4
       case measure=>first | (simp [intOf]; omega) | simp [intOf]
  ·have k1:¬ (i:Int)<(n:Int):=by omega
   have hnil:FW=R:=by
    rw [<- HI.out,List.drop_eq_nil_of_le (by rw [<- HN.out]; omega)]
    have:PD.rl f p []=[]:=by cases f <;> rfl
    rw [this]; simp
   have HFW:=Lib.hid hnil
   have HX:=Lib.hid H1
   clear H1 hnil
   go_wp2_with fail
   go_ret
   exact⟨_,rfl,by rw [HFW.out]; exact HX.out⟩
end Go.Proofs.YtloijdbkikccgaaGreatDoor

