/- A pack of texts: DefA DefSgP InfA InfB InfC. -/
import Derived.Recover
import Derived.WalkLawsBesides
import Derived.Test.YtloijdbkikccgaaDoorPk02
import Derived.Test.YtloijdbkikccgaaDoorPk03
import Derived.Test.YtloijdbkikccgaaDoorPk15
import Derived.Test.YtloijdbkikccgaaDoorPk16
import Derived.Test.YtloijdbkikccgaaDoorPk19
namespace Go.Proofs.YtloijdbkikccgaaDoor
set_option linter.unusedVariables false
set_option linter.unusedSimpArgs false
open Go.RowKit
namespace PD
def longT:List (Nat × Nat):=PI.lengthsT++[(258,0)]
theorem longT_find (x:Nat) (h:3≤x) (h2:x≤258):PI.findT longT x 28=(PI.longS x).1∧longT.getD (PI.findT longT x 28) (0,0)=(if x=258 then 258 else (PI.lengthsT.getD (PI.longS x).1 (0,0)).1,(PI.longS x).2.1)∧x - (longT.getD (PI.findT longT x 28) (0,0)).1=(PI.longS x).2.2∧(longT.getD (PI.findT longT x 28) (0,0)).1≤x:=by
 have e28:longT.getD 28 (0,0)=(258,0):=rfl
 unfold PI.longS
 by_cases e:x=258
 ·subst e
  have e1:PI.findT longT 258 28=28:=by rw [PI.findT,e28,if_pos (by decide)]
  rw [if_pos rfl,e1,e28]
  exact ⟨rfl,rfl,rfl,by decide⟩
 ·have hk:∀ k,k≤27→PI.findT longT x k=PI.findT PI.lengthsT x k:=by
   intro k
   induction k with
   | zero=>intro _; rfl
   | succ k ih =>
    intro hk
    rw [PI.findT,PI.findT,ih (by omega)]
    have:longT.getD (k+1) (0,0)=PI.lengthsT.getD (k+1) (0,0):=by
     unfold longT
     rw [List.getD_eq_getElem?_getD,List.getD_eq_getElem?_getD,List.getElem?_append_left (by show k+1<28; omega)]
    rw [this]
  have e1:PI.findT longT x 28=PI.findT PI.lengthsT x 27:=by
   rw [PI.findT,e28,if_neg (by show ¬ 258≤x; omega),hk 27 (by omega)]
  have hf:=PI.findT_spec PI.lengthsT x 27 h
  have e2:longT.getD (PI.findT PI.lengthsT x 27) (0,0)=PI.lengthsT.getD (PI.findT PI.lengthsT x 27) (0,0):=by
   unfold longT
   rw [List.getD_eq_getElem?_getD,List.getD_eq_getElem?_getD,List.getElem?_append_left (by show _<28; omega)]
  rw [if_neg e,e1,e2,if_neg e]
  exact ⟨rfl,rfl,rfl,hf.2.1⟩
def longI (x:Int):Nat × Nat × Nat:=if 3≤x∧x≤258 then (257+(PI.longS x.toNat).1,(PI.longS x.toNat).2.1,(PI.longS x.toNat).2.2) else (0,0,0)
def farI (x:Int):Nat × Nat × Nat:=if 1≤x∧x≤32768 then ((PI.farS x.toNat).1,(PI.farS x.toNat).2.1,(PI.farS x.toNat).2.2) else (0,0,0)
end PD
structure DTabs (TL TF:Option Addr) (cl cf:Nat) (w:World):Prop where
 long:w.cell? ⟨0,0,none⟩=some (.slice TL 29 cl)
 longs:Rd w TL (cellsP PD.longT)
 far:w.cell? ⟨1,0,none⟩=some (.slice TF 30 cf)
 fars:Rd w TF (cellsP PI.awayT)
 order:∀ i,i<19→w.cell? ⟨2,i,none⟩=some (.int .i64 (PI.orderT.getD i 0:Nat))
theorem DTabs.heap {TL TF:Option Addr} {cl cf:Nat} {W w:World} (h:DTabs TL TF cl cf W) (hs:∀ b,b<W.heap.size→w.heap[b]?=W.heap[b]?):DTabs TL TF cl cf w:=by
 have hc:∀ (p:Addr) u,W.cell? p=some u→w.cell? p=some u:=fun p u hp=>by
  rw [← hp]; exact World.cell?_of_block (hs p.block (cell_lt hp))
 exact ⟨hc _ _ h.long,h.longs.keep fun p u _ hp=>(hc p u hp).trans hp.symm,hc _ _ h.far,h.fars.keep fun p u _ hp=>(hc p u hp).trans hp.symm,fun i hi=>hc _ _ (h.order i hi)⟩
theorem findT_stop {t:List (Nat × Nat)} {x k:Nat} (h:(t.getD k (0,0)).1≤x):PI.findT t x k=k:=by
 cases k with
 | zero=>rfl
 | succ k=>unfold PI.findT; rw [if_pos h]
theorem findT_down {t:List (Nat × Nat)} {x k:Nat} (h:¬ (t.getD (k+1) (0,0)).1≤x):PI.findT t x (k+1)=PI.findT t x k:=by
 rw [PI.findT,if_neg h]
set_option maxRecDepth 100000 in
set_option maxHeartbeats 1000000 in
theorem dfind_ok (TA:Option Addr) (n c:Nat) (t:List (Nat × Nat)) (x:Nat) {w0 w:World} {L:List Pr} (H:Sp w0 L w) (hT:Ent L fun w=>Rd w TA (cellsP t)) (hn:n=t.length) (h0:0<n) (hns:n≤1000) (hx0:(t.getD 0 (0,0)).1≤x) (hxs:x≤1000000) :
  Calls Tryd.prog 33 #[.slice TA n c,.int .i64 (x:Int)] w fun e w'=>e=.returned (.tuple #[.int .i64 (PI.findT t x (n - 1):Int),.agg #[.int .i64 ((t.getD (PI.findT t x (n - 1)) (0,0)).1:Int),.int .i64 ((t.getD (PI.findT t x (n - 1)) (0,0)).2:Int)]])∧Sp w0 L w':=by
 obtain ⟨T,hTT⟩:∃ T,PI.findT t x (n - 1)=T:=⟨_,rfl⟩
 rw [hTT]
 have HT:=Lib.hid hT
 have HTT:=Lib.hid hTT
 have HN:=Lib.hid hn
 have HX0:=Lib.hid hx0
 have H1:=H.newBk [.int .i64 0,.int .i64 0] 86
 obtain ⟨m,rfl⟩:∃ m,n=m+1:=⟨n - 1,by omega⟩
 have y0:((m+1:Nat):Int) - 1=(m:Int):=by omega
 rw [Nat.add_sub_cancel] at HTT
 clear hT hn hx0 H hTT
 go_enter Tryd.func33,Tryd.ntmps33
 go_wp2_with fail
 have HH1:=Lib.hid H1
 clear H1
 generalize w.heap.size=g at HH1 ⊢
 go_loopw [6] (fun kv wr=>∃ k:Nat,kv=.int .i64 (k:Int)∧k≤m∧PI.findT t x k=T∧Sp w0 (Bk g 86 [.int .i64 0,.int .i64 0]::L) wr) (fun kv _=>(intOf kv).toNat)
 case atStart=>exact ⟨m,rfl,Nat.le_refl _,HTT.out,HH1.out⟩
 case round =>
  obtain ⟨k,rfl,hk,hft,H2⟩:=hrel
  clear HH1 HTT
  have HF:=Lib.hid hft
  have hkt:k<t.length:=by have:=HN.out; omega
  obtain ⟨ad,rfl,p0,p1⟩:=rdP (HT.out _ _ H2.tail) hkt
  obtain ⟨⟨f,b⟩,hp⟩:∃ p,t.getD k (0,0)=p:=⟨_,rfl⟩
  rw [hp] at p0 p1
  simp only at p0 p1
  have HP:=Lib.hid hp
  have k1:(k:Int)<((m+1:Nat):Int):=by omega
  have k3:(k:Int)<(m:Int)+1:=by omega
  have hcell:Ent L fun w=>w.cell? (ad.add (k * 2))=some (.int .i64 (f:Int))∧w.cell? ⟨(ad.add (k * 2)).block,(ad.add (k * 2)).off+1,none⟩=some (.int .i64 (b:Int)):=fun w0 w H=>by
   obtain ⟨ad2,e,h0,h1⟩:=rdP (HT.out _ _ H) hkt
   injection e with e
   rw [HP.out] at h0 h1
   rw [e]; exact ⟨h0,h1⟩
  have HC:=Lib.hid hcell
  clear hft hp hcell
  by_cases hfx:f≤x
  ·have k2:¬ (f:Int) > (x:Int):=by omega
   have HK:Hid (k=T):=by
    rw [← HF.out]; exact Lib.hid (findT_stop (by rw [HP.out]; exact hfx)).symm
   have HH2:=Lib.hid H2
   clear HF H2
   go_wp2_with fail
   refine wp_region_sc (L:=L) [some (.int .i64 (k:Int)),some (.slice (some ad) (m+1) c),some (.int .i64 (k:Int)),some (.pointer (some (ad.add (k * 2)))),some (.agg #[.int .i64 (f:Int),.int .i64 (b:Int)]),some (.int .i64 (k:Int)),some (undef)] (fun _ _=>True) (fun ix vx=>match ix with | 6=>(fun _=>[Bk g 86 [.int .i64 (f:Int),.int .i64 (b:Int)]]) vx | _=>[]) (fun ix=>match ix with | 6=>[Bk g 86 [.int .i64 0,.int .i64 0]] | _=>[]) 7 24
    [some 19,some 20,some 21,some 22,some 23,some 4,none]
    [[],[],[],[1,2],[3],[0,0],[4,5,0,1,2,3,4,5]]
    [[],[],[],[1,2],[1,2,3],[0],[0,1,2,3,4,5]]
    [[],[],[],[],[],[],[]] [[],[],[],[],[],[],[]] [(0,.slice (some ad) (m+1) c),(5,.pointer (some ⟨g,0,none⟩)),(6,.int .i64 (k:Int))]
    (by kernel_rfl) rfl (by decide) (by rfl) (by decide +kernel) rfl rfl (by simp) (HH2.out) ?hstep ?hend
   case hstep =>
    refine ⟨?p0,⟨?p1,⟨?p2,⟨?p3,⟨?p4,⟨?p5,⟨?p6,trivial⟩⟩⟩⟩⟩⟩⟩
    case p0 | p1 | p2 | p3 | p5 =>
     intro x wx A rest hDf hF hS hE H K hK
     replace hK:=Lib.hid hK
     clear hS hE hDf
     repeat (obtain ⟨_,hF⟩:=hF)
     change Oper.wp _ _ A wx K _
     go_step
     exact hK.out _ _ rfl H
    case p4 =>
     intro x wx A rest hDf hF hS hE H K hK0
     replace hDf:=Lib.hid hDf
     have e22:A.tmps[22]?.getD undef=.pointer (some (ad.add (k * 2))):=((hS 3 (by decide)).2 22 rfl).trans (hS 3 (by decide)).1
     replace H:Sp w0 (rest) wx:=H
     have hK:Hid (∀ (v:Value) (w' : World),v=.agg #[.int .i64 (f:Int),.int .i64 (b:Int)]→Sp w0 (rest) w'→K (A.put (some 23) v) w'):=Lib.hid hK0
     clear hK0 hF hS
     have hc:=hE _ HC.out _ _ H
     have c0:=hc.1
     have c1:=hc.2
     clear hc hE
     change Oper.wp _ _ A wx K _
     go_step
     exact hK.out _ _ rfl (H)
    case p6 =>
     intro x wx A rest hDf hF hS hE H K hK0
     replace hDf:=Lib.hid hDf
     have e5:A.tmps[5]?.getD undef=.pointer (some ⟨g,0,none⟩):=factsE_get hF (5,.pointer (some ⟨g,0,none⟩)) (by simp) (by rfl)
     have e23:A.tmps[23]?.getD undef=.agg #[.int .i64 (f:Int),.int .i64 (b:Int)]:=((hS 4 (by decide)).2 23 rfl).trans (hS 4 (by decide)).1
     replace H:Sp w0 ((Bk g 86 [.int .i64 0,.int .i64 0])::rest) wx:=H
     have hK:Hid (∀ (v:Value) (w' : World),v=undef→Sp w0 ((Bk g 86 [.int .i64 (f:Int),.int .i64 (b:Int)])::rest) w'→K (A.put none v) w'):=Lib.hid hK0
     clear hK0 hF hS hE
     have t0:=H.cell 0 rfl 0
     have t1:=H.cell 0 rfl 1
     have z0:=H.frozen 0 rfl 0
     have z1:=H.frozen 0 rfl 1
     change Oper.wp _ _ A wx K _
     go_step
     exact hK.out _ _ rfl ((H.set 0 (.int .i64 (f:Int))).set 1 (.int .i64 (b:Int)))
   case hend =>
    intro x wx A hA hS H
    replace H:Sp w0 ((Bk g 86 [.int .i64 (f:Int),.int .i64 (b:Int)])::L) wx:=H
    have y5:x 5=.int .i64 (k:Int):=hS 5 (by decide)
    clear hS
    simp only [putAll,Act.put,List.setIfInBounds_toArray,List.set_cons_succ,List.set_cons_zero,Nat.reduceAdd] at hA
    subst hA
    have HX:=Lib.hid H
    clear H
    have t0:=HX.out.cell 0 rfl 0
    have t1:=HX.out.cell 0 rfl 1
    simp only [List.getElem?_cons_zero,List.getElem?_cons_succ] at t0 t1
    go_wp2
    rw [← HK.out,HP.out]
    refine bodyPost_ret (v:=.tuple #[.int .i64 (k:Int),.agg #[.int .i64 (f:Int),.int .i64 (b:Int)]]) (by simp [results,go_sem,t0,t1,y5]) rfl ⟨rfl,HX.out.tail⟩
  ·have k2:(f:Int) > (x:Int):=by omega
   cases k with
   | zero =>
    have:=HX0.out
    rw [HP.out] at this
    exact absurd this hfx
   | succ k =>
    have HK:Hid (PI.findT t x k=T):=by
     rw [← HF.out]; exact Lib.hid (findT_down (by rw [HP.out]; exact hfx)).symm
    clear HF
    go_wp2_with fail
    go_roundw
    case rel=>exact ⟨k,by go_num,by omega,HK.out,H2⟩
    case measure=>first | (simp [intOf]; omega) | simp [intOf]
theorem longT_len:PD.longT.length=29:=rfl
theorem awayT_len:PI.awayT.length=30:=rfl
set_option maxRecDepth 100000 in
set_option maxHeartbeats 1000000 in
theorem dlong_ok (x:Int) {TL TF:Option Addr} {cl cf:Nat} {w0 w:World} {L:List Pr} (H:Sp w0 L w) (hT:Ent L (DTabs TL TF cl cf)) :
  Calls Tryd.prog 15 #[.int .i64 x] w fun e w'=>e=.returned (.tuple #[.int .i64 ((PD.longI x).1:Int),.int .i64 ((PD.longI x).2.1:Int),.int .i64 ((PD.longI x).2.2:Int)])∧Sp w0 L w':=by
 by_cases h1:3≤x
 ·by_cases h2:x≤258
  ·obtain ⟨n,rfl⟩:∃ n:Nat,x=(n:Int):=⟨x.toNat,by omega⟩
   have e:PD.longI (n:Int)=(257+(PI.longS n).1,(PI.longS n).2.1,(PI.longS n).2.2):=by
    unfold PD.longI; rw [if_pos ⟨h1,h2⟩]; rfl
   obtain ⟨f1,f2,f3,f4⟩:=PD.longT_find n (by omega) (by omega)
   have hF:=dfind_ok TL 29 cl PD.longT n H (fun w0 w H=>(hT w0 w H).longs) longT_len.symm (by decide) (by decide) (by show 3≤n; omega) (by omega)
   obtain ⟨⟨a,b⟩,hab⟩:∃ p,PD.longT.getD (PI.findT PD.longT n 28) (0,0)=p:=⟨_,rfl⟩
   obtain ⟨k,hk⟩:∃ k,PI.findT PD.longT n 28=k:=⟨_,rfl⟩
   rw [e,← f1,← f3]
   rw [hab] at f2
   rw [show (PI.longS n).2.1=b from (congrArg Prod.snd f2).symm]
   rw [hab] at f4 ⊢
   have hF' : Calls Tryd.prog 33 #[.slice TL 29 cl,.int .i64 (n:Int)] w fun e w'=>e=.returned (.tuple #[.int .i64 (k:Int),.agg #[.int .i64 (a:Int),.int .i64 (b:Int)]])∧Sp w0 L w':=by
    have h:=hF
    rw [show (29:Nat) - 1=28 from rfl,hab,hk] at h
    exact h
   rw [hk]
   simp only at f4 ⊢
   have c0:=(hT _ _ H).long
   have hk28:k≤28:=by rw [← hk]; exact (PI.findT_spec PD.longT n 28 (by show 3≤n; omega)).1
   obtain ⟨s,hs⟩:∃ s,257+k=s:=⟨_,rfl⟩
   obtain ⟨q,hq⟩:∃ q,n - a=q:=⟨_,rfl⟩
   have y1:257+(k:Int)=(s:Int):=by omega
   have y2:(n:Int) - (a:Int)=(q:Int):=by omega
   rw [hs,hq]
   have HF:=Lib.hid hF'
   have k1:¬ (n:Int)<3:=by omega
   have k2:¬ (n:Int) > 258:=by omega
   clear hF hF' f1 f2 f3 e hab hk hT f4 hs hq
   go_enter Tryd.func15,Tryd.ntmps15
   go_wp2_with fail
   refine HF.out.mono ?_
   rintro _ w1 ⟨rfl,H1⟩
   have H2:=H1.newBk [.int .i64 (a:Int),.int .i64 (b:Int)] 86
   have HH2:=Lib.hid H2
   have t0:=HH2.out.cell 0 rfl 0
   have t1:=HH2.out.cell 0 rfl 1
   simp only [List.getElem?_cons_zero,List.getElem?_cons_succ] at t0 t1
   clear HF c0 H2
   go_wp2_with fail
   go_quiet (fail)
   go_wp2
   exact bodyPost_ret (v:=.tuple #[.int .i64 (s:Int),.int .i64 (b:Int),.int .i64 (q:Int)]) (by simp [results,go_sem]) rfl ⟨rfl,(HH2.out.drewN _).tail⟩
  ·have e:PD.longI x=(0,0,0):=by unfold PD.longI; rw [if_neg (by omega)]
   rw [e]
   have k1:¬ x<3:=by omega
   have k2:x > 258:=by omega
   go_enter Tryd.func15,Tryd.ntmps15
   go_wp2
   exact bodyPost_ret (v:=.tuple #[.int .i64 0,.int .i64 0,.int .i64 0]) (by simp [results,go_sem]) rfl ⟨rfl,H⟩
 ·have e:PD.longI x=(0,0,0):=by unfold PD.longI; rw [if_neg (by omega)]
  rw [e]
  have k1:x<3:=by omega
  go_enter Tryd.func15,Tryd.ntmps15
  go_wp2
  exact bodyPost_ret (v:=.tuple #[.int .i64 0,.int .i64 0,.int .i64 0]) (by simp [results,go_sem]) rfl ⟨rfl,H⟩
set_option maxRecDepth 100000 in
set_option maxHeartbeats 1000000 in
theorem dfar_ok (x:Int) {TL TF:Option Addr} {cl cf:Nat} {w0 w:World} {L:List Pr} (H:Sp w0 L w) (hT:Ent L (DTabs TL TF cl cf)) :
  Calls Tryd.prog 16 #[.int .i64 x] w fun e w'=>e=.returned (.tuple #[.int .i64 ((PD.farI x).1:Int),.int .i64 ((PD.farI x).2.1:Int),.int .i64 ((PD.farI x).2.2:Int)])∧Sp w0 L w':=by
 by_cases h1:1≤x
 ·by_cases h2:x≤32768
  ·obtain ⟨n,rfl⟩:∃ n:Nat,x=(n:Int):=⟨x.toNat,by omega⟩
   have e:PD.farI (n:Int)=((PI.farS n).1,(PI.farS n).2.1,(PI.farS n).2.2):=by
    unfold PD.farI; rw [if_pos ⟨h1,h2⟩]; rfl
   have hf:=PI.findT_spec PI.awayT n 29 (by show 1≤n; omega)
   have hF:=dfind_ok TF 30 cf PI.awayT n H (fun w0 w H=>(hT w0 w H).fars) awayT_len.symm (by decide) (by decide) (by show 1≤n; omega) (by omega)
   rw [e]
   unfold PI.farS
   rw [show (30:Nat) - 1=29 from rfl] at hF
   obtain ⟨k,hk⟩:∃ k,PI.findT PI.awayT n 29=k:=⟨_,rfl⟩
   rw [hk] at hF hf ⊢
   obtain ⟨⟨a,b⟩,hab⟩:∃ p,PI.awayT.getD k (0,0)=p:=⟨_,rfl⟩
   rw [hab] at hF hf ⊢
   simp only at hf ⊢
   have f4:=hf.2.1
   have hk29:=hf.1
   obtain ⟨q,hq⟩:∃ q,n - a=q:=⟨_,rfl⟩
   have y2:(n:Int) - (a:Int)=(q:Int):=by omega
   rw [hq]
   have c0:=(hT _ _ H).far
   have HF:=Lib.hid hF
   have k1:¬ (n:Int)<1:=by omega
   have k2:¬ (n:Int) > 32768:=by omega
   clear hF e hab hk hT f4 hq hf
   go_enter Tryd.func16,Tryd.ntmps16
   go_wp2_with fail
   refine HF.out.mono ?_
   rintro _ w1 ⟨rfl,H1⟩
   have H2:=H1.newBk [.int .i64 (a:Int),.int .i64 (b:Int)] 86
   have HH2:=Lib.hid H2
   have t0:=HH2.out.cell 0 rfl 0
   have t1:=HH2.out.cell 0 rfl 1
   simp only [List.getElem?_cons_zero,List.getElem?_cons_succ] at t0 t1
   clear HF c0 H2
   go_wp2_with fail
   go_quiet (fail)
   go_wp2
   exact bodyPost_ret (v:=.tuple #[.int .i64 (k:Int),.int .i64 (b:Int),.int .i64 (q:Int)]) (by simp [results,go_sem]) rfl ⟨rfl,(HH2.out.drewN _).tail⟩
  ·have e:PD.farI x=(0,0,0):=by unfold PD.farI; rw [if_neg (by omega)]
   rw [e]
   have k1:¬ x<1:=by omega
   have k2:x > 32768:=by omega
   go_enter Tryd.func16,Tryd.ntmps16
   go_wp2
   exact bodyPost_ret (v:=.tuple #[.int .i64 0,.int .i64 0,.int .i64 0]) (by simp [results,go_sem]) rfl ⟨rfl,H⟩
 ·have e:PD.farI x=(0,0,0):=by unfold PD.farI; rw [if_neg (by omega)]
  rw [e]
  have k1:x<1:=by omega
  go_enter Tryd.func16,Tryd.ntmps16
  go_wp2
  exact bodyPost_ret (v:=.tuple #[.int .i64 0,.int .i64 0,.int .i64 0]) (by simp [results,go_sem]) rfl ⟨rfl,H⟩
set_option linter.unusedVariables false
set_option linter.unusedSimpArgs false
namespace PD
theorem findT_mono (t:List (Nat × Nat)) {x y:Nat} (h:x≤y) (k:Nat):PI.findT t x k≤PI.findT t y k:=by
 induction k with
 | zero=>exact Nat.le_refl _
 | succ k ih =>
  have hle:PI.findT t x k≤k:=by
   clear ih
   induction k with
   | zero=>exact Nat.le_refl _
   | succ k ih=>unfold PI.findT; split <;> omega
  unfold PI.findT
  split <;> split <;> omega
structure SgOk (F:Int→Nat × Nat × Nat):Prop where
 bits:∀ x,(F x).2.1≤13
 more:∀ x,(F x).2.2<2 ^ (F x).2.1
 inj:∀ x y,x≠y→F x=F y→(F x).1=0
 mono:∀ x y,x<y→0<(F y).1→(F x).1≤(F y).1
 none:∀ x,(F x).1=0→(F x).2.1=0∧(F x).2.2=0
theorem longI_back {x:Int} (h:3≤x) (h2:x≤258):x.toNat=(longT.getD ((longI x).1 - 257) (0,0)).1+(longI x).2.2∧(longI x).1=257+PI.findT longT x.toNat 28:=by
 obtain ⟨f1,f2,f3,f4⟩:=longT_find x.toNat (by omega) (by omega)
 have e:longI x=(257+(PI.longS x.toNat).1,(PI.longS x.toNat).2.1,(PI.longS x.toNat).2.2):=by unfold longI; rw [if_pos ⟨h,h2⟩]
 rw [e]
 refine ⟨?_,by show 257+(PI.longS x.toNat).1=_; rw [f1]⟩
 show x.toNat=(longT.getD (257+(PI.longS x.toNat).1 - 257) (0,0)).1+(PI.longS x.toNat).2.2
 rw [Nat.add_sub_cancel_left,← f3,← f1]
 omega
theorem longI_no {x:Int} (h:¬ (3≤x∧x≤258)):longI x=(0,0,0):=by unfold longI; rw [if_neg h]
theorem farI_no {x:Int} (h:¬ (1≤x∧x≤32768)):farI x=(0,0,0):=by unfold farI; rw [if_neg h]
theorem farI_back {x:Int} (h:1≤x) (h2:x≤32768):x.toNat=(PI.awayT.getD (farI x).1 (0,0)).1+(farI x).2.2∧(farI x).1=PI.findT PI.awayT x.toNat 29:=by
 obtain ⟨g1,g2,g3⟩:=PI.findT_spec PI.awayT x.toNat 29 (by show 1≤x.toNat; omega)
 have e:farI x=((PI.farS x.toNat).1,(PI.farS x.toNat).2.1,(PI.farS x.toNat).2.2):=by unfold farI; rw [if_pos ⟨h,h2⟩]
 rw [e]
 unfold PI.farS
 refine ⟨?_,rfl⟩
 show x.toNat=(PI.awayT.getD (PI.findT PI.awayT x.toNat 29) (0,0)).1+(x.toNat - (PI.awayT.getD (PI.findT PI.awayT x.toNat 29) (0,0)).1)
 omega
theorem long_range {x:Int} (h:3≤x) (h2:x≤258):257≤(longI x).1∧(longI x).1≤285∧(longI x).2.1≤5∧(longI x).2.2<2 ^ (longI x).2.1:=by
 obtain ⟨a1,a2,a3⟩:=PI.longS_lt x.toNat (by omega) (by omega)
 have e:longI x=(257+(PI.longS x.toNat).1,(PI.longS x.toNat).2.1,(PI.longS x.toNat).2.2):=by unfold longI; rw [if_pos ⟨h,h2⟩]
 rw [e]
 exact ⟨by show 257≤257+(PI.longS x.toNat).1; omega,by show 257+(PI.longS x.toNat).1≤285; omega,a3,a2⟩
theorem far_range {x:Int} (h:1≤x) (h2:x≤32768):(farI x).1≤29∧(farI x).2.1≤13∧(farI x).2.2<2 ^ (farI x).2.1:=by
 obtain ⟨a1,a2,a3⟩:=PI.farS_lt x.toNat (by omega) (by omega)
 have e:farI x=((PI.farS x.toNat).1,(PI.farS x.toNat).2.1,(PI.farS x.toNat).2.2):=by unfold farI; rw [if_pos ⟨h,h2⟩]
 rw [e]
 exact ⟨a1,a3,a2⟩
theorem long_sg:SgOk longI:=by
 refine ⟨fun x=>?_,fun x=>?_,fun x y hne he=>?_,fun x y hlt hp=>?_,fun x h0=>?_⟩
 ·by_cases h:3≤x∧x≤258
  ·have:=long_range h.1 h.2; omega
  ·rw [longI_no h]; decide
 ·by_cases h:3≤x∧x≤258
  ·exact (long_range h.1 h.2).2.2.2
  ·rw [longI_no h]; decide
 ·by_cases h:3≤x∧x≤258
  ·by_cases h' : 3≤y∧y≤258
   ·have h1:=(longI_back h.1 h.2).1
    have h2:=(longI_back h'.1 h'.2).1
    rw [he] at h1
    omega
   ·rw [he,longI_no h']
  ·rw [longI_no h]
 ·by_cases h' : 3≤y∧y≤258
  ·by_cases h:3≤x∧x≤258
   ·rw [(longI_back h.1 h.2).2,(longI_back h'.1 h'.2).2]
    have:=findT_mono longT (show x.toNat≤y.toNat by omega) 28
    omega
   ·rw [longI_no h]; exact Nat.zero_le _
  ·rw [longI_no h'] at hp; exact absurd hp (by decide)
 ·by_cases h:3≤x∧x≤258
  ·have:=(long_range h.1 h.2).1; omega
  ·rw [longI_no h]; exact ⟨rfl,rfl⟩
theorem far_sg:SgOk farI:=by
 refine ⟨fun x=>?_,fun x=>?_,fun x y hne he=>?_,fun x y hlt hp=>?_,fun x h0=>?_⟩
 ·by_cases h:1≤x∧x≤32768
  ·exact (far_range h.1 h.2).2.1
  ·rw [farI_no h]; decide
 ·by_cases h:1≤x∧x≤32768
  ·exact (far_range h.1 h.2).2.2
  ·rw [farI_no h]; decide
 ·by_cases h:1≤x∧x≤32768
  ·by_cases h' : 1≤y∧y≤32768
   ·have h1:=(farI_back h.1 h.2).1
    have h2:=(farI_back h'.1 h'.2).1
    rw [he] at h1
    omega
   ·rw [he,farI_no h']
  ·rw [farI_no h]
 ·by_cases h' : 1≤y∧y≤32768
  ·by_cases h:1≤x∧x≤32768
   ·rw [(farI_back h.1 h.2).2,(farI_back h'.1 h'.2).2]
    exact findT_mono PI.awayT (show x.toNat≤y.toNat by omega) 29
   ·rw [farI_no h]; exact Nat.zero_le _
  ·rw [farI_no h'] at hp; exact absurd hp (by decide)
 ·by_cases h:1≤x∧x≤32768
  ·have e:farI x=((PI.farS x.toNat).1,(PI.farS x.toNat).2.1,(PI.farS x.toNat).2.2):=by unfold farI; rw [if_pos h]
   have hb:=far_range h.1 h.2
   rw [e] at h0 hb ⊢
   have h1:PI.findT PI.awayT x.toNat 29=0:=h0
   have h2:(PI.farS x.toNat).2.1=0:=by unfold PI.farS; rw [h1]; rfl
   refine ⟨h2,?_⟩
   have h3:(PI.farS x.toNat).2.2<2 ^ (PI.farS x.toNat).2.1:=hb.2.2
   rw [h2] at h3
   show (PI.farS x.toNat).2.2=0
   omega
  ·rw [farI_no h]; exact ⟨rfl,rfl⟩
end PD
set_option linter.unusedVariables false
set_option linter.unusedSimpArgs false
open Go.RowKit
def pan (e:Nat):List PanicEntry:=[{ v:=.iface 33 (.int .i64 (e:Int)),recovered:=false }]
def XpB (gx gr:Nat) (vo:Value) (most:Nat) (vb:Value):Pr:=Bk gx 95 [.pointer (some ⟨gr,0,none⟩),vo,.int .i64 (most:Int),vb]
namespace PI
theorem numAt_peek (l:List UInt8) (a k:Nat) (h:a+k≤8 * l.length):numAt (PBits.ofB l) a k=PBits.peek l a k:=by
 unfold numAt PBits.peek
 rw [PBits.num_mid _ _ _ (by rw [PBits.ofB_length]; exact h),PBits.num_ofB]
theorem numAt_small (B:List Bool) (a k K:Nat) (h:k≤K):numAt B a k<2 ^ K:=Nat.lt_of_lt_of_le (numAt_lt B a k) (Nat.pow_le_pow_right (by omega) h)
end PI
theorem fail_ok (w:World):Calls Tryd.prog 128 #[.int .i64 0] w fun e w'=>e=.returned (.tuple #[])∧w=w':=by
 go_enter Tryd.func128,Tryd.ntmps128
 go_wp2
 go_end0
 exact ⟨rfl,rfl⟩
theorem fail_no (c:Nat) (hc:c≠0) (w:World):Calls Tryd.prog 128 #[.int .i64 (c:Int)] w fun e w'=>e=.panicked (pan c)∧w=w':=by
 have h:¬ (c:Int)=0:=by omega
 have h2:((c:Int) != 0)=true:=by simpa using hc
 go_enter Tryd.func128,Tryd.ntmps128
 go_wp2
 exact ⟨rfl,rfl,rfl⟩
set_option linter.unusedVariables false
set_option linter.unusedSimpArgs false
open Go.RowKit
set_option maxRecDepth 100000 in
theorem xnum_ok (gx gr:Nat) (l:List UInt8) (most at_ k:Nat) (vo vb:Value) {w0 w:World} {L:List Pr} (H:Sp w0 (Rr gr l at_::XpB gx gr vo most vb::L) w) (ha:at_≤8 * l.length) (hk:k≤57) (hl:l.length≤100000000) :
  Calls Tryd.prog 91 #[.pointer (some ⟨gx,0,none⟩),.int .i64 (k:Int)] w fun e w' =>
   match PI.number (PBits.ofB l) at_ k with
   | .error c=>e=.panicked (pan c)∧Sp w0 L w'
   | .ok r=>e=.returned (.int .i64 (r.2:Int))∧Sp w0 (Rr gr l r.1::XpB gx gr vo most vb::L) w':=by
 have c0:w.cell? ⟨gx,0,none⟩=some (.pointer (some ⟨gr,0,none⟩)):=H.cell 1 rfl 0
 cases hr:PI.number (PBits.ofB l) at_ k with
 | error c =>
  obtain ⟨rfl,hlt⟩:=PI.number_err hr
  rw [PBits.ofB_length] at hlt
  show Calls _ _ _ _ fun e w'=>e=.panicked (pan 4)∧Sp w0 L w'
  go_enter Tryd.func91,Tryd.ntmps91
  go_wp2_with fail
  refine (get_short gr l at_ k H ha hlt hk (by omega)).mono ?_
  rintro _ w1 ⟨rfl,hK⟩
  have H1:=hK.sep H
  go_wp2_with fail
  refine (fail_no 4 (by decide) w1).mono ?_
  rintro _ w2 ⟨rfl,rfl⟩
  go_wp2
  exact ⟨rfl,rfl,H1.tail2⟩
 | ok r =>
  obtain ⟨rfl,hle⟩:=PI.number_ok hr
  rw [PBits.ofB_length] at hle
  show Calls _ _ _ _ fun e w'=>e=.returned (.int .i64 (PI.numAt (PBits.ofB l) at_ k:Nat))∧Sp w0 (Rr gr l (at_+k)::XpB gx gr vo most vb::L) w'
  rw [PI.numAt_peek l at_ k hle]
  have hlt:=PI.numAt_small (PBits.ofB l) at_ k 57 hk
  rw [PI.numAt_peek l at_ k hle] at hlt
  obtain ⟨v,hv⟩:∃ v,PBits.peek l at_ k=v:=⟨_,rfl⟩
  rw [hv] at hlt ⊢
  have HV:=Lib.hid hv
  clear hv hr
  go_enter Tryd.func91,Tryd.ntmps91
  go_wp2_with fail
  refine (get_ok gr l at_ k H hle hk (by omega)).mono ?_
  rintro _ w1 ⟨rfl,H1⟩
  rw [HV.out]
  go_wp2_with fail
  refine (fail_ok w1).mono ?_
  rintro _ w2 ⟨rfl,rfl⟩
  go_wp2
  go_ret
  exact ⟨rfl,H1⟩
set_option maxRecDepth 100000 in
theorem xroom_ok (gx gr most n c many:Nat) (A:Option Addr) (vb:Value) {w0 w:World} {L:List Pr} (H:Sp w0 (XpB gx gr (.slice A n c) most vb::L) w) (hn:n≤most) (hm:most≤4611686018427387904) (hk:many≤4611686018427387904) :
  Calls Tryd.prog 131 #[.pointer (some ⟨gx,0,none⟩),.int .i64 (many:Int)] w fun e w'=>(e=if most - n<many then .panicked (pan 22) else .returned (.tuple #[]))∧Keep w w':=by
 have c1:w.cell? ⟨gx,1,none⟩=some (.slice A n c):=H.cell 0 rfl 1
 have c2:w.cell? ⟨gx,2,none⟩=some (.int .i64 (most:Int)):=H.cell 0 rfl 2
 clear H
 by_cases h:most - n<many
 ·rw [if_pos h]
  have h2:(many:Int) > (most:Int) - (n:Int):=by omega
  have n1:decide (most - n<many)=true:=by simpa using h
  go_enter Tryd.func131,Tryd.ntmps131
  go_wp2
  go_quiet (fail)
  go_wp2
  exact ⟨rfl,rfl,Keep.drewN _ _⟩
 ·rw [if_neg h]
  have h2:¬ (many:Int) > (most:Int) - (n:Int):=by omega
  have n1:decide (most - n<many)=false:=by simpa using h
  go_enter Tryd.func131,Tryd.ntmps131
  go_wp2
  go_quiet (fail)
  go_wp2
  go_end0
  exact ⟨rfl,Keep.drewN _ _⟩
def FeedX (gv gx gr:Nat) (l:List UInt8) (vo vb:Value) (most at_:Nat):Pr:=Star (Rr gr l at_) (Star (XpB gx gr vo most vb) (Bk gv 90 [.pointer (some ⟨gx,0,none⟩)]))
theorem feedX_open {w0 w:World} {L:List Pr} {gv gx gr:Nat} {l:List UInt8} {vo vb:Value} {most at_:Nat} (H:Sp w0 (FeedX gv gx gr l vo vb most at_::L) w) :
  Sp w0 (Rr gr l at_::XpB gx gr vo most vb::Bk gv 90 [.pointer (some ⟨gx,0,none⟩)]::L) w:=by
 have H1:=H.unstar.swap.unstar
 exact H1.pick 3 [2,0,1]
theorem feedX_shut {w0 w:World} {L:List Pr} {gv gx gr:Nat} {l:List UInt8} {vo vb:Value} {most at_:Nat} (H:Sp w0 (Rr gr l at_::XpB gx gr vo most vb::Bk gv 90 [.pointer (some ⟨gx,0,none⟩)]::L) w) :
  Sp w0 (FeedX gv gx gr l vo vb most at_::L) w:=(Sp.star (H.pick 3 [1,2,0])).swap.star
theorem PI.bit_num {B:List Bool} {a:Nat} {b:Bool} (h:B[a]?=some b):PI.number B a 1=.ok (a+1,bitV b):=by
 obtain ⟨h1,h2⟩:=List.getElem?_eq_some_iff.1 h
 unfold PI.number PI.numAt
 rw [if_pos (by omega)]
 congr 2
 rw [List.drop_eq_getElem_cons h1,h2]
 cases b <;> simp [PBits.num,bitV]
set_option maxRecDepth 100000 in
theorem xbit_on (gv gx gr:Nat) (l:List UInt8) (vo vb:Value) (most at_:Nat) (b:Bool) {w0 w:World} {L:List Pr} (H:Sp w0 (FeedX gv gx gr l vo vb most at_::L) w) (hl:l.length≤100000000) (h:(PBits.ofB l)[at_]?=some b) :
  Calls Tryd.prog 153 #[.pointer (some ⟨gv,0,none⟩)] w fun e w'=>e=.returned (.tuple #[.int .u32 (bitV b:Int),.int .i64 0])∧Sp w0 (FeedX gv gx gr l vo vb most (at_+1)::L) w':=by
 have H1:=feedX_open H
 have c0:w.cell? ⟨gv,0,none⟩=some (.pointer (some ⟨gx,0,none⟩)):=H1.cell 2 rfl 0
 have c1:w.cell? ⟨gx,0,none⟩=some (.pointer (some ⟨gr,0,none⟩)):=H1.cell 1 rfl 0
 have hr:=PI.bit_num h
 obtain ⟨e1,hle⟩:=PI.number_ok hr
 rw [PBits.ofB_length] at hle
 have e2:PBits.peek l at_ 1=bitV b:=by
  rw [← PI.numAt_peek l at_ 1 hle]
  exact (congrArg Prod.snd e1).symm
 have E2:=Lib.hid e2
 have hb:bitV b≤1:=by unfold bitV; split <;> omega
 clear e1 e2 hr h H
 go_enter Tryd.func153,Tryd.ntmps153
 go_wp2_with fail
 refine (get_ok gr l at_ 1 H1 hle (by omega) (by omega)).mono ?_
 rintro _ w1 ⟨rfl,H2⟩
 rw [E2.out]
 go_wp2_with fail
 go_ret2
 exact ⟨rfl,feedX_shut H2⟩
set_option maxRecDepth 100000 in
theorem xbit_end (gv gx gr:Nat) (l:List UInt8) (vo vb:Value) (most at_:Nat) {w0 w:World} {L:List Pr} (H:Sp w0 (FeedX gv gx gr l vo vb most at_::L) w) (hl:l.length≤100000000) (h:at_=8 * l.length) :
  Calls Tryd.prog 153 #[.pointer (some ⟨gv,0,none⟩)] w fun e w'=>e=.returned (.tuple #[.int .u32 0,.int .i64 4])∧Sp w0 (FeedX gv gx gr l vo vb most at_::L) w':=by
 have H1:=feedX_open H
 have c0:w.cell? ⟨gv,0,none⟩=some (.pointer (some ⟨gx,0,none⟩)):=H1.cell 2 rfl 0
 have c1:w.cell? ⟨gx,0,none⟩=some (.pointer (some ⟨gr,0,none⟩)):=H1.cell 1 rfl 0
 clear H
 go_enter Tryd.func153,Tryd.ntmps153
 go_wp2_with fail
 refine (get_short gr l at_ 1 H1 (by omega) (by omega) (by omega) (by omega)).mono ?_
 rintro _ w1 ⟨rfl,hK⟩
 have H2:=hK.sep H1
 go_wp2_with fail
 go_ret2
 exact ⟨rfl,feedX_shut H2⟩
set_option linter.unusedVariables false
set_option linter.unusedSimpArgs false
open Go.RowKit
set_option maxRecDepth 100000 in
set_option maxHeartbeats 4000000 in
theorem xnext_ok (gb gv gx gr:Nat) (by_:List UInt8) (vo vb:Value) (most:Nat) (vr:Value) (m:List Nat) (mo:Nat) (n at_:Nat) (l:List Bool) {w0 w:World} {L:List Pr} (H:Sp w0 (FeedX gv gx gr by_ vo vb most at_::Row 3 1 vr (PH.rows m).length (cellsN (PH.rows m))::BkB gb m vr (mo:Int)::L) w) (hn:n=l.length) (hb:l=PBits.ofB by_) (hl:n≤800000000) (ha:at_≤n) (hmo:mo≤15) (hs:PH.sum m≤32768) (hm:m.length≤1024) :
  Calls Tryd.prog 154 #[.pointer (some ⟨gb,0,none⟩),.func (.func 153) #[] #[.pointer (some ⟨gv,0,none⟩)]] w fun e w' =>
   e=.returned (.tuple #[.int .i64 ((PH.nextFrom m (l.drop at_) mo 0).2.2:Int),.int .i64 (PH.nextFrom m (l.drop at_) mo 0).2.1])∧Sp w0 (FeedX gv gx gr by_ vo vb most (at_+(PH.nextFrom m (l.drop at_) mo 0).1)::Row 3 1 vr (PH.rows m).length (cellsN (PH.rows m))::BkB gb m vr (mo:Int)::L) w':=by
 obtain ⟨T,hT⟩:∃ T,PH.nextFrom m (l.drop at_) mo 0=T:=⟨_,rfl⟩
 rw [hT]
 have HT:=Lib.hid hT
 have HN:=Lib.hid hn
 have HB:=Lib.hid hb
 have HS:=Lib.hid hs
 clear hT hn hb hs
 go_enter Tryd.func154,Tryd.ntmps154
 go_wp2_with fail
 go_loopw [6,7,8,9] (fun c6 c7 c8 c9 wr=>∃ i:Nat,c6=.int .i64 (PH.numb ((l.drop at_).take i):Int)∧c7=.int .i64 ((PH.fst m i+PH.tal m i:Nat):Int)∧c8=.int .i64 ((PH.rowsB m i).length:Int)∧c9=.int .i64 ((i+1:Nat):Int)∧i≤mo∧at_+i≤n∧PH.fst m i+PH.tal m i≤PH.numb ((l.drop at_).take i)∧PH.nextFrom m (l.drop at_) (mo - i) i=T∧Sp w0 (FeedX gv gx gr by_ vo vb most (at_+i)::Row 3 1 vr (PH.rows m).length (cellsN (PH.rows m))::BkB gb m vr (mo:Int)::L) wr) (fun _ _ _ c9 _=>mo+1 - (intOf c9).toNat)
 case atStart=>exact ⟨0,rfl,rfl,rfl,rfl,Nat.zero_le _,ha,Nat.zero_le _,HT.out,H⟩
 case round =>
  obtain ⟨i,rfl,rfl,rfl,rfl,hi,hai,hfc,hnx,H1⟩:=hrel
  obtain ⟨C,hC⟩:∃ C,PH.numb ((l.drop at_).take i)=C:=⟨_,rfl⟩
  obtain ⟨F,hF⟩:∃ F,PH.fst m i+PH.tal m i=F:=⟨_,rfl⟩
  obtain ⟨R,hR⟩:∃ R,(PH.rowsB m i).length=R:=⟨_,rfl⟩
  obtain ⟨P,hP⟩:∃ P,(PH.rows m).length=P:=⟨_,rfl⟩
  have hCl:C<32768:=by
   have:=PH.numb_lt ((l.drop at_).take i)
   have h2:2 ^ ((l.drop at_).take i).length≤2 ^ 15:=Nat.pow_le_pow_right (by omega) (by rw [List.length_take]; omega)
   omega
  rw [hC,hF] at hfc
  rw [hC,hF,hR]
  obtain ⟨VR,cR,rfl,_,_⟩:=Row.form H1 1 rfl
  rw [hP] at H1
  rw [hP] at ⊢
  obtain ⟨c16,c17,_,_,ctal⟩:=BkB.get H1 2 rfl
  have e1:((i+1:Nat):Int)=(i:Int)+1:=by omega
  rw [e1]
  by_cases him:i<mo
  ·have k1:(i:Int)+1≤(mo:Int):=by omega
   by_cases hat:at_+i<n
   ·have hg:∃ b,l[at_+i]?=some b:=⟨l[at_+i]'(by rw [← HN.out]; exact hat),List.getElem?_eq_getElem _⟩
    obtain ⟨b,hbi⟩:=hg
    have HBI:=Lib.hid hbi
    have HNX:=Lib.hid hnx
    have HC:=Lib.hid hC
    have HF:=Lib.hid hF
    have HR:=Lib.hid hR
    have HP:=Lib.hid hP
    have ct:=Lib.hid (ctal (i+1) (by omega))
    clear hbi hnx hC hF hR hP ctal H HT
    go_wp2_with fail
    refine (xbit_on gv gx gr by_ vo vb most (at_+i) b H1 (by have:=HN.out; rw [HB.out,PBits.ofB_length] at this; omega) (by rw [← HB.out]; exact HBI.out)).mono ?_
    rintro _ w1 ⟨rfl,H2⟩
    obtain ⟨c16,c17,_,_,ctal⟩:=BkB.get H2 2 rfl
    have ct:=ctal (i+1) (by omega)
    obtain ⟨t,ht⟩:∃ t,PH.tal m (i+1)=t:=⟨_,rfl⟩
    rw [ht] at ct
    have HTT:=Lib.hid ht
    have ht2:t≤1024:=by rw [← ht]; exact Nat.le_trans (PH.tal_le m _) hm
    have hR2:R≤15360:=by
     rw [← HR.out]
     exact Nat.le_trans (PH.rowsB_len m i) (Nat.mul_le_mul (by omega:i≤15) hm)
    have HST:=PH.next_on m l at_ i (mo - (i+1)) C F b HBI.out HC.out HF.out
    rw [show mo - (i+1)+1=mo - i by omega,HNX.out,ht,HR.out] at HST
    have HNB:=Lib.hid (PH.numb_take l at_ i b HBI.out)
    have hrt:R+t≤(PH.rows m).length:=by
     rw [← HR.out,← ht,← PH.rowsB_tal]
     exact PH.rowsB_mono m (i+1) 15 (by omega)
    have HRT:=Lib.hid hrt
    rw [HC.out] at HNB
    have hrr:∀ q,q<(PH.rows m).length→∃ ad,VR=some ad∧w1.cell? (ad.add q)=some (.int .i64 ((PH.rows m).getD q 0:Int)):=by
     intro q hq
     obtain ⟨A9,c9,e9,hrd,_,_⟩:=H2.row_rd 1 rfl
     injection e9 with e9
     subst e9
     obtain ⟨ad,ea,hc⟩:=hrd.at_ (k:=q) (by simpa [cellsN] using hq)
     refine ⟨ad,ea,?_⟩
     rw [hc]
     simp [cellsN,List.getD_eq_getElem?_getD,List.getElem?_eq_getElem hq]
    have HRR:=Lib.hid hrr
    have hz:=or_zero C (by omega)
    have ho:=or_one2 C (by omega)
    clear ctal ht hrt hrr
    have q1:bits .and .u32 1 1=1:=by decide +kernel
    have q2:bits .and .u32 0 1=0:=by decide +kernel
    cases b
    ·rw [show bitV false=0 from rfl] at HST
     rw [show ((bitV false:Nat):Int)=0 from rfl]
     by_cases hit:2 * C+0<2 * F+t
     ·rw [if_pos hit] at HST
      obtain ⟨kk,hkk⟩:∃ kk,2 * C+0 - 2 * F=kk:=⟨_,rfl⟩
      rw [hkk] at HST
      have kv:(C:Int) * 2 - (F:Int) * 2=(kk:Int):=by omega
      obtain ⟨q,hq0⟩:∃ q,R+kk=q:=⟨_,rfl⟩
      rw [hq0] at HST
      have kq:(R:Int)+(kk:Int)=(q:Int):=by omega
      have hq:q<(PH.rows m).length:=by have:=HRT.out; omega
      have hr2:=HRR.out q hq
      have k4:(kk:Int)<(t:Int):=by omega
      have k6:(q:Int)<(P:Int):=by rw [← HP.out]; omega
      obtain ⟨y,hy⟩:∃ y,(PH.rows m).getD q 0=y:=⟨_,rfl⟩
      obtain ⟨ad,rfl,hcell⟩:=hr2
      rw [hy] at hcell HST
      have HTT2:=Lib.hid HST
      clear HST
      clear hy hkk hq0 hq HRR HRT
      go_wp2_with fail
      rw [HTT2.out]
      go_ret2
      exact ⟨rfl,by rw [HP.out]; exact H2⟩
     ·rw [if_neg hit] at HST
      have HTT2:=Lib.hid HST
      clear HST
      obtain ⟨kk,hkk⟩:∃ kk,2 * C+0 - 2 * F=kk:=⟨_,rfl⟩
      have kv:(C:Int) * 2 - (F:Int) * 2=(kk:Int):=by omega
      have k4:¬ (kk:Int)<(t:Int):=by omega
      have HIT:=Lib.hid hit
      clear hit hkk HRR HRT
      go_wp2_with fail
      have hit:=HIT.out
      clear HIT
      go_roundw
      case rel =>
       refine ⟨i+1,?_,?_,?_,by go_num,by omega,by omega,?_,HTT2.out.symm,H2⟩
       ·rw [HNB.out]; exact congrArg (Value.int .i64) (by simp [bitV]; omega)
       ·rw [PH.fst_next,HF.out,HTT.out]; exact congrArg (Value.int .i64) (by omega)
       ·rw [PH.rowsB_tal,HR.out,HTT.out]; exact congrArg (Value.int .i64) (by omega)
       ·rw [PH.fst_next,HF.out,HTT.out,HNB.out]; have hbf:bitV false=0:=rfl; have hbt:bitV true=1:=rfl; omega
      case measure=>first | (simp [intOf]; omega) | simp [intOf]
    ·rw [show bitV true=1 from rfl] at HST
     rw [show ((bitV true:Nat):Int)=1 from rfl]
     by_cases hit:2 * C+1<2 * F+t
     ·rw [if_pos hit] at HST
      obtain ⟨kk,hkk⟩:∃ kk,2 * C+1 - 2 * F=kk:=⟨_,rfl⟩
      rw [hkk] at HST
      have kv:(C:Int) * 2+1 - (F:Int) * 2=(kk:Int):=by omega
      obtain ⟨q,hq0⟩:∃ q,R+kk=q:=⟨_,rfl⟩
      rw [hq0] at HST
      have kq:(R:Int)+(kk:Int)=(q:Int):=by omega
      have hq:q<(PH.rows m).length:=by have:=HRT.out; omega
      have hr2:=HRR.out q hq
      have k4:(kk:Int)<(t:Int):=by omega
      have k6:(q:Int)<(P:Int):=by rw [← HP.out]; omega
      obtain ⟨y,hy⟩:∃ y,(PH.rows m).getD q 0=y:=⟨_,rfl⟩
      obtain ⟨ad,rfl,hcell⟩:=hr2
      rw [hy] at hcell HST
      have HTT2:=Lib.hid HST
      clear HST
      clear hy hkk hq0 hq HRR HRT
      go_wp2_with fail
      rw [HTT2.out]
      go_ret2
      exact ⟨rfl,by rw [HP.out]; exact H2⟩
     ·rw [if_neg hit] at HST
      have HTT2:=Lib.hid HST
      clear HST
      obtain ⟨kk,hkk⟩:∃ kk,2 * C+1 - 2 * F=kk:=⟨_,rfl⟩
      have kv:(C:Int) * 2+1 - (F:Int) * 2=(kk:Int):=by omega
      have k4:¬ (kk:Int)<(t:Int):=by omega
      have HIT:=Lib.hid hit
      clear hit hkk HRR HRT
      go_wp2_with fail
      have hit:=HIT.out
      clear HIT
      go_roundw
      case rel =>
       refine ⟨i+1,?_,?_,?_,by go_num,by omega,by omega,?_,HTT2.out.symm,H2⟩
       ·rw [HNB.out]; exact congrArg (Value.int .i64) (by simp [bitV]; omega)
       ·rw [PH.fst_next,HF.out,HTT.out]; exact congrArg (Value.int .i64) (by omega)
       ·rw [PH.rowsB_tal,HR.out,HTT.out]; exact congrArg (Value.int .i64) (by omega)
       ·rw [PH.fst_next,HF.out,HTT.out,HNB.out]; have hbf:bitV false=0:=rfl; have hbt:bitV true=1:=rfl; omega
      case measure=>first | (simp [intOf]; omega) | simp [intOf]
   ·have hnx2:T=(i,4,0):=by
     rw [← hnx,show mo - i=mo - (i+1)+1 by omega,PH.nextFrom,if_pos (by rw [List.length_drop,← HN.out]; omega)]
    have HTT2:=Lib.hid hnx2
    have HP:=Lib.hid hP
    have hend:at_+i=n:=by omega
    have HE:=Lib.hid hend
    clear hnx hnx2 hC hF hR hP ctal H HT hend
    go_wp2_with fail
    refine (xbit_end gv gx gr by_ vo vb most (at_+i) H1 (by have:=HN.out; rw [HB.out,PBits.ofB_length] at this; omega) (by have:=HN.out; rw [HB.out,PBits.ofB_length] at this; have:=HE.out; omega)).mono ?_
    rintro _ w1 ⟨rfl,H2⟩
    go_wp2_with fail
    rw [HTT2.out]
    go_ret2
    exact ⟨rfl,by rw [HP.out]; exact H2⟩
  ·have k1:¬ (i:Int)+1≤(mo:Int):=by omega
   have hnx2:T=(i,20,0):=by rw [← hnx,show mo - i=0 by omega]; rfl
   have HTT2:=Lib.hid hnx2
   have HP:=Lib.hid hP
   clear hnx hnx2 hC hF hR hP ctal H HT
   go_wp2_with fail
   rw [HTT2.out]
   go_ret2
   exact ⟨rfl,by rw [HP.out]; exact H1⟩
end Go.Proofs.YtloijdbkikccgaaDoor

