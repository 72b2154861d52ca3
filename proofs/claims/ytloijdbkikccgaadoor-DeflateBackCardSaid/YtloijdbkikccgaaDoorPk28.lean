/- A pack of texts: DefC InfBit InfSg InfHd DefD. -/
import Derived.Test.YtloijdbkikccgaaDoorPk10
import Derived.Test.YtloijdbkikccgaaDoorPk18
import Derived.Test.YtloijdbkikccgaaDoorPk27
namespace Go.Proofs.YtloijdbkikccgaaDoor
set_option linter.unusedVariables false
set_option linter.unusedSimpArgs false
open Go.RowKit
theorem infoInt:(Tryd.prog.info? 3).map (fun i=>(i.zero,i.size,i.bytes))=some (some (.int .i64 0),1,8):=by kernel_rfl
theorem cellsN_app (a b:List Nat):cellsN (a++b)=cellsN a++cellsN b:=by simp [cellsN]
theorem dfixedL_at {k:Nat} (hk:k<288):PI.fixedL.getD k 0=if 280≤k then 8 else if 256≤k then 7 else if 144≤k then 9 else 8:=by
 have:∀ k,k<288→PI.fixedL.getD k 0=if 280≤k then 8 else if 256≤k then 7 else if 144≤k then 9 else 8:=by decide +kernel
 exact this k hk
theorem dfixedL_len:PI.fixedL.length=288:=by decide +kernel
theorem dfixedL_next {k v:Nat} (hk:k<288) (h:PI.fixedL.getD k 0=v):PI.fixedL.take (k+1)=PI.fixedL.take k++[v]:=by
 have hl:k<PI.fixedL.length:=by rw [dfixedL_len]; exact hk
 rw [List.take_succ_eq_append_getElem hl]
 rw [List.getD_eq_getElem?_getD,List.getElem?_eq_getElem hl] at h
 rw [show PI.fixedL[k]=v from h]
set_option maxRecDepth 100000 in
set_option maxHeartbeats 4000000 in
theorem dfixed_ok {w0 w:World} {L:List Pr} (H:Sp w0 L w) :
  Calls Tryd.prog 113 #[] w fun e w'=>∃ v0 v1,e=.returned (.agg #[v0,v1])∧Sp w0 (Row 3 1 v0 288 (cellsN PI.fixedL)::Row 3 1 v1 32 (cellsN PI.fixedD)::L) w':=by
 obtain ⟨i0,hi,hz0,hz1,hz2⟩:=info_parts infoInt
 have H1:=H.newBk [.slice none 0 0,.slice none 0 0] 163
 have H2:=H1.newBk [.slice none 0 0,.slice none 0 0] 163
 rw [size_alloc] at H2
 have HX:=Lib.hid (H2.rowNil 3 1)
 clear H H1 H2
 go_enter Tryd.func113,Tryd.ntmps113
 go_wp2_with fail
 generalize w.heap.size+1=g at HX ⊢
 generalize w.heap.size=g0 at HX ⊢
 go_loopw [4] (fun kv wr=>∃ (k:Nat) (v:Value),kv=.int .i64 (k:Int)∧k≤288∧Sp w0 (Row 3 1 v k (cellsN (PI.fixedL.take k))::Bk g 163 [v,.slice none 0 0]::Bk g0 163 [.slice none 0 0,.slice none 0 0]::L) wr) (fun kv _=>288 - (intOf kv).toNat)
 case atStart=>exact ⟨0,_,rfl,Nat.zero_le _,HX.out⟩
 case round =>
  obtain ⟨k,v,rfl,hk,H2⟩:=hrel
  clear HX
  obtain ⟨VA,vc,rfl,_,_⟩:=Row.form H2 0 rfl
  by_cases hlt:k<288
  ·have k1:(k:Int)<288:=by omega
   have hk:=hlt
   by_cases h280:280≤k
   ·have k2:(k:Int)≥280:=by omega
    have HV:Hid (PI.fixedL.take (k+1)=PI.fixedL.take k++[8]):=Lib.hid (dfixedL_next hk (by rw [dfixedL_at hk]; simp only [if_pos h280]))
    have H3:=H2.newBk [.int .i64 8] 3
    have HR3:=Lib.hid (Rd.of_blk (H3.blk 0 rfl))
    have HH3:=Lib.hid (H3.pick 4 [1,2,3])
    have c0:=H2.cell 1 rfl 0
    have z0:=H2.frozen 1 rfl 0
    simp only [List.getElem?_cons_zero] at c0
    clear H2 H3
    go_wp2_with (at_builtin; refine wpList_append_sp rfl _ _ 58 rfl 3 i0 (.int .i64 0) 1 8 Tryd.underlying58 hi hz0 hz1 hz2 rfl (by decide) _ k (cellsN (PI.fixedL.take k)) rfl HH3.out (some ⟨_,0,none⟩) 1 1 [.int .i64 8] rfl rfl HR3.out (by intro u hu; rw [List.mem_singleton.1 hu]; rfl) (by unfold maxLen; omega) (by omega) ?_)
    intro v4 w4 H4 _
    obtain ⟨VA4,vc4,rfl,_,_⟩:=Row.form H4 0 rfl
    have c4:=H4.cell 1 rfl 0
    have z4:=H4.frozen 1 rfl 0
    simp only [List.getElem?_cons_zero] at c4
    have HX:=Lib.hid (H4.swap.set 0 (.slice VA4 (k+1) vc4))
    clear HH3 HR3 c0 z0 H4
    go_wp2_with fail
    go_roundw
    case rel =>
     refine ⟨k+1,.slice VA4 (k+1) vc4,by go_num,by omega,?_⟩
     have h:=HX.out.swap
     rw [HV.out,cellsN_app]
     exact h
    case measure=>first | (simp [intOf]; omega) | simp [intOf]
   ·have k2:¬ (k:Int)≥280:=by omega
    by_cases h256:256≤k
    ·have k3:(k:Int)≥256:=by omega
     have HV:Hid (PI.fixedL.take (k+1)=PI.fixedL.take k++[7]):=Lib.hid (dfixedL_next hk (by rw [dfixedL_at hk]; simp only [if_neg h280,if_pos h256]))
     have H3:=H2.newBk [.int .i64 7] 3
     have HR3:=Lib.hid (Rd.of_blk (H3.blk 0 rfl))
     have HH3:=Lib.hid (H3.pick 4 [1,2,3])
     have c0:=H2.cell 1 rfl 0
     have z0:=H2.frozen 1 rfl 0
     simp only [List.getElem?_cons_zero] at c0
     clear H2 H3
     go_wp2_with (at_builtin; refine wpList_append_sp rfl _ _ 58 rfl 3 i0 (.int .i64 0) 1 8 Tryd.underlying58 hi hz0 hz1 hz2 rfl (by decide) _ k (cellsN (PI.fixedL.take k)) rfl HH3.out (some ⟨_,0,none⟩) 1 1 [.int .i64 7] rfl rfl HR3.out (by intro u hu; rw [List.mem_singleton.1 hu]; rfl) (by unfold maxLen; omega) (by omega) ?_)
     intro v4 w4 H4 _
     obtain ⟨VA4,vc4,rfl,_,_⟩:=Row.form H4 0 rfl
     have c4:=H4.cell 1 rfl 0
     have z4:=H4.frozen 1 rfl 0
     simp only [List.getElem?_cons_zero] at c4
     have HX:=Lib.hid (H4.swap.set 0 (.slice VA4 (k+1) vc4))
     clear HH3 HR3 c0 z0 H4
     go_wp2_with fail
     go_roundw
     case rel =>
      refine ⟨k+1,.slice VA4 (k+1) vc4,by go_num,by omega,?_⟩
      have h:=HX.out.swap
      rw [HV.out,cellsN_app]
      exact h
     case measure=>first | (simp [intOf]; omega) | simp [intOf]
    ·have k3:¬ (k:Int)≥256:=by omega
     by_cases h144:144≤k
     ·have k4:(k:Int)≥144:=by omega
      have HV:Hid (PI.fixedL.take (k+1)=PI.fixedL.take k++[9]):=Lib.hid (dfixedL_next hk (by rw [dfixedL_at hk]; simp only [if_neg h280,if_neg h256,if_pos h144]))
      have H3:=H2.newBk [.int .i64 9] 3
      have HR3:=Lib.hid (Rd.of_blk (H3.blk 0 rfl))
      have HH3:=Lib.hid (H3.pick 4 [1,2,3])
      have c0:=H2.cell 1 rfl 0
      have z0:=H2.frozen 1 rfl 0
      simp only [List.getElem?_cons_zero] at c0
      clear H2 H3
      go_wp2_with (at_builtin; refine wpList_append_sp rfl _ _ 58 rfl 3 i0 (.int .i64 0) 1 8 Tryd.underlying58 hi hz0 hz1 hz2 rfl (by decide) _ k (cellsN (PI.fixedL.take k)) rfl HH3.out (some ⟨_,0,none⟩) 1 1 [.int .i64 9] rfl rfl HR3.out (by intro u hu; rw [List.mem_singleton.1 hu]; rfl) (by unfold maxLen; omega) (by omega) ?_)
      intro v4 w4 H4 _
      obtain ⟨VA4,vc4,rfl,_,_⟩:=Row.form H4 0 rfl
      have c4:=H4.cell 1 rfl 0
      have z4:=H4.frozen 1 rfl 0
      simp only [List.getElem?_cons_zero] at c4
      have HX:=Lib.hid (H4.swap.set 0 (.slice VA4 (k+1) vc4))
      clear HH3 HR3 c0 z0 H4
      go_wp2_with fail
      go_roundw
      case rel =>
       refine ⟨k+1,.slice VA4 (k+1) vc4,by go_num,by omega,?_⟩
       have h:=HX.out.swap
       rw [HV.out,cellsN_app]
       exact h
      case measure=>first | (simp [intOf]; omega) | simp [intOf]
     ·have k4:¬ (k:Int)≥144:=by omega
      have HV:Hid (PI.fixedL.take (k+1)=PI.fixedL.take k++[8]):=Lib.hid (dfixedL_next hk (by rw [dfixedL_at hk]; simp only [if_neg h280,if_neg h256,if_neg h144]))
      have H3:=H2.newBk [.int .i64 8] 3
      have HR3:=Lib.hid (Rd.of_blk (H3.blk 0 rfl))
      have HH3:=Lib.hid (H3.pick 4 [1,2,3])
      have c0:=H2.cell 1 rfl 0
      have z0:=H2.frozen 1 rfl 0
      simp only [List.getElem?_cons_zero] at c0
      clear H2 H3
      go_wp2_with (at_builtin; refine wpList_append_sp rfl _ _ 58 rfl 3 i0 (.int .i64 0) 1 8 Tryd.underlying58 hi hz0 hz1 hz2 rfl (by decide) _ k (cellsN (PI.fixedL.take k)) rfl HH3.out (some ⟨_,0,none⟩) 1 1 [.int .i64 8] rfl rfl HR3.out (by intro u hu; rw [List.mem_singleton.1 hu]; rfl) (by unfold maxLen; omega) (by omega) ?_)
      intro v4 w4 H4 _
      obtain ⟨VA4,vc4,rfl,_,_⟩:=Row.form H4 0 rfl
      have c4:=H4.cell 1 rfl 0
      have z4:=H4.frozen 1 rfl 0
      simp only [List.getElem?_cons_zero] at c4
      have HX:=Lib.hid (H4.swap.set 0 (.slice VA4 (k+1) vc4))
      clear HH3 HR3 c0 z0 H4
      go_wp2_with fail
      go_roundw
      case rel =>
       refine ⟨k+1,.slice VA4 (k+1) vc4,by go_num,by omega,?_⟩
       have h:=HX.out.swap
       rw [HV.out,cellsN_app]
       exact h
      case measure=>first | (simp [intOf]; omega) | simp [intOf]
  ·have k1:¬ (k:Int)<288:=by omega
   obtain rfl:k=288:=by omega
   rw [List.take_of_length_le (by rw [dfixedL_len]; exact Nat.le_refl _)] at H2
   have HX:=Lib.hid (H2.rowNil 3 1)
   clear H2
   go_wp2_with fail
   clear hk hlt k1
   go_loopw [23] (fun jv wr=>∃ (j:Nat) (u:Value),jv=.int .i64 (j:Int)∧j≤32∧Sp w0 (Row 3 1 u j (cellsN (List.replicate j 5))::Row 3 1 (.slice VA 288 vc) 288 (cellsN PI.fixedL)::Bk g 163 [.slice VA 288 vc,u]::Bk g0 163 [.slice none 0 0,.slice none 0 0]::L) wr) (fun jv _=>32 - (intOf jv).toNat)
   case atStart=>exact ⟨0,_,rfl,Nat.zero_le _,HX.out⟩
   case round =>
    obtain ⟨j,u,rfl,hj,H2⟩:=hrel
    clear HX
    obtain ⟨VB,vb,rfl,_,_⟩:=Row.form H2 0 rfl
    by_cases hlt:j<32
    ·have k1:(j:Int)<32:=by omega
     have H3:=H2.newBk [.int .i64 5] 3
     have HR3:=Lib.hid (Rd.of_blk (H3.blk 0 rfl))
     have HH3:=Lib.hid (H3.pick 5 [1,2,3,4])
     have c0:=H2.cell 2 rfl 1
     have z0:=H2.frozen 2 rfl 1
     simp only [List.getElem?_cons_zero,List.getElem?_cons_succ] at c0
     clear H2 H3
     go_wp2_with (at_builtin; refine wpList_append_sp rfl _ _ 58 rfl 3 i0 (.int .i64 0) 1 8 Tryd.underlying58 hi hz0 hz1 hz2 rfl (by decide) _ j (cellsN (List.replicate j 5)) rfl HH3.out (some ⟨_,0,none⟩) 1 1 [.int .i64 5] rfl rfl HR3.out (by intro u hu; rw [List.mem_singleton.1 hu]; rfl) (by unfold maxLen; omega) (by omega) ?_)
     intro v4 w4 H4 _
     obtain ⟨VB4,vb4,rfl,_,_⟩:=Row.form H4 0 rfl
     have c4:=H4.cell 2 rfl 1
     have z4:=H4.frozen 2 rfl 1
     simp only [List.getElem?_cons_zero,List.getElem?_cons_succ] at c4
     have HX:=Lib.hid ((H4.pick 3 [2,0,1]).set 1 (.slice VB4 (j+1) vb4))
     clear HH3 HR3 c0 z0 H4
     go_wp2_with fail
     go_roundw
     case rel =>
      refine ⟨j+1,.slice VB4 (j+1) vb4,by go_num,by omega,?_⟩
      have h:=HX.out.pick 3 [1,2,0]
      rw [List.replicate_succ',cellsN_app]
      exact h
     case measure=>first | (simp [intOf]; omega) | simp [intOf]
    ·have k1:¬ (j:Int)<32:=by omega
     obtain rfl:j=32:=by omega
     have c0:=H2.cell 2 rfl 0
     have c1:=H2.cell 2 rfl 1
     have d0:=H2.cell 3 rfl 0
     have d1:=H2.cell 3 rfl 1
     have z0:=H2.frozen 3 rfl 0
     have z1:=H2.frozen 3 rfl 1
     simp only [List.getElem?_cons_zero,List.getElem?_cons_succ] at c0 c1 d0 d1
     have HX:=Lib.hid (((H2.pick 4 [3,0,1,2]).set 0 (.slice VA 288 vc)).set 1 (.slice VB 32 vb))
     clear H2
     go_wp2_with fail
     have t0:=HX.out.cell 0 rfl 0
     have t1:=HX.out.cell 0 rfl 1
     simp only [List.set_cons_zero,List.set_cons_succ,List.getElem?_cons_zero,List.getElem?_cons_succ] at t0 t1
     exact bodyPost_ret (v:=.agg #[.slice VA 288 vc,.slice VB 32 vb]) (by simp [results,go_sem,t0,t1]) rfl ⟨_,_,rfl,HX.out.pick 4 [2,1]⟩
set_option linter.unusedVariables false
set_option linter.unusedSimpArgs false
namespace PI
theorem all_pos {B:List Bool} {most:Nat} {r:Nat × List UInt8 × List Blk} (h:all B most=.ok r):r.1≤B.length∧r.2.1.length≤most :=
 let ⟨_,h2,_,h4⟩:=Fine.all.pos B most (Nat.zero_le _) (Nat.zero_le _) r h
 ⟨h2,h4⟩
end PI
set_option linter.unusedVariables false
set_option linter.unusedSimpArgs false
namespace PI
abbrev Sg:=Nat × Nat × Nat
def farNx (f:Bool) (s:Nat):Bool:=!f && decide (256<s)
def farAt (l:List Sg):Nat→Bool
 | 0=>false
 | k+1=>farNx (farAt l k) (l.getD k (0,0,0)).1
theorem getD_cons_drop {α:Type} {l:List α} {k:Nat} (z:α) (h:k<l.length):l.drop k=l.getD k z::l.drop (k+1):=by
 rw [List.drop_eq_getElem_cons h,List.getD_eq_getElem?_getD,List.getElem?_eq_getElem h]; rfl
def SgOk (l:List Sg):Prop:=∀ k,k<l.length→((farAt l k=false→(l.getD k (0,0,0)).1<286)∧(farAt l k=true→(l.getD k (0,0,0)).1<30))∧(l.getD k (0,0,0)).2.2≤13∧(l.getD k (0,0,0)).2.1<32768
end PI
set_option linter.unusedVariables false
set_option linter.unusedSimpArgs false
namespace PI
theorem runL_eq (x:Nat):∀ (l:List Nat) (m:Nat),m≤l.length→(∀ j,j<m→l.getD j 0=x)→(m<l.length→l.getD m 0≠x)→runL x l=m:=by
 intro l
 induction l with
 | nil=>intro m h _ _; simp at h; rw [h]; rfl
 | cons y l ih =>
  intro m h1 h2 h3
  cases m with
  | zero =>
   have:=h3 (by simp)
   unfold runL
   rw [if_neg (by simpa using this)]
  | succ m =>
   have h0:=h2 0 (by omega)
   unfold runL
   rw [if_pos (by simpa using h0),ih m (by simpa using h1) (fun j hj=>by simpa using h2 (j+1) (by omega)) (fun hj=>by simpa using h3 (by simpa using hj))]
theorem runL_at {l:List Nat} {i k:Nat} (hi:i<l.length) (hik:i<k) (hk:k≤l.length) (h:∀ j,i≤j→j<k→l.getD j 0=l.getD i 0) (hs:k<l.length→l.getD k 0≠l.getD i 0):runL (l.getD i 0) (l.drop (i+1))+1=k - i:=by
 have e:runL (l.getD i 0) (l.drop i)=k - i:=by
  refine runL_eq _ _ _ (by rw [List.length_drop]; omega) (fun j hj=>?_) (fun hj=>?_)
  ·rw [List.getD_eq_getElem?_getD,List.getElem?_drop,← List.getD_eq_getElem?_getD]
   exact h (i+j) (by omega) (by omega)
  ·rw [List.getD_eq_getElem?_getD,List.getElem?_drop,← List.getD_eq_getElem?_getD,show i+(k - i)=k by omega]
   exact hs (by rw [List.length_drop] at hj; omega)
 rw [← e,getD_cons_drop 0 hi,runL,if_pos rfl]
end PI
set_option linter.unusedVariables false
set_option linter.unusedSimpArgs false
open Go.RowKit
theorem cellsW_get:∀ (l:List PD.Wd) (i:Nat),i<l.length→∀ j v,(wdC (l.getD i (0,0,0,0)))[j]?=some v→(cellsW l)[i * 4+j]?=some v
 | [],i,h=>by simp at h
 | t::l,0,_=>fun j v hj=>by
  have hj4:j<(wdC t).length:=(List.getElem?_eq_some_iff.1 hj).1
  show (wdC t++cellsW l)[0 * 4+j]?=some v
  rw [List.getElem?_append_left (by omega),Nat.zero_mul,Nat.zero_add]; exact hj
 | t::l,i+1,h=>fun j v hj=>by
  show (wdC t++cellsW l)[(i+1) * 4+j]?=some v
  rw [List.getElem?_append_right (by show 4≤_; omega),show (i+1) * 4+j - (wdC t).length=i * 4+j by show _ - 4=_; omega]
  exact cellsW_get l i (by simpa using h) j v hj
theorem rdW {w:World} {A:Option Addr} {l:List PD.Wd} (h:Rd w A (cellsW l)) {i:Nat} (hi:i<l.length):∃ ad,A=some ad∧w.cell? (ad.add (i * 4))=some (.int .i64 ((l.getD i (0,0,0,0)).1:Int))∧w.cell? ⟨(ad.add (i * 4)).block,(ad.add (i * 4)).off+1,none⟩=some (.int .i64 ((l.getD i (0,0,0,0)).2.1:Int))∧w.cell? ⟨(ad.add (i * 4)).block,(ad.add (i * 4)).off+2,none⟩=some (.int .i64 ((l.getD i (0,0,0,0)).2.2.1:Int))∧w.cell? ⟨(ad.add (i * 4)).block,(ad.add (i * 4)).off+3,none⟩=some (.int .i64 ((l.getD i (0,0,0,0)).2.2.2:Int)):=by
 obtain ⟨ad,e,hc⟩:=h (by intro e; have:=cellsW_len l; rw [e] at this; simp at this; omega)
 have hg:=fun j v hj=>hc _ _ (cellsW_get l i hi j v hj)
 refine ⟨ad,e,hg 0 _ rfl,?_,?_,?_⟩
 ·rw [field_addr ad (i * 4) 1 (by omega)]; exact hg 1 _ rfl
 ·rw [field_addr ad (i * 4) 2 (by omega)]; exact hg 2 _ rfl
 ·rw [field_addr ad (i * 4) 3 (by omega)]; exact hg 3 _ rfl
theorem cntR_cnts (m:Nat) (l:List Nat):cntR m l=cellsN (PI.cnts m l):=by unfold cntR cellsN PI.cnts; rw [List.map_map]; rfl
theorem signs_take {l:List PD.Wd} {i b:Nat} (h:i<l.length):PD.signsOf b (l.take (i+1))=PD.signsOf b (l.take i)++(if (l.getD i (0,0,0,0)).1=b then [(l.getD i (0,0,0,0)).2.1] else []):=by
 rw [List.take_succ_eq_append_getElem h,PD.signsOf_app]
 congr 1
 have e:l.getD i (0,0,0,0)=l[i]:=by rw [List.getD_eq_getElem?_getD,List.getElem?_eq_getElem h]; rfl
 rw [e]
 unfold PD.signsOf
 by_cases hb:l[i].1=b
 ·rw [if_pos hb,List.filter_cons,if_pos (by simpa using hb)]; rfl
 ·rw [if_neg hb,List.filter_cons,if_neg (by simpa using hb)]; rfl
set_option maxRecDepth 100000 in
set_option maxHeartbeats 2000000 in
theorem dcounts_ok (A:Option Addr) (n c:Nat) (l:List PD.Wd) (bk m:Nat) {w0 w:World} {L:List Pr} (H:Sp w0 L w) (hrd:Ent L fun w=>Rd w A (cellsW l)) (hn:n=l.length) (hnm:n≤1000000) (hm:m≤1000) (hs:∀ t ∈ l,t.1=bk→t.2.1<m) :
  Calls Tryd.prog 77 #[.slice A n c,.int .i64 (bk:Int),.int .i64 (m:Int)] w fun e w'=>∃ v,e=.returned v∧Sp w0 (Row 3 1 v m (cellsN (PI.cnts m (PD.signsOf bk l)))::L) w':=by
 obtain ⟨i0,hi,hz0,hz1,hz2⟩:=info_parts infoInt
 rw [← cntR_cnts]
 have HRD:=Lib.hid hrd
 have HN:=Lib.hid hn
 have HS:=Lib.hid hs
 clear hrd hn hs
 go_enter Tryd.func77,Tryd.ntmps77
 go_wp2_with (at_make; refine wpList_make_sp rfl _ _ _ rfl 3 i0 (.int .i64 0) Tryd.underlying58 hi hz0 hz1 rfl m rfl rfl (by rw [hz2]; omega) (by unfold maxLen; omega) H ?_)
 intro av w1 H1
 have e0:List.replicate m (Value.int .i64 0)=cntR m (PD.signsOf bk (l.take 0)):=by
  unfold cntR
  rw [List.take_zero]
  apply List.ext_getElem
  ·simp
  ·intro i h1 h2
   simp [PD.signsOf]
 rw [e0] at H1
 have HX:=Lib.hid H1
 clear H H1 e0
 go_wp2_with fail
 go_loopw [14] (fun iv wr=>∃ i:Nat,iv=.int .i64 (i:Int)∧i≤n∧Sp w0 (Row 3 1 (.slice (some av) m m) m (cntR m (PD.signsOf bk (l.take i)))::L) wr) (fun iv _=>n - (intOf iv).toNat)
 case atStart=>exact ⟨0,rfl,Nat.zero_le _,HX.out⟩
 case round =>
  obtain ⟨i,rfl,hin,H1⟩:=hrel
  clear HX
  by_cases hlt:i<n
  ·have k1:(i:Int)<(n:Int):=by omega
   have hil:i<l.length:=by rw [← HN.out]; exact hlt
   obtain ⟨ad,rfl,p0,p1,p2,p3⟩:=rdW (HRD.out _ _ H1.tail) hil
   have hsg:=signs_take (b:=bk) hil
   have hmem:l.getD i (0,0,0,0) ∈ l:=by rw [List.getD_eq_getElem?_getD,List.getElem?_eq_getElem hil]; exact List.getElem_mem hil
   have hsm:=HS.out _ hmem
   obtain ⟨⟨b,s,q,r⟩,ht⟩:∃ t,l.getD i (0,0,0,0)=t:=⟨_,rfl⟩
   rw [ht] at p0 p1 p2 p3 hsg hsm
   simp only at p0 p1 p2 p3 hsg hsm
   have H2:=H1.newBk [.int .i64 (b:Int),.int .i64 (s:Int),.int .i64 (q:Int),.int .i64 (r:Int)] 194
   have t0:=H2.cell 0 rfl 0
   have t1:=H2.cell 0 rfl 1
   simp only [List.getElem?_cons_zero,List.getElem?_cons_succ] at t0 t1
   obtain ⟨R,hR⟩:∃ R,PD.signsOf bk (l.take i)=R:=⟨_,rfl⟩
   rw [hR] at hsg H1 H2
   have hRl:R.length≤i:=by
    rw [← hR]; unfold PD.signsOf
    rw [List.length_map]
    exact Nat.le_trans (List.length_filter_le _ _) (by rw [List.length_take]; omega)
   have HSG:=Lib.hid hsg
   clear ht hmem hsg hR
   by_cases hb:b=bk
   ·subst hb
    have hsm2:=hsm rfl
    have k2:(s:Int)<(m:Int):=by omega
    obtain ⟨ad2,c2,ev,_,hcc,hfz,hset⟩:=H2.swap.rowSet hsm2
    injection ev with e1 e2 e3
    injection e1 with e1
    subst e1
    rw [cntR_get _ _ _ hsm2] at hcc
    obtain ⟨q0,hq0⟩:∃ q,R.count s=q:=⟨_,rfl⟩
    rw [hq0] at hcc
    have hq0l:q0≤1000000:=by
     have:=List.count_le_length (a:=s) (l:=R)
     omega
    have hs9:=hset (.int .i64 ((q0:Int)+1))
    rw [cntR_set m s R ((q0:Int)+1) (by rw [hq0])] at hs9
    have HSET:=Lib.hid hs9
    rw [if_pos rfl] at HSG
    clear hset hs9 H1 H2 hsm hq0 e2 e3
    go_wp2_with fail
    go_roundw
    case rel =>
     refine ⟨i+1,by go_num,by omega,?_⟩
     rw [HSG.out]
     exact HSET.out.pick 2 [0]
    case measure=>first | (simp [intOf]; omega) | simp [intOf]
   ·have k2:((b:Int) == (bk:Int))=false:=by rw [beq_eq_false_iff_ne]; omega
    have k3:¬ (b:Int)=(bk:Int):=by omega
    rw [if_neg hb,List.append_nil] at HSG
    have HX:=Lib.hid H2.tail
    clear H1 H2 hsm
    go_wp2_with fail
    go_roundw
    case rel =>
     refine ⟨i+1,by go_num,by omega,?_⟩
     rw [HSG.out]
     exact HX.out
    case measure=>first | (simp [intOf]; omega) | simp [intOf]
  ·have k1:¬ (i:Int)<(n:Int):=by omega
   rw [List.take_of_length_le (by rw [← HN.out]; omega)] at H1
   have HX:=Lib.hid H1
   clear H1
   go_wp2_with fail
   go_ret
   exact ⟨_,rfl,HX.out⟩
set_option maxRecDepth 100000 in
set_option maxHeartbeats 1000000 in
theorem dused_ok (A:Option Addr) (n c:Nat) (l:List Nat) (least:Nat) {w0 w:World} {L:List Pr} (H:Sp w0 L w) (hrd:Ent L fun w=>Rd w A (cellsN l)) (hn:n=l.length) (hnm:n≤1000000) (hls:least≤1000000) :
  Calls Tryd.prog 78 #[.slice A n c,.int .i64 (least:Int)] w fun e w'=>e=.returned (.int .i64 (PD.used l least n:Int))∧Sp w0 L w':=by
 obtain ⟨T,hT⟩:∃ T,PD.used l least n=T:=⟨_,rfl⟩
 rw [hT]
 have HT:=Lib.hid hT
 have HRD:=Lib.hid hrd
 have HN:=Lib.hid hn
 clear hrd hn hT
 go_enter Tryd.func78,Tryd.ntmps78
 go_wp2_with fail
 go_loopw [5] (fun kv wr=>∃ k:Nat,kv=.int .i64 (k:Int)∧k≤n∧PD.used l least k=T∧Sp w0 L wr) (fun kv _=>(intOf kv).toNat)
 case atStart=>exact ⟨n,rfl,Nat.le_refl _,HT.out,H⟩
 case round =>
  obtain ⟨k,rfl,hk,hu,H1⟩:=hrel
  clear HT H
  by_cases hlk:least<k
  ·obtain ⟨j,rfl⟩:∃ j,k=j+1:=⟨k - 1,by omega⟩
   have k1:((j+1:Nat):Int) > (least:Int):=by omega
   have k2:(j:Int)+1 > (least:Int):=by omega
   have hjl:j<l.length:=by rw [← HN.out]; omega
   have k3:(j:Int)<(n:Int):=by omega
   obtain ⟨ad,rfl,hc⟩:=(HRD.out _ _ H1).at_ (k:=j) (by simpa [cellsN] using hjl)
   obtain ⟨x,hx⟩:∃ x,l.getD j 0=x:=⟨_,rfl⟩
   have hc2:wr.cell? (ad.add j)=some (.int .i64 (x:Int)):=by
    rw [hc,← hx,List.getD_eq_getElem?_getD,List.getElem?_eq_getElem hjl]; simp [cellsN]
   rw [PD.used,hx] at hu
   have HU:=Lib.hid hu
   clear hc hx hu
   by_cases h0:x=0
   ·subst h0
    replace hc2:wr.cell? (ad.add j)=some (.int .i64 0):=hc2
    rw [if_pos ⟨hlk,rfl⟩] at HU
    go_wp2_with fail
    go_roundw
    case rel=>exact ⟨j,by go_num,by omega,HU.out,H1⟩
    case measure=>first | (simp [intOf]; omega) | simp [intOf]
   ·have k4:((x:Int) == 0)=false:=by rw [beq_eq_false_iff_ne]; omega
    have k5:¬ (x:Int)=0:=by omega
    rw [if_neg (fun h=>h0 h.2)] at HU
    go_wp2_with fail
    go_ret
    exact ⟨by rw [← HU.out]; rfl,H1⟩
  ·have k1:¬ (k:Int) > (least:Int):=by omega
   have HU:Hid (k=T):=by
    rw [← hu]
    cases k with
    | zero=>exact Lib.hid rfl
    | succ j=>rw [PD.used,if_neg (fun h=>hlk h.1)]; exact Lib.hid rfl
   clear hu
   go_wp2_with fail
   go_ret
   exact ⟨by rw [← HU.out]; rfl,H1⟩
end Go.Proofs.YtloijdbkikccgaaDoor

