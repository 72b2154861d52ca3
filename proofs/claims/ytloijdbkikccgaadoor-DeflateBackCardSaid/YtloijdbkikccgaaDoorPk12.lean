/- A pack of texts: HuffF. -/
import Derived.Test.YtloijdbkikccgaaDoorPk11
namespace Go.Proofs.YtloijdbkikccgaaDoor
open Go.RowKit
theorem infoJ:(Tryd.prog.info? 3).map (fun i=>(i.zero,i.size,i.bytes))=some (some (.int .i64 0),1,8):=by kernel_rfl
def BkB (g:Nat) (m:List Nat) (v:Value) (most:Int):Pr:=Bk g 255 (cntV (PH.tal m)++[v,.int .i64 most])
theorem BkB.get {w0 w:World} {L:List Pr} {g:Nat} {m:List Nat} {v:Value} {most:Int} (H:Sp w0 L w) (k:Nat) (hk:L[k]?=some (BkB g m v most)) :
  w.cell? ⟨g,16,none⟩=some v∧w.cell? ⟨g,17,none⟩=some (.int .i64 most)∧w.frozen? ⟨g,16,none⟩=false∧w.frozen? ⟨g,17,none⟩=false∧∀ i,i<16→w.cell? ⟨g,i,none⟩=some (.int .i64 (PH.tal m i:Int)):=by
 refine ⟨H.cell k hk 16,H.cell k hk 17,H.frozen k hk 16,H.frozen k hk 17,fun i hi=>?_⟩
 rw [H.cell k hk i,List.getElem?_append_left (by simp [cntV]; exact hi),cntV_get _ _ hi]
theorem BkB.set16 {w0 w:World} {L:List Pr} {g:Nat} {m:List Nat} {v:Value} {most:Int} (H:Sp w0 (BkB g m v most::L) w) (u:Value):Sp w0 (BkB g m u most::L) (w.setCell ⟨g,16,none⟩ u):=H.set 16 u
theorem BkB.set17 {w0 w:World} {L:List Pr} {g:Nat} {m:List Nat} {v:Value} {most:Int} (H:Sp w0 (BkB g m v most::L) w) (u:Int):Sp w0 (BkB g m v u::L) (w.setCell ⟨g,17,none⟩ (.int .i64 u)):=H.set 17 (.int .i64 u)
theorem cellsN_append (a b:List Nat):cellsN (a++b)=cellsN a++cellsN b:=List.map_append
def mayBook (m:List Nat):Bool:=decide (PH.state m=0) || (decide ((PH.rows m).length=0) || (decide ((PH.rows m).length=1) && decide (PH.tal m 1=1)))
def mostOf (m:List Nat):Int:=if PH.state m=0 then 15 else 1
set_option maxRecDepth 100000 in
set_option maxHeartbeats 4000000 in
theorem new_ok (A:Option Addr) (n c:Nat) (m:List Nat) {w0 w:World} {L:List Pr} (H:Sp w0 L w) (hn:n=m.length) (hb:Ent L fun w=>Rd w A (cells64 (castI m))) (hl:n≤1024) (h15:∀ x ∈ m,x≤15) :
  Calls Tryd.prog 157 #[.slice A n c] w fun e w'=>if mayBook m=true then ∃ g v,e=.returned (.tuple #[.pointer (some ⟨g,0,none⟩),.int .i64 0])∧Sp w0 (Row 3 1 v (PH.rows m).length (cellsN (PH.rows m))::BkB g m v (mostOf m)::L) w'
   else e=.returned (.tuple #[.pointer none,.int .i64 20])∧Sp w0 L w':=by
 obtain ⟨i0,hi0,hz0,hz1,hz2⟩:=info_parts infoJ
 have hst:=state_ok A n c m H hn hb hl h15
 have HN:=Lib.hid hn
 have HB:=Lib.hid hb
 have H15:=Lib.hid h15
 obtain ⟨st,hst2⟩:∃ st,PH.state m=st:=⟨_,rfl⟩
 obtain ⟨ok,hok⟩:∃ ok,mayBook m=ok:=⟨_,rfl⟩
 obtain ⟨mo,hmo⟩:∃ mo,mostOf m=mo:=⟨_,rfl⟩
 rw [hst2] at hst
 rw [hok,hmo]
 have HST:=Lib.hid hst2
 have HOK:=Lib.hid hok
 have HMO:=Lib.hid hmo
 clear hn hb h15 hst2 hok hmo
 have htv:tallyV m=.agg #[.int .i64 (PH.tal m 0:Int),.int .i64 (PH.tal m 1:Int),.int .i64 (PH.tal m 2:Int),.int .i64 (PH.tal m 3:Int),.int .i64 (PH.tal m 4:Int),.int .i64 (PH.tal m 5:Int),.int .i64 (PH.tal m 6:Int),.int .i64 (PH.tal m 7:Int),.int .i64 (PH.tal m 8:Int),.int .i64 (PH.tal m 9:Int),.int .i64 (PH.tal m 10:Int),.int .i64 (PH.tal m 11:Int),.int .i64 (PH.tal m 12:Int),.int .i64 (PH.tal m 13:Int),.int .i64 (PH.tal m 14:Int),.int .i64 (PH.tal m 15:Int)]:=rfl
 have hbl:Bk 0 255 [.int .i64 (PH.tal m 0:Int),.int .i64 (PH.tal m 1:Int),.int .i64 (PH.tal m 2:Int),.int .i64 (PH.tal m 3:Int),.int .i64 (PH.tal m 4:Int),.int .i64 (PH.tal m 5:Int),.int .i64 (PH.tal m 6:Int),.int .i64 (PH.tal m 7:Int),.int .i64 (PH.tal m 8:Int),.int .i64 (PH.tal m 9:Int),.int .i64 (PH.tal m 10:Int),.int .i64 (PH.tal m 11:Int),.int .i64 (PH.tal m 12:Int),.int .i64 (PH.tal m 13:Int),.int .i64 (PH.tal m 14:Int),.int .i64 (PH.tal m 15:Int),.slice none 0 0,.int .i64 0]=BkB 0 m (.slice none 0 0) 0:=rfl
 clear hbl
 go_enter Tryd.func157,Tryd.ntmps157
 go_wp2_with fail
 refine hst.mono ?_
 rintro _ w1 ⟨rfl,H1⟩
 clear hst
 go_wp2_with fail
 refine (tally_ok A n c m H1 HN.out HB.out (by omega) H15.out).mono ?_
 rintro _ w2 ⟨rfl,H2⟩
 rw [htv]
 clear htv
 have H3:=H2.newBk [.int .i64 (PH.tal m 0:Int),.int .i64 (PH.tal m 1:Int),.int .i64 (PH.tal m 2:Int),.int .i64 (PH.tal m 3:Int),.int .i64 (PH.tal m 4:Int),.int .i64 (PH.tal m 5:Int),.int .i64 (PH.tal m 6:Int),.int .i64 (PH.tal m 7:Int),.int .i64 (PH.tal m 8:Int),.int .i64 (PH.tal m 9:Int),.int .i64 (PH.tal m 10:Int),.int .i64 (PH.tal m 11:Int),.int .i64 (PH.tal m 12:Int),.int .i64 (PH.tal m 13:Int),.int .i64 (PH.tal m 14:Int),.int .i64 (PH.tal m 15:Int),.slice none 0 0,.int .i64 0] 255
 go_wp2_with fail
 generalize w2.heap.size=g at H3 ⊢
 generalize w2.alloc _=w3 at H3 ⊢
 replace H3:Sp w0 (BkB g m (.slice none 0 0) 0::L) w3:=H3
 obtain ⟨rl,hrl⟩:∃ rl,(PH.rows m).length=rl:=⟨_,rfl⟩
 obtain ⟨t1,ht1⟩:∃ t1,PH.tal m 1=t1:=⟨_,rfl⟩
 have hok:ok=(decide (st=0) || (decide (rl=0) || (decide (rl=1) && decide (t1=1)))):=by rw [← HOK.out,← hrl,← ht1,← HST.out]; rfl
 have hmo:mo=if st=0 then 15 else 1:=by rw [← HMO.out,← HST.out]; rfl
 have HOK2:=Lib.hid hok
 have HMO2:=Lib.hid hmo
 have HRL:=Lib.hid hrl
 have HT1:=Lib.hid ht1
 clear hok hmo hrl ht1 HOK HMO HST H1 H2 H
 go_loopw [7] (fun iv wr=>∃ (i:Nat) (v:Value),iv=.int .i64 ((i+1:Nat):Int)∧i≤15∧Sp w0 (Row 3 1 v (PH.rowsB m i).length (cellsN (PH.rowsB m i))::BkB g m v 0::L) wr) (fun iv _=>16 - (intOf iv).toNat)
 case atStart=>exact ⟨0,.slice none 0 0,rfl,by omega,H3.rowNil _ _⟩
 case round =>
  obtain ⟨i,v,rfl,hi,H4⟩:=hrel
  have ei:((i+1:Nat):Int)=(i:Int)+1:=by omega
  rw [ei]
  obtain ⟨R0,hR0⟩:∃ R,PH.rowsB m i=R:=⟨_,rfl⟩
  have hR0l:R0.length≤15 * n:=by
   rw [← hR0,HN.out]
   exact Nat.le_trans (PH.rowsB_len m i) (Nat.mul_le_mul_right _ hi)
  rw [hR0] at H4
  by_cases hi15:i<15
  ·have k1:(i:Int)+1≤15:=by omega
   have hnext:PH.rowsB m (i+1)=R0++PH.idx m (i+1) n:=by rw [PH.rowsB,hR0,HN.out]
   have HNX:=Lib.hid hnext
   clear hnext hR0
   go_wp2_with fail
   go_loopw [28] (fun kv wr=>∃ (k:Nat) (v:Value) (R:List Nat),kv=.int .i64 (k:Int)∧k≤n∧R0++PH.idx m (i+1) k=R∧Sp w0 (Row 3 1 v R.length (cellsN R)::BkB g m v 0::L) wr) (fun kv _=>n - (intOf kv).toNat)
   case atStart=>exact ⟨0,v,R0,rfl,Nat.zero_le _,by rw [PH.idx_zero,List.append_nil],H4⟩
   case round =>
    obtain ⟨k,v,R,rfl,hk,hR,H5⟩:=hrel
    have hRl:R.length≤16 * n:=by
     rw [← hR,List.length_append]
     have:=PH.idx_len m (i+1) k
     omega
    by_cases hkn:k<n
    ·have k2:(k:Int)<(n:Int):=by omega
     have hkm:k<m.length:=by rw [← HN.out]; exact hkn
     obtain ⟨al,rfl,hc⟩:=(HB.out _ _ (H5.pick 2 [])).at64 (k:=k) (by simpa [castI] using hkm)
     obtain ⟨x,hx⟩:∃ x,m[k]=x:=⟨_,rfl⟩
     replace hc:wr.cell? (al.add k)=some (.int .i64 (x:Int)):=by
      rw [hc]
      simp [castI,hx]
     have hgd:m.getD k 0=x:=by rw [List.getD_eq_getElem?_getD,List.getElem?_eq_getElem hkm,hx]; rfl
     have hsucc:=PH.idx_succ m (i+1) k
     rw [hgd] at hsucc
     have HSU:=Lib.hid hsucc
     have HR:=Lib.hid hR
     clear hgd hsucc hR hx
     by_cases hxi:x=i+1
     ·have k3:((x:Int) == (i:Int)+1)=true:=by rw [beq_iff_eq]; omega
      obtain ⟨VR,cR,rfl,_,_⟩:=Row.form H5 0 rfl
      obtain ⟨c16,_,_,_,_⟩:=BkB.get H5 1 rfl
      have hr9:=Rd.of_blk (Blk.new wr 3 [.int .i64 (k:Int)])
      have h9:=(H5.newBk [.int .i64 (k:Int)] 3).swap
      have HR9:=Lib.hid hr9
      have HH9:=Lib.hid h9
      clear hr9 h9 H5
      go_wp2_with (at_builtin; refine wpList_append_sp rfl _ _ 58 rfl 3 i0 (.int .i64 0) 1 8 Tryd.underlying58 hi0 hz0 hz1 hz2 rfl (by decide) (.slice VR R.length cR) R.length (cellsN R) rfl HH9.out (some ⟨wr.heap.size,0,none⟩) 1 1 [.int .i64 (k:Int)] rfl rfl HR9.out (by intro u hu; rw [List.mem_singleton.1 hu]; rfl) (by simp only [maxLen]; omega) (by omega) ?_)
      intro v6 w6 H6 _
      clear HR9 HH9 c16
      obtain ⟨V6,c6,rfl,_,_⟩:=Row.form H6 0 rfl
      obtain ⟨d16,_,z16,_,_⟩:=BkB.get H6 2 rfl
      have H7:=(BkB.set16 (H6.pick 3 [2,0]) (.slice V6 (R.length+1) c6)).swap
      have hRn:R0++PH.idx m (i+1) (k+1)=R++[k]:=by
       rw [HSU.out,if_pos hxi,← List.append_assoc,HR.out]
      have HRN:=Lib.hid hRn
      clear hRn H6
      go_wp2_with fail
      go_roundw
      case rel =>
       refine ⟨k+1,.slice V6 (R.length+1) c6,R++[k],by go_num,by omega,HRN.out,?_⟩
       rw [List.length_append,cellsN_append]
       exact H7
      case measure=>first | (simp [intOf]; omega) | simp [intOf]
     ·have k3:((x:Int) == (i:Int)+1)=false:=by rw [beq_eq_false_iff_ne]; omega
      have hRn:R0++PH.idx m (i+1) (k+1)=R:=by
       rw [HSU.out,if_neg hxi,HR.out]
      have HRN:=Lib.hid hRn
      clear hRn
      go_wp2_with fail
      go_roundw
      case rel=>exact ⟨k+1,v,R,by go_num,by omega,HRN.out,H5⟩
      case measure=>first | (simp [intOf]; omega) | simp [intOf]
    ·have k2:¬ (k:Int)<(n:Int):=by omega
     obtain rfl:k=n:=by omega
     rw [← HNX.out] at hR
     have HR:=Lib.hid hR
     clear hR
     go_wp2_with fail
     go_roundw
     case rel =>
      refine ⟨i+1,v,by first | go_num | exact congrArg (Value.int .i64) (by omega),by omega,?_⟩
      rw [HR.out]
      exact H5
     case measure=>first | (simp [intOf]; omega) | simp [intOf]
  ·have k1:¬ (i:Int)+1≤15:=by omega
   obtain rfl:i=15:=by omega
   have hrr:PH.rows m=R0:=hR0
   rw [hrr] at HRL
   have hlen:=HRL.out
   rw [hlen] at H4
   obtain ⟨VR,cR,rfl,_,_⟩:=Row.form H4 0 rfl
   obtain ⟨c16,c17,z16,z17,ctal⟩:=BkB.get H4 1 rfl
   have c1:=ctal 1 (by omega)
   rw [HT1.out] at c1
   have H5:=fun u=>(BkB.set17 H4.swap u).swap
   have HH5:=Lib.hid H5
   have HH4:=Lib.hid H4
   have HLEN:=Lib.hid hlen
   have HRR:=Lib.hid hrr
   clear H5 hR0 hrr hR0l hlen ctal z16 ei
   by_cases hs0:st=0
   ·have e1:ok=true:=by rw [HOK2.out,decide_eq_true hs0]; rfl
    have e2:mo=15:=by rw [HMO2.out,if_pos hs0]
    subst e1 e2 hs0
    go_wp2_with fail
    go_ret2
    exact ⟨g,rfl,_,by rw [HRR.out,HLEN.out]; exact HH5.out 15⟩
   ·have k2:(st == 0)=false:=by rw [beq_eq_false_iff_ne]; exact hs0
    have e2:mo=1:=by rw [HMO2.out,if_neg hs0]
    subst e2
    by_cases hr0:rl=0
    ·have e1:ok=true:=by rw [HOK2.out,decide_eq_true hr0]; simp
     have k3:((rl:Int) == 0)=true:=by rw [beq_iff_eq]; omega
     subst e1
     clear hs0
     go_wp2_with fail
     go_ret2
     exact ⟨g,rfl,_,by rw [HRR.out,HLEN.out]; exact HH5.out 1⟩
    ·have k3:((rl:Int) == 0)=false:=by rw [beq_eq_false_iff_ne]; omega
     by_cases hr1:rl=1
     ·have k4:((rl:Int) == 1)=true:=by rw [beq_iff_eq]; omega
      by_cases ht:t1=1
      ·have e1:ok=true:=by rw [HOK2.out,decide_eq_true hr1,decide_eq_true ht]; simp
       have k5:((t1:Int) == 1)=true:=by rw [beq_iff_eq]; omega
       subst e1
       clear hs0 hr0
       go_wp2_with fail
       go_ret2
       exact ⟨g,rfl,_,by rw [HRR.out,HLEN.out]; exact HH5.out 1⟩
      ·have e1:ok=false:=by rw [HOK2.out,decide_eq_false hs0,decide_eq_false hr0,decide_eq_false ht]; simp
       have k5:((t1:Int) == 1)=false:=by rw [beq_eq_false_iff_ne]; omega
       subst e1
       clear hs0 hr0
       go_wp2_with fail
       go_ret2
       exact ⟨rfl,HH4.out.pick 2 []⟩
     ·have k4:((rl:Int) == 1)=false:=by rw [beq_eq_false_iff_ne]; omega
      have e1:ok=false:=by rw [HOK2.out,decide_eq_false hs0,decide_eq_false hr0,decide_eq_false hr1]; rfl
      subst e1
      clear hs0 hr0 hr1
      go_wp2_with fail
      go_ret2
      exact ⟨rfl,HH4.out.pick 2 []⟩
end Go.Proofs.YtloijdbkikccgaaDoor

