/- A pack of texts: InfJ. -/
import Derived.Test.YtloijdbkikccgaaGreatDoorPk02
import Derived.Test.YtloijdbkikccgaaGreatDoorPk30
namespace Go.Proofs.YtloijdbkikccgaaGreatDoor
set_option linter.unusedVariables false
set_option linter.unusedSimpArgs false
open Go.RowKit
namespace PI
theorem getD_mem {t:List (Nat × Nat)} {s:Nat} (h:s<t.length):t.getD s (0,0) ∈ t:=by
 rw [List.getD_eq_getElem?_getD,List.getElem?_eq_getElem h]
 exact List.getElem_mem h
theorem away_one:∀p ∈ awayT,1<=p.1:=by decide
theorem count_far {B:List Bool} {s a:Nat} {r:Nat × Nat} (h:count B awayT s a=.ok r):1<=r.2/\r.2<=200000:=by
 unfold count at h
 split at h
 ·rename_i hs
  obtain⟨q,hq,h⟩:=bind_ok h
  obtain⟨rfl,_⟩:=number_ok hq
  have h1:=away_one _ (getD_mem hs)
  have h2:=awayT_le _ (getD_mem hs)
  have h3:=numAt_small B a (awayT.getD s (0,0)).2 13 h2.2
  cases h
  show 1<=_+_/\_+_<=200000
  omega
 ·cases h
theorem length_le {B:List Bool} {s a:Nat} {r:Nat × Nat} (h:length B s a=.ok r):r.2<=200000:=by
 unfold length at h
 split at h
 ·cases h; show 258<=200000; omega
 ·unfold count at h
  split at h
  ·rename_i hs
   obtain⟨q,hq,h⟩:=bind_ok h
   obtain⟨rfl,_⟩:=number_ok hq
   have h2:=lengthsT_le _ (getD_mem hs)
   have h3:=numAt_small B a (lengthsT.getD s (0,0)).2 13 h2.2
   cases h
   show _+_<=200000
   omega
  ·cases h
section
variable {B:List Bool} {most a a1 s:Nat} {m d:List Nat} {out:List UInt8}
theorem stepP_err {c:Nat} (h:sign B m a=.error c):stepP B most m d a out=.error c:=by unfold stepP; rw [h]; rfl
theorem stepP_end (h:sign B m a=.ok (a1,256)):stepP B most m d a out=.ok (true,a1,out):=by unfold stepP; rw [h]; rfl
theorem stepP_lit (h:sign B m a=.ok (a1,s)) (hs:s<256):stepP B most m d a out=if most - out.length<1 then .error 22 else .ok (false,a1,out++[UInt8.ofNat s]):=by
 unfold stepP
 rw [h,bok]
 dsimp only
 rw [if_neg (by omega),if_pos hs]
theorem stepP_cpy (h:sign B m a=.ok (a1,s)) (hs:256<s):stepP B most m d a out=(length B (s - 257) a1).bind fun n=>(sign B d n.1).bind fun t=>(count B awayT t.2 t.1).bind fun k =>
   if out.length<k.2 then .error 20 else if most - out.length<n.2 then .error 22 else .ok (false,k.1,copy k.2 n.2 out):=by
 unfold stepP
 rw [h,bok]
 dsimp only
 rw [if_neg (by omega),if_neg (by omega)]
theorem pressed_step {f:Nat} : pressed B most m d (f+1) a out=(stepP B most m d a out).bind fun r=>if r.1 then .ok r.2 else pressed B most m d f r.2.1 r.2.2:=rfl
end
end PI
def atOf (gr:Nat) (w:World):Nat:=match w.cell? ⟨gr,1,none⟩ with
 | some (.int _ n)=>n.toNat
 | _=>0
theorem atOf_rr {w0 w:World} {L:List Pr} {gr a:Nat} {l:List UInt8} (H:Sp w0 (Rr gr l a::L) w):atOf gr w=a:=by
 obtain⟨_,_,_,_,_,c1,_⟩:=rr_open H
 unfold atOf
 rw [c1]; rfl
set_option maxRecDepth 100000 in
set_option maxHeartbeats 8000000 in
theorem xpressed_ok (gx gr ga gd:Nat) (l out0:List UInt8) (most at_:Nat) (vo0 vb:Value) (m d:List Nat) (TL TA:Option Addr) (cl ca:Nat) {w0 w:World} {L:List Pr}
  (H:Sp w0 (Rr gr l at_::XpB gx gr vo0 most vb::Bok ga m::Bok gd d::Row 5 1 vo0 out0.length (cells8 out0)::L) w) (ha:at_<=8 * l.length) (hl:l.length<=100000000) (ho:out0.length<=most) (hm:most<=1000000000)
  (hs1:PH.sum m<=32768) (hs2:PH.sum d<=32768) (hm1:m.length<=1000) (hd1:d.length<=1000) (hT:Ent L (Tabs TL TA cl ca)) :
  Calls Tryz.prog 133 #[.pointer (some ⟨gx,0,none⟩),.pointer (some ⟨ga,0,none⟩),.pointer (some ⟨gd,0,none⟩)] w
   (XPost w0 L (PI.pressed (PBits.ofB l) most m d ((PBits.ofB l).length+1) at_ out0) fun r e w'=>e=.returned (.tuple #[])/\∃vo',Sp w0 (Rr gr l r.1::XpB gx gr vo' most vb::Bok ga m::Bok gd d::Row 5 1 vo' r.2.length (cells8 r.2)::L) w'):=by
 obtain⟨i0,hi,hz0,hz1,hz2⟩:=info_parts info8
 obtain⟨T,hTT⟩:∃T,PI.pressed (PBits.ofB l) most m d ((PBits.ofB l).length+1) at_ out0=T:=⟨_,rfl⟩
 rw [hTT]
 have HT0:=Lib.hid hTT
 have HL:=Lib.hid hl
 have HTB:=Lib.hid hT
 have HS1:=Lib.hid hs1
 have HS2:=Lib.hid hs2
 have HM:=Lib.hid hm
 clear hTT hT hs1 hs2
 go_enter Tryz.func133,Tryz.ntmps133
 go_wp2_with fail
 go_loopw [] (fun wr=>∃(a f:Nat) (vo:Value) (out:List UInt8),a<=8 * l.length/\8 * l.length<a+f/\out.length<=most/\PI.pressed (PBits.ofB l) most m d f a out=T/\Sp w0 (Rr gr l a::XpB gx gr vo most vb::Bok ga m::Bok gd d::Row 5 1 vo out.length (cells8 out)::L) wr) (fun wr=>8 * l.length+1 - atOf gr wr)
 case atStart=>exact⟨at_,(PBits.ofB l).length+1,vo0,out0,ha,by rw [PBits.ofB_length]; omega,ho,HT0.out,H⟩
 case round =>
  obtain⟨a,f,vo,out,haa,hf,hol,hst,H1⟩:=hrel
  clear H HT0
  obtain⟨f,rfl⟩:∃f',f=f'+1:=⟨f - 1,by omega⟩
  rw [PI.pressed_step] at hst
  have HST:=Lib.hid hst
  have HA:Hid (atOf gr wr=a):=Lib.hid (atOf_rr H1)
  obtain⟨VA,vc,rfl,hnc,hcm⟩:=Row.form H1 4 rfl
  have HCM:=Lib.hid hcm
  have HQ:=Lib.hid (xsign_ok gx gr ga l most a _ vb m H1 haa HL.out HS1.out (by omega))
  clear hst hcm
  go_wp2_with fail
  refine HQ.out.mono ?_
  intro e9 w2 h9
  cases hr:PI.sign (PBits.ofB l) m a with
  | error c =>
   rw [hr] at h9
   obtain⟨rfl,H2⟩:=h9
   have HE:Hid (T=.error c):=by rw [<- HST.out,PI.stepP_err hr]; exact Lib.hid rfl
   clear hr HQ HST
   go_wp2
   exact⟨rfl,XPost.no HE.out (H2.pick 2 [])⟩
  | ok r =>
   obtain⟨a1,s⟩:=r
   rw [hr] at h9
   obtain⟨rfl,H2⟩:=h9
   have h2:=PI.sign_ok (by rw [PBits.ofB_length]; exact haa) hr
   rw [PBits.ofB_length] at h2
   have ha1:a1<=8 * l.length:=h2.2
   have haa1:a<a1:=h2.1
   have hsl:s<=1000:=Nat.le_trans (PI.sign_lt hr) hm1
   have HR:=Lib.hid hr
   simp only at H2
   clear hr HQ h2 H1
   show _
   by_cases h6:s=256
   ·subst h6
    have HE:Hid (T=.ok (a1,out)):=by rw [<- HST.out,PI.stepP_end HR.out]; exact Lib.hid rfl
    clear HST HR
    go_wp2_with fail
    first
     | go_end0
     | refine bodyPost_ret (results_none rfl _ _ _) rfl ?_
    exact XPost.yes HE.out ⟨rfl,_,H2⟩
   ·have g6:((s:Int) == 256)=false:=by rw [beq_eq_false_iff_ne]; omega
    have g6' : ¬ (s:Int)=256:=by omega
    by_cases hlt:s<256
    ·have g7:(s:Int)<256:=by omega
     have HF:=Lib.hid (PI.stepP_lit (most:=most) (d:=d) (out:=out) HR.out hlt)
     have HRM:=Lib.hid (xroom_ok gx gr most out.length vc 1 VA vb (H2.pick 2 [1]) hol (by omega) (by omega))
     clear HR
     go_wp2_with fail
     refine HRM.out.mono ?_
     rintro _ w3 ⟨rfl,hK⟩
     have H3:=hK.sep H2
     by_cases hroom:most - out.length<1
     ·rw [if_pos hroom]
      have HE:Hid (T=.error 22):=by rw [<- HST.out,HF.out,if_pos hroom]; exact Lib.hid rfl
      clear HST HF HRM
      go_wp2
      exact⟨rfl,XPost.no HE.out (H3.pick 5 [])⟩
     ·rw [if_neg hroom]
      have HN:Hid (PI.pressed (PBits.ofB l) most m d f a1 (out++[UInt8.ofNat s])=T):=by rw [<- HST.out,HF.out,if_neg hroom]; exact Lib.hid rfl
      have c1:w3.cell? ⟨gx,1,none⟩=some (.slice VA out.length vc):=H3.cell 1 rfl 1
      have hwr:IntKind.u8.wrap (s:Int)=(s:Int):=by
       have:(s:Int) % 256=(s:Int):=by omega
       simp [IntKind.wrap_u8,this]
      have H4:=H3.newBk [.int .u8 (s:Int)] 5
      have HCM2:=HCM.out
      have hmx:maxLen=9223372036854775807:=rfl
      clear HST HF HRM H2 hK
      go_wp2_with (at_builtin; refine wpList_append_sp rfl _ _ 23 rfl 5 i0 (.int .u8 0) 1 1 Tryz.underlying23 hi hz0 hz1 hz2 rfl (by decide) _ out.length (cells8 out) rfl (H4.pick 6 [5,0,1,2,3,4]) (some ⟨w3.heap.size,0,none⟩) 1 1 [.int .u8 (s:Int)] rfl rfl (Rd.of_blk (H4.blk 0 rfl)) (by intro u hu; rw [List.mem_singleton.1 hu]; rfl) (by have:=HM.out; omega) (by have:=HM.out; omega) ?_)
      intro v8 w8 H8 _
      obtain⟨VA8,vc8,rfl,_,_⟩:=Row.form H8 0 rfl
      have H9:=H8.pick 6 [3,0,2,4,5]
      have c1:w8.cell? ⟨gx,1,none⟩=some (.slice VA out.length vc):=H9.cell 0 rfl 1
      have z1:w8.frozen? ⟨gx,1,none⟩=false:=H9.frozen 0 rfl 1
      have H10:=H9.set 1 (.slice VA8 (out.length+1) vc8)
      have HX:=Lib.hid H10
      clear H8 H10 H4 H3 hmx
      go_wp2
      have H11:Sp w0 (Rr gr l a1::XpB gx gr (.slice VA8 (out.length+1) vc8) most vb::Bok ga m::Bok gd d::Row 5 1 (.slice VA8 (out.length+1) vc8) (out.length+1) (cells8 out++[.int .u8 (s:Int)])::L) _:=HX.out.pick 5 [2,0,3,4,1]
      go_roundw
      case rel =>
       have hl1:(out++[UInt8.ofNat s]).length=out.length+1:=by simp
       have ec:cells8 (out++[UInt8.ofNat s])=cells8 out++[.int .u8 (s:Int)]:=by
        have:(UInt8.ofNat s).toNat=s:=by rw [UInt8.toNat_ofNat']; omega
        simp [cells8,this]
       refine⟨a1,f,.slice VA8 (out.length+1) vc8,out++[UInt8.ofNat s],ha1,by omega,by rw [hl1]; omega,HN.out,?_⟩
       rw [hl1,ec]
       exact H11
      case measure =>
       have:=atOf_rr H11
       rw [this,HA.out]
       omega
    ·have g7:¬ (s:Int)<256:=by omega
     have HF:=Lib.hid (PI.stepP_cpy (most:=most) (d:=d) (out:=out) HR.out (by omega))
     obtain⟨s1,hs1⟩:∃s1,s - 256=s1:=⟨_,rfl⟩
     obtain⟨s2,hs2⟩:∃s2,s - 257=s2:=⟨_,rfl⟩
     have y1:(s:Int) - 256=(s1:Int):=by omega
     have y2:(s1:Int) - 1=(s2:Int):=by omega
     rw [hs2] at HF
     have hs2l:s2<=1000000:=by omega
     have HQ:=Lib.hid (xlen_ok gx gr l most a1 s2 _ vb TL TA cl ca H2 ha1 HL.out (fun w0 w h=>HTB.out w0 w (h.pick 3 [])) hs2l)
     clear HR hs1 hs2
     go_wp2_with fail
     refine HQ.out.mono ?_
     intro e9 w3 h9
     cases hr:PI.length (PBits.ofB l) s2 a1 with
     | error c =>
      rw [hr] at h9
      obtain⟨rfl,H3⟩:=h9
      have HE:Hid (T=.error c):=by rw [<- HST.out,HF.out,hr]; exact Lib.hid rfl
      clear hr HQ HST HF
      go_wp2
      exact⟨rfl,XPost.no HE.out (H3.pick 3 [])⟩
     | ok r =>
      obtain⟨a2,n⟩:=r
      rw [hr] at h9
      obtain⟨rfl,H3⟩:=h9
      have hnl:n<=200000:=PI.length_le hr
      have h3:=PI.length_ok hr
      have ha2:a2<=8 * l.length:=by have:=h3.2 (by rw [PBits.ofB_length]; exact ha1); rw [PBits.ofB_length] at this; exact this
      have haa2:a<a2:=Nat.lt_of_lt_of_le haa1 h3.1
      rw [hr,PI.bok] at HF
      simp only at H3 HF
      clear hr HQ h3 H2
      have hq:=xsign_ok gx gr gd l most a2 _ vb d (H3.pick 5 [0,1,3,2,4]) ha2 HL.out HS2.out (by omega)
      have ctab:=(HTB.out _ _ (H3.pick 5 [])).far
      cases hr:PI.sign (PBits.ofB l) d a2 with
      | error c =>
       have HE:Hid (T=.error c):=by rw [<- HST.out,HF.out,hr]; exact Lib.hid rfl
       have HR:=Lib.hid hr
       clear hr hq HST HF ctab
       go_wp2_with fail
       refine wp_region_sc (L:=Bok ga m::Row 5 1 (.slice VA out.length vc) out.length (cells8 out)::L) [some (.pointer (some ⟨gx,0,none⟩)),some (.pointer (some ⟨gx,0,none⟩)),some (.pointer (some ⟨gd,0,none⟩)),none,some (.slice TA 30 ca),none,none] (fun ix vx=>match ix with | 3=>(fun _=>False) vx | _=>True) (fun _ _=>[]) (fun ix=>match ix with | 3=>[Rr gr l a2,XpB gx gr (.slice VA out.length vc) most vb,Bok gd d] | _=>[]) 7 79
        [some 36,some 37,some 38,some 39,some 40,some 41,some 8]
        [[],[],[],[1,2],[],[0,3,4,3],[5,5,0,1,2,3,4,5]]
        [[],[],[],[1,2],[],[0,1,2,3,4],[0,1,2,3,4,5]]
        [[],[],[],[],[],[],[]] [[],[],[],[],[],[],[]] [(0,.pointer (some ⟨gx,0,none⟩)),(2,.pointer (some ⟨gd,0,none⟩))]
        (by kernel_rfl) rfl (by decide) (by rfl) (by decide +kernel) rfl rfl (by simp) (H3.pick 5 [0,1,3,2,4]) ?hstep ?hend
       case hstep =>
        refine⟨?p0,⟨?p1,⟨?p2,⟨?p3,⟨?p4,⟨?p5,⟨?p6,trivial⟩⟩⟩⟩⟩⟩⟩
        case p0 | p1 | p2 =>
         intro x wx A rest hDf hF hS hE H K hK
         replace hK:=Lib.hid hK
         clear hS hE hDf
         repeat (obtain⟨_,hF⟩:=hF)
         change Oper.wp _ _ A wx K _
         go_step
         exact hK.out _ _ rfl H
        case p3 =>
         intro x wx A rest hDf hF hS hE H K hK0
         replace hDf:=Lib.hid hDf
         have e37:A.tmps[37]?.getD undef=.pointer (some ⟨gx,0,none⟩):=((hS 1 (by decide)).2 37 rfl).trans (hS 1 (by decide)).1
         have e38:A.tmps[38]?.getD undef=.pointer (some ⟨gd,0,none⟩):=((hS 2 (by decide)).2 38 rfl).trans (hS 2 (by decide)).1
         replace H:Sp w0 ((Rr gr l a2)::(XpB gx gr (.slice VA out.length vc) most vb)::(Bok gd d)::rest) wx:=H
         have hK:Hid (∀(v:Value) (w' : World),False->Sp w0 (rest) w'->K (A.put (some 39) v) w'):=Lib.hid hK0
         clear hK0 hF hS
         change Oper.wp _ _ A wx K _
         go_wp2_with fail
         have h9:=xsign_ok gx gr gd l most a2 _ vb d H ha2 HL.out HS2.out (by omega)
         rw [HR.out] at h9
         refine h9.mono ?_
         clear h9
         rintro _ w9 ⟨rfl,H9⟩
         go_wp2
         exact⟨hDf.out,XPost.no HE.out ((H9.sub hE).pick 2 [])⟩
        case p4 =>
         intro x wx A rest hDf hF hS hE H K hK0
         replace hDf:=Lib.hid hDf
         replace H:Sp w0 (rest) wx:=H
         have hK:Hid (∀(v:Value) (w' : World),v=.slice TA 30 ca->Sp w0 (rest) w'->K (A.put (some 40) v) w'):=Lib.hid hK0
         clear hK0 hF hS
         have ctb:=hE (fun w=>w.cell? ⟨4,0,none⟩=some (.slice TA 30 ca)) (fun w0 w h=>(HTB.out w0 w (h.pick 2 [])).far) _ _ H
         change Oper.wp _ _ A wx K _
         go_step
         exact hK.out _ _ rfl (H)
        case p5 =>
         intro x wx A rest hDf hF hS hE H K hK0
         replace hDf:=Lib.hid hDf
         have e36:A.tmps[36]?.getD undef=.pointer (some ⟨gx,0,none⟩):=((hS 0 (by decide)).2 36 rfl).trans (hS 0 (by decide)).1
         have q39:False:=(hS 3 (by decide)).1
         have e39:A.tmps[39]?.getD undef=x 3:=(hS 3 (by decide)).2 39 rfl
         have e40:A.tmps[40]?.getD undef=.slice TA 30 ca:=((hS 4 (by decide)).2 40 rfl).trans (hS 4 (by decide)).1
         replace H:Sp w0 (rest) wx:=H
         have hK:Hid (∀(v:Value) (w' : World),True->Sp w0 (rest) w'->K (A.put (some 41) v) w'):=Lib.hid hK0
         clear hK0 hF
         exact((hS 3 (by decide)).1:False).elim
        case p6 =>
         intro x wx A rest hDf hF hS hE H K hK0
         replace hDf:=Lib.hid hDf
         have q41:True:=(hS 5 (by decide)).1
         have e41:A.tmps[41]?.getD undef=x 5:=(hS 5 (by decide)).2 41 rfl
         replace H:Sp w0 (rest) wx:=H
         have hK:Hid (∀(v:Value) (w' : World),True->Sp w0 (rest) w'->K (A.put (some 8) v) w'):=Lib.hid hK0
         clear hK0 hF
         exact((hS 3 (by decide)).1:False).elim
       case hend =>
        intro x wx A hA hS H
        replace H:Sp w0 (Bok ga m::Row 5 1 (.slice VA out.length vc) out.length (cells8 out)::L) wx:=H
        have y3:False:=hS 3 (by decide)
        clear hS
        simp only [putAll,Act.put,List.setIfInBounds_toArray,List.set_cons_succ,List.set_cons_zero,Nat.reduceAdd] at hA
        subst hA
        exact y3.elim
      | ok r =>
       obtain⟨a3,t⟩:=r
       have h2:=PI.sign_ok (by rw [PBits.ofB_length]; exact ha2) hr
       rw [PBits.ofB_length] at h2
       have ha3:a3<=8 * l.length:=h2.2
       have haa3:a<a3:=Nat.lt_trans haa2 h2.1
       have htl:t<=1000:=Nat.le_trans (PI.sign_lt hr) hd1
       have HR:=Lib.hid hr
       rw [hr,PI.bok] at HF
       simp only at HF
       clear hr hq h2
       cases hr2:PI.count (PBits.ofB l) PI.awayT t a3 with
       | error c =>
        have HE:Hid (T=.error c):=by rw [<- HST.out,HF.out,hr2]; exact Lib.hid rfl
        have HR2:=Lib.hid hr2
        clear hr2 HST HF ctab
        go_wp2_with fail
        refine wp_region_sc (L:=Bok ga m::Row 5 1 (.slice VA out.length vc) out.length (cells8 out)::L) [some (.pointer (some ⟨gx,0,none⟩)),some (.pointer (some ⟨gx,0,none⟩)),some (.pointer (some ⟨gd,0,none⟩)),some (.int .i64 (t:Int)),some (.slice TA 30 ca),none,none] (fun ix vx=>match ix with | 5=>(fun _=>False) vx | _=>True) (fun ix vx=>match ix with | 3=>(fun _=>[Rr gr l a3,XpB gx gr (.slice VA out.length vc) most vb,Bok gd d]) vx | _=>[]) (fun ix=>match ix with | 3=>[Rr gr l a2,XpB gx gr (.slice VA out.length vc) most vb,Bok gd d] | _=>[]) 7 79
         [some 36,some 37,some 38,some 39,some 40,some 41,some 8]
         [[],[],[],[1,2],[],[0,3,4,3],[5,5,0,1,2,3,4,5]]
         [[],[],[],[1,2],[],[0,1,2,3,4],[0,1,2,3,4,5]]
         [[],[],[],[],[],[3],[]] [[],[],[],[],[],[],[]] [(0,.pointer (some ⟨gx,0,none⟩)),(2,.pointer (some ⟨gd,0,none⟩))]
         (by kernel_rfl) rfl (by decide) (by rfl) (by decide +kernel) rfl rfl (by simp) (H3.pick 5 [0,1,3,2,4]) ?hstep ?hend
        case hstep =>
         refine⟨?p0,⟨?p1,⟨?p2,⟨?p3,⟨?p4,⟨?p5,⟨?p6,trivial⟩⟩⟩⟩⟩⟩⟩
         case p0 | p1 | p2 =>
          intro x wx A rest hDf hF hS hE H K hK
          replace hK:=Lib.hid hK
          clear hS hE hDf
          repeat (obtain⟨_,hF⟩:=hF)
          change Oper.wp _ _ A wx K _
          go_step
          exact hK.out _ _ rfl H
         case p3 =>
          intro x wx A rest hDf hF hS hE H K hK0
          replace hDf:=Lib.hid hDf
          have e37:A.tmps[37]?.getD undef=.pointer (some ⟨gx,0,none⟩):=((hS 1 (by decide)).2 37 rfl).trans (hS 1 (by decide)).1
          have e38:A.tmps[38]?.getD undef=.pointer (some ⟨gd,0,none⟩):=((hS 2 (by decide)).2 38 rfl).trans (hS 2 (by decide)).1
          replace H:Sp w0 ((Rr gr l a2)::(XpB gx gr (.slice VA out.length vc) most vb)::(Bok gd d)::rest) wx:=H
          have hK:Hid (∀(v:Value) (w' : World),v=.int .i64 (t:Int)->Sp w0 ((Rr gr l a3)::(XpB gx gr (.slice VA out.length vc) most vb)::(Bok gd d)::rest) w'->K (A.put (some 39) v) w'):=Lib.hid hK0
          clear hK0 hF hS
          change Oper.wp _ _ A wx K _
          go_wp2_with fail
          have h9:=xsign_ok gx gr gd l most a2 _ vb d H ha2 HL.out HS2.out (by omega)
          rw [HR.out] at h9
          refine h9.mono ?_
          clear h9
          rintro _ w9 ⟨rfl,H9⟩
          exact hK.out _ _ rfl H9
         case p4 =>
          intro x wx A rest hDf hF hS hE H K hK0
          replace hDf:=Lib.hid hDf
          replace H:Sp w0 (rest) wx:=H
          have hK:Hid (∀(v:Value) (w' : World),v=.slice TA 30 ca->Sp w0 (rest) w'->K (A.put (some 40) v) w'):=Lib.hid hK0
          clear hK0 hF hS
          have ctb:=hE (fun w=>w.cell? ⟨4,0,none⟩=some (.slice TA 30 ca)) (fun w0 w h=>(HTB.out w0 w (h.pick 2 [])).far) _ _ H
          change Oper.wp _ _ A wx K _
          go_step
          exact hK.out _ _ rfl (H)
         case p5 =>
          intro x wx A rest hDf hF hS hE H K hK0
          replace hDf:=Lib.hid hDf
          have e36:A.tmps[36]?.getD undef=.pointer (some ⟨gx,0,none⟩):=((hS 0 (by decide)).2 36 rfl).trans (hS 0 (by decide)).1
          have e39:A.tmps[39]?.getD undef=.int .i64 (t:Int):=((hS 3 (by decide)).2 39 rfl).trans (hS 3 (by decide)).1
          have e40:A.tmps[40]?.getD undef=.slice TA 30 ca:=((hS 4 (by decide)).2 40 rfl).trans (hS 4 (by decide)).1
          replace H:Sp w0 ((Rr gr l a3)::(XpB gx gr (.slice VA out.length vc) most vb)::(Bok gd d)::rest) wx:=H
          have hK:Hid (∀(v:Value) (w' : World),False->Sp w0 (rest) w'->K (A.put (some 41) v) w'):=Lib.hid hK0
          clear hK0 hF hS
          change Oper.wp _ _ A wx K _
          go_wp2_with fail
          have h9:=xof_ok gx gr l most a3 t _ vb TA 30 ca PI.awayT H ha3 HL.out (fun w0 w h=>hE (fun w=>Rd w TA (cellsP PI.awayT)) (fun w0 w h=>(HTB.out w0 w (h.pick 2 [])).fars) w0 w (h.pick 1 [])) rfl awayT_le (by omega)
          rw [HR2.out] at h9
          refine h9.mono ?_
          clear h9
          rintro _ w9 ⟨rfl,H9⟩
          go_wp2
          exact⟨hDf.out,XPost.no HE.out (((H9.pick 1 []).sub hE).pick 2 [])⟩
         case p6 =>
          intro x wx A rest hDf hF hS hE H K hK0
          replace hDf:=Lib.hid hDf
          have q41:False:=(hS 5 (by decide)).1
          have e41:A.tmps[41]?.getD undef=x 5:=(hS 5 (by decide)).2 41 rfl
          replace H:Sp w0 (rest) wx:=H
          have hK:Hid (∀(v:Value) (w' : World),True->Sp w0 (rest) w'->K (A.put (some 8) v) w'):=Lib.hid hK0
          clear hK0 hF
          exact((hS 5 (by decide)).1:False).elim
        case hend =>
         intro x wx A hA hS H
         replace H:Sp w0 (Bok ga m::Row 5 1 (.slice VA out.length vc) out.length (cells8 out)::L) wx:=H
         have y5:False:=hS 5 (by decide)
         clear hS
         simp only [putAll,Act.put,List.setIfInBounds_toArray,List.set_cons_succ,List.set_cons_zero,Nat.reduceAdd] at hA
         subst hA
         exact y5.elim
       | ok r =>
        obtain⟨a4,back⟩:=r
        have hbk:=PI.count_far hr2
        have h4:=PI.count_ok hr2
        have ha4:a4<=8 * l.length:=by have:=h4.2 (by rw [PBits.ofB_length]; exact ha3); rw [PBits.ofB_length] at this; exact this
        have haa4:a<a4:=Nat.lt_of_lt_of_le haa3 h4.1
        have HR2:=Lib.hid hr2
        rw [hr2,PI.bok] at HF
        simp only at HF hbk
        clear hr2 h4 ctab
        go_wp2_with fail
        refine wp_region_sc (L:=Bok ga m::Row 5 1 (.slice VA out.length vc) out.length (cells8 out)::L) [some (.pointer (some ⟨gx,0,none⟩)),some (.pointer (some ⟨gx,0,none⟩)),some (.pointer (some ⟨gd,0,none⟩)),some (.int .i64 (t:Int)),some (.slice TA 30 ca),some (.int .i64 (back:Int)),some (.int .i64 (back:Int))] (fun _ _=>True) (fun ix vx=>match ix with | 3=>(fun _=>[Rr gr l a3,XpB gx gr (.slice VA out.length vc) most vb,Bok gd d]) vx | 5=>(fun _=>[Rr gr l a4,XpB gx gr (.slice VA out.length vc) most vb,Bok gd d]) vx | _=>[]) (fun ix=>match ix with | 3=>[Rr gr l a2,XpB gx gr (.slice VA out.length vc) most vb,Bok gd d] | _=>[]) 7 79
         [some 36,some 37,some 38,some 39,some 40,some 41,some 8]
         [[],[],[],[1,2],[],[0,3,4,3],[5,5,0,1,2,3,4,5]]
         [[],[],[],[1,2],[],[0,1,2,3,4],[0,1,2,3,4,5]]
         [[],[],[],[],[],[3],[]] [[],[],[],[],[],[],[]] [(0,.pointer (some ⟨gx,0,none⟩)),(2,.pointer (some ⟨gd,0,none⟩))]
         (by kernel_rfl) rfl (by decide) (by rfl) (by decide +kernel) rfl rfl (by simp) (H3.pick 5 [0,1,3,2,4]) ?hstep ?hend
        case hstep =>
         refine⟨?p0,⟨?p1,⟨?p2,⟨?p3,⟨?p4,⟨?p5,⟨?p6,trivial⟩⟩⟩⟩⟩⟩⟩
         case p0 | p1 | p2 | p6 =>
          intro x wx A rest hDf hF hS hE H K hK
          replace hK:=Lib.hid hK
          clear hS hE hDf
          repeat (obtain⟨_,hF⟩:=hF)
          change Oper.wp _ _ A wx K _
          go_step
          exact hK.out _ _ rfl H
         case p3 =>
          intro x wx A rest hDf hF hS hE H K hK0
          replace hDf:=Lib.hid hDf
          have e37:A.tmps[37]?.getD undef=.pointer (some ⟨gx,0,none⟩):=((hS 1 (by decide)).2 37 rfl).trans (hS 1 (by decide)).1
          have e38:A.tmps[38]?.getD undef=.pointer (some ⟨gd,0,none⟩):=((hS 2 (by decide)).2 38 rfl).trans (hS 2 (by decide)).1
          replace H:Sp w0 ((Rr gr l a2)::(XpB gx gr (.slice VA out.length vc) most vb)::(Bok gd d)::rest) wx:=H
          have hK:Hid (∀(v:Value) (w' : World),v=.int .i64 (t:Int)->Sp w0 ((Rr gr l a3)::(XpB gx gr (.slice VA out.length vc) most vb)::(Bok gd d)::rest) w'->K (A.put (some 39) v) w'):=Lib.hid hK0
          clear hK0 hF hS
          change Oper.wp _ _ A wx K _
          go_wp2_with fail
          have h9:=xsign_ok gx gr gd l most a2 _ vb d H ha2 HL.out HS2.out (by omega)
          rw [HR.out] at h9
          refine h9.mono ?_
          clear h9
          rintro _ w9 ⟨rfl,H9⟩
          exact hK.out _ _ rfl H9
         case p4 =>
          intro x wx A rest hDf hF hS hE H K hK0
          replace hDf:=Lib.hid hDf
          replace H:Sp w0 (rest) wx:=H
          have hK:Hid (∀(v:Value) (w' : World),v=.slice TA 30 ca->Sp w0 (rest) w'->K (A.put (some 40) v) w'):=Lib.hid hK0
          clear hK0 hF hS
          have ctb:=hE (fun w=>w.cell? ⟨4,0,none⟩=some (.slice TA 30 ca)) (fun w0 w h=>(HTB.out w0 w (h.pick 2 [])).far) _ _ H
          change Oper.wp _ _ A wx K _
          go_step
          exact hK.out _ _ rfl (H)
         case p5 =>
          intro x wx A rest hDf hF hS hE H K hK0
          replace hDf:=Lib.hid hDf
          have e36:A.tmps[36]?.getD undef=.pointer (some ⟨gx,0,none⟩):=((hS 0 (by decide)).2 36 rfl).trans (hS 0 (by decide)).1
          have e39:A.tmps[39]?.getD undef=.int .i64 (t:Int):=((hS 3 (by decide)).2 39 rfl).trans (hS 3 (by decide)).1
          have e40:A.tmps[40]?.getD undef=.slice TA 30 ca:=((hS 4 (by decide)).2 40 rfl).trans (hS 4 (by decide)).1
          replace H:Sp w0 ((Rr gr l a3)::(XpB gx gr (.slice VA out.length vc) most vb)::(Bok gd d)::rest) wx:=H
          have hK:Hid (∀(v:Value) (w' : World),v=.int .i64 (back:Int)->Sp w0 ((Rr gr l a4)::(XpB gx gr (.slice VA out.length vc) most vb)::(Bok gd d)::rest) w'->K (A.put (some 41) v) w'):=Lib.hid hK0
          clear hK0 hF hS
          change Oper.wp _ _ A wx K _
          go_wp2_with fail
          have h9:=xof_ok gx gr l most a3 t _ vb TA 30 ca PI.awayT H ha3 HL.out (fun w0 w h=>hE (fun w=>Rd w TA (cellsP PI.awayT)) (fun w0 w h=>(HTB.out w0 w (h.pick 2 [])).fars) w0 w (h.pick 1 [])) rfl awayT_le (by omega)
          rw [HR2.out] at h9
          refine h9.mono ?_
          clear h9
          rintro _ w9 ⟨rfl,H9⟩
          exact hK.out _ _ rfl H9
        case hend =>
         intro x wx A hA hS H
         replace H:Sp w0 ((Rr gr l a4)::(XpB gx gr (.slice VA out.length vc) most vb)::(Bok gd d)::Bok ga m::Row 5 1 (.slice VA out.length vc) out.length (cells8 out)::L) wx:=H
         have y6:x 6=.int .i64 (back:Int):=hS 6 (by decide)
         clear hS
         simp only [putAll,Act.put,List.setIfInBounds_toArray,List.set_cons_succ,List.set_cons_zero,Nat.reduceAdd] at hA
         subst hA
         rw [y6]
         clear y6
         replace H:=H.pick 5 [0,1,3,2,4]
         have c1:wx.cell? ⟨gx,1,none⟩=some (.slice VA out.length vc):=H.cell 1 rfl 1
         by_cases hfar:out.length<back
         ·have k1:(back:Int) > (out.length:Int):=by omega
          have HE:Hid (T=.error 20):=by rw [<- HST.out,HF.out,if_pos hfar]; exact Lib.hid rfl
          clear HST HF
          go_wp2
          exact⟨rfl,XPost.no HE.out (H.pick 5 [])⟩
         ·have k1:¬ (back:Int) > (out.length:Int):=by omega
          have HF2:Hid (PI.stepP (PBits.ofB l) most m d a out=if most - out.length<n then .error 22 else .ok (false,a4,PI.copy back n out)):=by rw [HF.out,if_neg hfar]; exact Lib.hid rfl
          have HRM:=Lib.hid (xroom_ok gx gr most out.length vc n VA vb (H.pick 2 [1]) hol (by have:=HM.out; omega) (by omega))
          clear HF
          go_wp2_with fail
          refine HRM.out.mono ?_
          rintro _ w5 ⟨rfl,hK⟩
          have H5:=hK.sep H
          by_cases hroom:most - out.length<n
          ·rw [if_pos hroom]
           have HE:Hid (T=.error 22):=by rw [<- HST.out,HF2.out,if_pos hroom]; exact Lib.hid rfl
           clear HST HF2 HRM
           go_wp2
           exact⟨rfl,XPost.no HE.out (H5.pick 5 [])⟩
          ·rw [if_neg hroom]
           obtain⟨OT,hOT⟩:∃OT,PI.copy back n out=OT:=⟨_,rfl⟩
           have HN:Hid (PI.pressed (PBits.ofB l) most m d f a4 OT=T):=by rw [<- HST.out,HF2.out,if_neg hroom,hOT]; exact Lib.hid rfl
           have HOT:=Lib.hid hOT
           clear HST HF2 HRM hOT H hK c1 H3
           go_wp2_with fail
           go_loopw [54] (fun c54 wr=>∃(i:Nat) (vo' : Value) (o' : List UInt8),c54=.int .i64 (i:Int)/\i<=n/\o'.length=out.length+i/\PI.copy back (n - i) o'=OT/\Sp w0 (Rr gr l a4::XpB gx gr vo' most vb::Bok ga m::Bok gd d::Row 5 1 vo' o'.length (cells8 o')::L) wr) (fun c54 _=>n - (intOf c54).toNat)
           case atStart=>exact⟨0,_,out,rfl,Nat.zero_le _,rfl,HOT.out,H5⟩
           case round =>
            obtain⟨i,vo',o',rfl,hin,hol',hcp,H6⟩:=hrel
            clear H5
            by_cases hilt:i<n
            ·have k2:(i:Int)<(n:Int):=by omega
             obtain⟨VB,vd,rfl,_,hvd⟩:=Row.form H6 4 rfl
             obtain⟨q,hq⟩:∃q,o'.length=q:=⟨_,rfl⟩
             rw [hq] at H6 hol'
             obtain⟨ad,rfl⟩:=slice_of H6 4 rfl (by omega) (by simp [cells8,hq])
             obtain⟨jx,hix⟩:∃jx,q - back=jx:=⟨_,rfl⟩
             have y3:(q:Int) - (back:Int)=(jx:Int):=by omega
             obtain⟨bv,hbv⟩:∃bv:UInt8,o'.getD jx 0=bv:=⟨_,rfl⟩
             have hcp2:PI.copy back (n - (i+1)) (o'++[bv])=OT:=by
              rw [<- hcp,show n - i=(n - (i+1))+1 by omega,PI.copy,hq,hix,hbv]
             have hrd:∀(M:List Pr) (W0 W:World) (k:Nat),M[k]?=some (Row 5 1 (.slice (some ad) q vd) q (cells8 o'))->Sp W0 M W->W.cell? (ad.add jx)=some (.int .u8 (bv.toNat:Int)):=by
              intro M W0 W k hk HM
              obtain⟨ad2,e,hcc⟩:=(row_ent k hk W0 W HM).at_ (k:=jx) (by rw [cells8,List.length_map,hq]; omega)
              injection e with e
              subst e
              have hlt2:jx<o'.length:=by rw [hq]; omega
              rw [hcc,<- hbv,List.getD_eq_getElem?_getD,List.getElem?_eq_getElem hlt2]
              simp [cells8]
             have HRD:=Lib.hid hrd
             have HCP:=Lib.hid hcp2
             have HQQ:=Lib.hid hq
             have HVD:=Lib.hid hvd
             have hqm:q<=1000000000:=by have:=HM.out; omega
             have k3:(jx:Int)<(q:Int):=by omega
             have k4:0<q:=by omega
             have HOL:=Lib.hid hol'
             clear hrd hcp2 hcp hq hvd hbv hix hol'
             go_wp2_with fail
             refine wp_region_sc (L:=Rr gr l a4::Bok ga m::Bok gd d::L) [some (.pointer (some ⟨gx,0,none⟩)),some (.pointer (some ⟨gx,0,none⟩)),some (.pointer (some ⟨gx,0,none⟩)),some (.pointer (some ⟨gx,1,none⟩)),some (.slice (some ad) q vd),some (.pointer (some ⟨gx,0,none⟩)),some (.pointer (some ⟨gx,0,none⟩)),some (.pointer (some ⟨gx,1,none⟩)),some (.slice (some ad) q vd),some (.pointer (some ⟨gx,0,none⟩)),some (.pointer (some ⟨gx,0,none⟩)),some (.pointer (some ⟨gx,1,none⟩)),some (.slice (some ad) q vd),some (.int .i64 (q:Int)),some (.int .i64 (back:Int)),some (.int .i64 (jx:Int)),some (.pointer (some (ad.add jx))),some (.int .u8 (bv.toNat:Int)),none,none,some (.pointer (some ⟨gx,0,none⟩)),some (.pointer (some ⟨gx,1,none⟩)),some (undef)] (fun ix vx=>match ix with | 18=>(fun v=>v=.slice (some ⟨v.ownBlock.getD 0,0,none⟩) 1 1) vx | 19=>(fun _=>True) vx | _=>True) (fun ix vx=>match ix with | 18=>(fun v=>[Bk (v.ownBlock.getD 0) 5 [.int .u8 (bv.toNat:Int)]]) vx | 19=>(fun v=>[Row 5 1 v (q+1) (cells8 o'++[.int .u8 (bv.toNat:Int)])]) vx | 22=>(fun _=>[Ex fun u=>Star (XpB gx gr u most vb) (Row 5 1 u (q+1) (cells8 o'++[.int .u8 (bv.toNat:Int)]))]) vx | _=>[]) (fun ix=>match ix with | 19=>[Row 5 1 (.slice (some ad) q vd) q (cells8 o')] | 22=>[XpB gx gr (.slice (some ad) q vd) most vb] | _=>[]) 23 79
              [some 56,some 57,some 58,some 59,some 60,some 61,some 62,some 63,some 64,some 65,some 66,some 67,some 68,some 69,some 70,some 71,some 72,some 73,some 74,some 75,some 76,some 77,none]
              [[],[],[1],[2],[3],[],[5],[6],[7],[],[9],[10],[11],[12],[],[13,14],[8,15],[16],[17],[4,18],[0,0,1,2,3,4,5,6,7,8,9,10,11,12,13,14,15,16,17,18,19],[20,0,1,2,3,4,5,6,7,8,9,10,11,12,13,14,15,16,17,18,19],[21,19,19,0,1,2,3,4,5,6,7,8,9,10,11,12,13,14,15,16,17,18,19]]
              [[],[],[1],[1,2],[1,2,3],[],[5],[5,6],[5,6,7],[],[9],[9,10],[9,10,11],[9,10,11,12],[],[9,10,11,12,13,14],[5,6,7,8,9,10,11,12,13,14,15],[5,6,7,8,9,10,11,12,13,14,15,16],[5,6,7,8,9,10,11,12,13,14,15,16,17],[1,2,3,4,5,6,7,8,9,10,11,12,13,14,15,16,17,18],[0,1,2,3,4,5,6,7,8,9,10,11,12,13,14,15,16,17,18,19],[0,1,2,3,4,5,6,7,8,9,10,11,12,13,14,15,16,17,18,19,20],[0,1,2,3,4,5,6,7,8,9,10,11,12,13,14,15,16,17,18,19,20,21]]
              [[],[],[],[],[],[],[],[],[],[],[],[],[],[],[],[],[],[],[],[18],[],[],[19]] [[],[],[],[],[22],[],[],[],[22],[],[],[],[22],[],[],[],[],[19],[],[],[],[],[]] [(0,.pointer (some ⟨gx,0,none⟩)),(8,.int .i64 (back:Int))]
              (by kernel_rfl) rfl (by decide) (by rfl) (by decide +kernel) rfl rfl (by simp) (H6.pick 5 [4,1,0,2,3]) ?hstep ?hend
             case hstep =>
              refine⟨?p0,⟨?p1,⟨?p2,⟨?p3,⟨?p4,⟨?p5,⟨?p6,⟨?p7,⟨?p8,⟨?p9,⟨?p10,⟨?p11,⟨?p12,⟨?p13,⟨?p14,⟨?p15,⟨?p16,⟨?p17,⟨?p18,⟨?p19,⟨?p20,⟨?p21,⟨?p22,trivial⟩⟩⟩⟩⟩⟩⟩⟩⟩⟩⟩⟩⟩⟩⟩⟩⟩⟩⟩⟩⟩⟩⟩
              case p0 | p1 | p2 | p3 | p5 | p6 | p7 | p9 | p10 | p11 | p13 | p14 | p15 | p16 | p20 | p21 =>
               intro x wx A rest hDf hF hS hE H K hK
               replace hK:=Lib.hid hK
               clear hS hE hDf
               repeat (obtain⟨_,hF⟩:=hF)
               change Oper.wp _ _ A wx K _
               go_step
               exact hK.out _ _ rfl H
              case p4 =>
               intro x wx A rest hDf hF hS hE H K hK0
               replace hDf:=Lib.hid hDf
               have e59:A.tmps[59]?.getD undef=.pointer (some ⟨gx,1,none⟩):=((hS 3 (by decide)).2 59 rfl).trans (hS 3 (by decide)).1
               replace H:Sp w0 ((XpB gx gr (.slice (some ad) q vd) most vb)::rest) wx:=H
               have hK:Hid (∀(v:Value) (w' : World),v=.slice (some ad) q vd->Sp w0 ((XpB gx gr (.slice (some ad) q vd) most vb)::rest) w'->K (A.put (some 60) v) w'):=Lib.hid hK0
               clear hK0 hF hS hE
               have c:wx.cell? ⟨gx,1,none⟩=some (.slice (some ad) q vd):=H.cell 0 rfl 1
               change Oper.wp _ _ A wx K _
               go_step
               exact hK.out _ _ rfl (H)
              case p8 =>
               intro x wx A rest hDf hF hS hE H K hK0
               replace hDf:=Lib.hid hDf
               have e63:A.tmps[63]?.getD undef=.pointer (some ⟨gx,1,none⟩):=((hS 7 (by decide)).2 63 rfl).trans (hS 7 (by decide)).1
               replace H:Sp w0 ((XpB gx gr (.slice (some ad) q vd) most vb)::rest) wx:=H
               have hK:Hid (∀(v:Value) (w' : World),v=.slice (some ad) q vd->Sp w0 ((XpB gx gr (.slice (some ad) q vd) most vb)::rest) w'->K (A.put (some 64) v) w'):=Lib.hid hK0
               clear hK0 hF hS hE
               have c:wx.cell? ⟨gx,1,none⟩=some (.slice (some ad) q vd):=H.cell 0 rfl 1
               change Oper.wp _ _ A wx K _
               go_step
               exact hK.out _ _ rfl (H)
              case p12 =>
               intro x wx A rest hDf hF hS hE H K hK0
               replace hDf:=Lib.hid hDf
               have e67:A.tmps[67]?.getD undef=.pointer (some ⟨gx,1,none⟩):=((hS 11 (by decide)).2 67 rfl).trans (hS 11 (by decide)).1
               replace H:Sp w0 ((XpB gx gr (.slice (some ad) q vd) most vb)::rest) wx:=H
               have hK:Hid (∀(v:Value) (w' : World),v=.slice (some ad) q vd->Sp w0 ((XpB gx gr (.slice (some ad) q vd) most vb)::rest) w'->K (A.put (some 68) v) w'):=Lib.hid hK0
               clear hK0 hF hS hE
               have c:wx.cell? ⟨gx,1,none⟩=some (.slice (some ad) q vd):=H.cell 0 rfl 1
               change Oper.wp _ _ A wx K _
               go_step
               exact hK.out _ _ rfl (H)
              case p17 =>
               intro x wx A rest hDf hF hS hE H K hK0
               replace hDf:=Lib.hid hDf
               have e72:A.tmps[72]?.getD undef=.pointer (some (ad.add jx)):=((hS 16 (by decide)).2 72 rfl).trans (hS 16 (by decide)).1
               replace H:Sp w0 ((Row 5 1 (.slice (some ad) q vd) q (cells8 o'))::rest) wx:=H
               have hK:Hid (∀(v:Value) (w' : World),v=.int .u8 (bv.toNat:Int)->Sp w0 ((Row 5 1 (.slice (some ad) q vd) q (cells8 o'))::rest) w'->K (A.put (some 73) v) w'):=Lib.hid hK0
               clear hK0 hF hS hE
               have c:wx.cell? (ad.add jx)=some (.int .u8 (bv.toNat:Int)):=HRD.out _ _ _ 0 rfl H
               change Oper.wp _ _ A wx K _
               go_step
               exact hK.out _ _ rfl (H)
              case p18 =>
               intro x wx A rest hDf hF hS hE H K hK0
               replace hDf:=Lib.hid hDf
               have e73:A.tmps[73]?.getD undef=.int .u8 (bv.toNat:Int):=((hS 17 (by decide)).2 73 rfl).trans (hS 17 (by decide)).1
               replace H:Sp w0 (rest) wx:=H
               have hK:Hid (∀(v:Value) (w' : World),v=.slice (some ⟨v.ownBlock.getD 0,0,none⟩) 1 1->Sp w0 ((Bk (v.ownBlock.getD 0) 5 [.int .u8 (bv.toNat:Int)])::rest) w'->K (A.put (some 74) v) w'):=Lib.hid hK0
               clear hK0 hF hS hE
               change Oper.wp _ _ A wx K _
               go_step
               exact hK.out _ _ rfl (H.newBk _ _)
              case p19 =>
               intro x wx A rest hDf hF hS hE H K hK0
               replace hDf:=Lib.hid hDf
               have e60:A.tmps[60]?.getD undef=.slice (some ad) q vd:=((hS 4 (by decide)).2 60 rfl).trans (hS 4 (by decide)).1
               have q74:(x 18)=.slice (some ⟨(x 18).ownBlock.getD 0,0,none⟩) 1 1:=(hS 18 (by decide)).1
               have e74:A.tmps[74]?.getD undef=x 18:=(hS 18 (by decide)).2 74 rfl
               replace H:Sp w0 ((Row 5 1 (.slice (some ad) q vd) q (cells8 o'))::(Bk ((x 18).ownBlock.getD 0) 5 [.int .u8 (bv.toNat:Int)])::rest) wx:=H
               have hK:Hid (∀(v:Value) (w' : World),True->Sp w0 ((Row 5 1 v (q+1) (cells8 o'++[.int .u8 (bv.toNat:Int)]))::rest) w'->K (A.put (some 75) v) w'):=Lib.hid hK0
               clear hK0 hF hS hE
               obtain⟨g9,e9⟩:∃g9,(x 18).ownBlock.getD 0=g9:=⟨_,rfl⟩
               rw [q74] at e74
               rw [e9] at e74 H
               have HVD2:=HVD.out
               have hmx:maxLen=9223372036854775807:=rfl
               change Oper.wp _ _ A wx K _
               refine wp_append_sp _ _ 23 rfl 5 i0 (.int .u8 0) 1 1 Tryz.underlying23 hi hz0 hz1 hz2 rfl (by decide) (.slice (some ad) q vd) q (cells8 o') (ev e60) H (some ⟨g9,0,none⟩) 1 1 [.int .u8 (bv.toNat:Int)] (ev e74) rfl (Rd.of_blk (H.blk 1 rfl)) (by intro u hu; rw [List.mem_singleton.1 hu]; rfl) (by omega) (by omega) ?_
               intro v1 w2 H2 _
               exact hK.out _ _ trivial H2.swap.tail
              case p22 =>
               intro x wx A rest hDf hF hS hE H K hK0
               replace hDf:=Lib.hid hDf
               have e77:A.tmps[77]?.getD undef=.pointer (some ⟨gx,1,none⟩):=((hS 21 (by decide)).2 77 rfl).trans (hS 21 (by decide)).1
               have q75:True:=(hS 19 (by decide)).1
               have e75:A.tmps[75]?.getD undef=x 19:=(hS 19 (by decide)).2 75 rfl
               replace H:Sp w0 ((XpB gx gr (.slice (some ad) q vd) most vb)::(Row 5 1 (x 19) (q+1) (cells8 o'++[.int .u8 (bv.toNat:Int)]))::rest) wx:=H
               have hK:Hid (∀(v:Value) (w' : World),v=undef->Sp w0 ((Ex fun u=>Star (XpB gx gr u most vb) (Row 5 1 u (q+1) (cells8 o'++[.int .u8 (bv.toNat:Int)])))::rest) w'->K (A.put none v) w'):=Lib.hid hK0
               clear hK0 hF hS hE
               have c:wx.cell? ⟨gx,1,none⟩=some (.slice (some ad) q vd):=H.cell 0 rfl 1
               have z:wx.frozen? ⟨gx,1,none⟩=false:=H.frozen 0 rfl 1
               obtain⟨A1,c9,ea,_,_⟩:=Row.form H 1 rfl
               change Oper.wp _ _ A wx K _
               rw [ea] at e75 H
               go_step
               exact hK.out _ _ rfl (Sp.ex (.slice A1 (q+1) c9) (Sp.star (H.set 1 (.slice A1 (q+1) c9))))
             case hend =>
              intro x wx A hA hS H
              replace H:Sp w0 ((Ex fun u=>Star (XpB gx gr u most vb) (Row 5 1 u (q+1) (cells8 o'++[.int .u8 (bv.toNat:Int)])))::Rr gr l a4::Bok ga m::Bok gd d::L) wx:=H
              clear hS
              simp only [putAll,Act.put,List.setIfInBounds_toArray,List.set_cons_succ,List.set_cons_zero,Nat.reduceAdd] at hA
              subst hA
              obtain⟨u,H⟩:=H.unex
              replace H:=H.unstar
              have H7:Sp w0 (Rr gr l a4::XpB gx gr u most vb::Bok ga m::Bok gd d::Row 5 1 u (q+1) (cells8 o'++[.int .u8 (bv.toNat:Int)])::L) wx:=H.pick 5 [2,0,3,4,1]
              have HX:=Lib.hid H7
              clear H H7 H6
              go_wp2
              go_roundw
              case rel =>
               have hl1:(o'++[bv]).length=q+1:=by rw [List.length_append,HQQ.out]; rfl
               refine⟨i+1,u,o'++[bv],by go_num,by omega,by rw [hl1]; have:=HOL.out; omega,HCP.out,?_⟩
               have ec:cells8 (o'++[bv])=cells8 o'++[.int .u8 (bv.toNat:Int)]:=by simp [cells8]
               rw [hl1,ec]
               exact HX.out
              case measure=>first | (simp [intOf]; omega) | simp [intOf]
            ·have k2:¬ (i:Int)<(n:Int):=by omega
             obtain rfl:i=n:=by omega
             rw [Nat.sub_self] at hcp
             have hcp' : o'=OT:=hcp
             subst hcp'
             have hol2:o'.length<=most:=by omega
             have HOL:=Lib.hid hol2
             clear hcp hol' hol2
             go_wp2_with fail
             go_roundw
             case rel=>exact⟨a4,f,vo',o',ha4,by omega,HOL.out,HN.out,H6⟩
             case measure =>
              have:=atOf_rr H6
              rw [this,HA.out]
              omega
end Go.Proofs.YtloijdbkikccgaaGreatDoor

