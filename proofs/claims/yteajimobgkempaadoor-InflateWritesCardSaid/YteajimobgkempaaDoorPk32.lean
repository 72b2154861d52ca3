/- A pack. -/
import Derived.Test.YteajimobgkempaaDoorPk28
import Derived.Test.YteajimobgkempaaDoorPk30
import Derived.Test.YteajimobgkempaaDoorPk31
set_option linter.all false
set_option maxRecDepth 100000
set_option maxHeartbeats 8000000
namespace Go.Proofs.YteajimobgkempaaDoor
variable {w0 w:World} {L:List Pr}
open Go.RowKit
theorem PI.copy_succ (bk n:Nat) (o:List UInt8):PI.copy bk (n+1) o=PI.copy bk n o++[(PI.copy bk n o).getD ((PI.copy bk n o).length - bk) 0]:=by
 induction n generalizing o with
 | zero=>rfl
 | succ n ih=>rw [PI.copy,ih,<- PI.copy]
def vMeas (g n:Nat) (w:World):Nat:=match w.cell? ⟨g,5,none⟩,w.cell? ⟨g,1,none⟩ with
 | some v,some u=>if intOf v=0 then 8 * n+1 - (intOf u).toNat else 0
 | _,_=>0
theorem vMeas_live {g n:Nat} {V:Value} {a:Nat} {o:List UInt8} {most:Nat} {bl:Value} (H:Sp w0 (Sm g V a o most bl 0::L) w):vMeas g n w=8 * n+1 - a:=by
 obtain⟨d,e,H,_,_⟩:=sm_open H;unfold vMeas;have b:w.cell? ⟨g,5,none⟩=some (.int .i64 0):=H.cell 0 rfl 5;have c:w.cell? ⟨g,1,none⟩=some (.int .i64 a):=H.cell 0 rfl 1;rw [b,c];simp [intOf]
theorem vMeas_dead {g n:Nat} {V:Value} {a er:Nat} {o:List UInt8} {most:Nat} {bl:Value} (he:er≠0) (H:Sp w0 (Sm g V a o most bl er::L) w):vMeas g n w=0:=by
 obtain⟨d,e,H,_,_⟩:=sm_open H;unfold vMeas;have b:w.cell? ⟨g,5,none⟩=some (.int .i64 er):=H.cell 0 rfl 5;have c:w.cell? ⟨g,1,none⟩=some (.int .i64 a):=H.cell 0 rfl 1;rw [b,c];simp [intOf,he]
theorem vpressed_ok (g:Nat) (AA:Option Addr) (n c:Nat) (B:List UInt8) (at_:Nat) (out:List UInt8) (most:Nat) (bl:Value) (A1:Option Addr) (n1 c1:Nat) (m:List Nat) (C1:Option Addr) (k1:Nat) (A2:Option Addr) (n2 c2:Nat) (d:List Nat) (C2:Option Addr) (k2:Nat) {w0 w:World} {L:List Pr}
    (H:Sp w0 (Sm g (.slice AA n c) at_ out most bl 0::L) w) (hn:n=B.length) (hnm:n<=1000000) (hat:at_<=8 * n) (ho:out.length<=most) (hm:most<=1000000) (hb:Ent L fun w=>Byt w (.slice AA n c) B)
    (hn1:n1=m.length) (hl1:n1<=1000) (h151:∀x ∈ m,x<=15) (hA1:Ent L fun w=>Rd w A1 (cellsN m)) (hC1:Ent L fun w=>Rd w C1 (rowU (PH.codeAt m) n1))
    (hn2:n2=d.length) (hl2:n2<=1000) (h152:∀x ∈ d,x<=15) (hA2:Ent L fun w=>Rd w A2 (cellsN d)) (hC2:Ent L fun w=>Rd w C2 (rowU (PH.codeAt d) n2)) :
    Calls Tryd.prog 40 #[.pointer (some ⟨g,0,none⟩),.agg #[.slice A1 n1 c1,.slice C1 n1 k1,.int .i64 (PI.mostN m:Int)],.agg #[.slice A2 n2 c2,.slice C2 n2 k2,.int .i64 (PI.mostN d:Int)]] w (DvOut w0 L g (.slice AA n c) most bl (PI.pressed (PBits.ofB B) most m d ((PBits.ofB B).length+1) at_ out)):=by
  obtain⟨T,hT⟩:∃T,PI.pressed (PBits.ofB B) most m d ((PBits.ofB B).length+1) at_ out=T:=⟨_,rfl⟩
  rw [hT]
  rw [PBits.ofB_length,<- hn] at hT
  have HN:=Lib.hid hn
  have HB:=Lib.hid hb
  have HN1:=Lib.hid hn1
  have HN2:=Lib.hid hn2
  have H151:=Lib.hid h151
  have H152:=Lib.hid h152
  have HA1:=Lib.hid hA1
  have HA2:=Lib.hid hA2
  have HC1:=Lib.hid hC1
  have HC2:=Lib.hid hC2
  have HT:=Lib.hid hT
  have HX:=Lib.hid ((H.newBk [.slice A1 n1 c1,.slice C1 n1 k1,.int .i64 (PI.mostN m:Int)] 101).newBk [.slice A2 n2 c2,.slice C2 n2 k2,.int .i64 (PI.mostN d:Int)] 101)
  clear hT hn hb hn1 hn2 h151 h152 hA1 hA2 hC1 hC2 H
  go_enter Tryd.func40,Tryd.ntmps40
  go_wp2_with fail
  replace HX:=HX.out
  have es:(World.alloc w (.cells #[.slice A1 n1 c1,.slice C1 n1 k1,.int .i64 (PI.mostN m:Int)] 101)).heap.size=w.heap.size+1:=Array.size_push _
  rw [es] at HX
  clear es
  generalize w.heap.size+1=g5 at HX ⊢
  generalize w.heap.size=g4 at HX ⊢
  generalize World.alloc (World.alloc w _) _=w1 at HX ⊢
  replace HX:Sp w0 (Sm g (.slice AA n c) at_ out most bl 0::Bk g4 101 [.slice A1 n1 c1,.slice C1 n1 k1,.int .i64 (PI.mostN m:Int)]::Bk g5 101 [.slice A2 n2 c2,.slice C2 n2 k2,.int .i64 (PI.mostN d:Int)]::L) w1:=HX.pick 3 [2,1,0]
  replace HX:=Lib.hid HX
  go_loopw [] (fun wr=>(∃(a f:Nat) (o:List UInt8),a<=8 * n/\o.length<=most/\Hid (8 * n<a+f/\PI.pressed (PBits.ofB B) most m d f a o=T)/\Sp w0 (Sm g (.slice AA n c) a o most bl 0::Bk g4 101 [.slice A1 n1 c1,.slice C1 n1 k1,.int .i64 (PI.mostN m:Int)]::Bk g5 101 [.slice A2 n2 c2,.slice C2 n2 k2,.int .i64 (PI.mostN d:Int)]::L) wr)∨(∃(er a:Nat) (o:List UInt8),er≠0/\Hid (T=.error er)/\Sp w0 (Sm g (.slice AA n c) a o most bl er::Bk g4 101 [.slice A1 n1 c1,.slice C1 n1 k1,.int .i64 (PI.mostN m:Int)]::Bk g5 101 [.slice A2 n2 c2,.slice C2 n2 k2,.int .i64 (PI.mostN d:Int)]::L) wr)) (fun wr=>vMeas g n wr)
  case atStart=>exact .inl ⟨at_,8 * n+1,out,hat,ho,Lib.hid ⟨by omega,HT.out⟩,HX.out⟩
  case round =>
    clear HX HT hat ho
    rcases hrel with ⟨a,f,o,hat,ho,HF,H1⟩ | ⟨er,a,o,her,HTE,H1⟩
    · have hms:=vMeas_live (n:=n) H1
      have HMS:=Lib.hid hms
      obtain⟨OA,oc,H2,hoc1,hoc2⟩:=sm_open H1
      obtain⟨ol,hol⟩:∃q,o.length=q:=⟨_,rfl⟩
      rw [hol] at H2 hoc1 ho
      have HOL:=Lib.hid hol
      obtain⟨ST,hST⟩:∃q,PI.stepP (PBits.ofB B) most m d a o=q:=⟨_,rfl⟩
      have HST:=Lib.hid hST
      have HNX:Hid (T=ST.bind fun r=>if r.1 then .ok r.2 else PI.pressed (PBits.ofB B) most m d (f - 1) r.2.1 r.2.2):=Lib.hid (by
        have h:=HF.out
        obtain⟨f',rfl⟩:∃f',f=f'+1:=⟨f - 1,by omega⟩
        rw [<- h.2,PI.pressed_step,hST]
        rfl)
      have hf1:=HF.out.1
      have c5:wr.cell? ⟨g,5,none⟩=some (.int .i64 0):=H2.cell 0 rfl 5
      have d0:=H2.cell 2 rfl 0
      have d1:=H2.cell 2 rfl 1
      have d2:=H2.cell 2 rfl 2
      simp only [List.getElem?_cons_zero,List.getElem?_cons_succ] at d0 d1 d2
      have HS:=Lib.hid (vsign_ok g AA n c B a (.slice OA ol oc) most bl A1 n1 c1 m C1 k1 H2 HN.out hnm hat (fun w0 w h=>HB.out w0 w (h.pick 3 [])) HN1.out (by omega) H151.out (fun w0 w h=>by rw [cellsN_cast]; exact HA1.out w0 w (h.pick 3 [])) (fun w0 w h=>HC1.out w0 w (h.pick 3 [])))
      clear HF hol hST hms H1 H2
      go_wp2_with fail
      refine HS.out.mono ?_
      intro e9 w2 k9
      clear HS c5 d0 d1 d2
      cases hr:PI.sign (PBits.ofB B) m a with
      | error er =>
        obtain⟨her,a1,rfl,H3⟩:=DvEnd.bad hr k9
        have hTE:T=.error er:=by rw [HNX.out,<- HST.out,PI.stepP_err hr]; rfl
        have HTE:=Lib.hid hTE
        have HE:=Lib.hid her
        have HP:=Lib.hid (vput_dead g (.slice AA n c) a1 (.slice OA ol oc) most bl 0 er her H3)
        clear hTE hr k9 her H3
        go_wp2_with fail
        refine HP.out.mono ?_
        rintro _ w3 ⟨rfl,H4⟩
        have H5:Sp w0 (Sm g (.slice AA n c) a1 o most bl er::Bk g4 101 [.slice A1 n1 c1,.slice C1 n1 k1,.int .i64 (PI.mostN m:Int)]::Bk g5 101 [.slice A2 n2 c2,.slice C2 n2 k2,.int .i64 (PI.mostN d:Int)]::L) w3:=sm_shut (O:=.slice OA ol oc) (by rw [HOL.out]; exact H4)
        have HX:=Lib.hid H5
        clear HP H4 H5
        go_wp2_with fail
        go_roundw
        case rel=>exact .inr ⟨er,a1,o,HE.out,HTE,HX.out⟩
        case measure =>
          rw [vMeas_dead HE.out HX.out,HMS.out]
          omega
      | ok r =>
        obtain⟨a1,s⟩:=r
        obtain⟨rfl,H3⟩:=DvEnd.got hr k9
        have hs1:=PI.sign_lt hr
        have hap:=PI.sign_ok (by rw [PBits.ofB_length,<- HN.out]; exact hat) hr
        rw [PBits.ofB_length,<- HN.out] at hap
        rw [<- HN1.out] at hs1
        obtain⟨hap1,hap2⟩:=hap
        simp only at hs1 hap1 hap2 H3 ⊢
        by_cases h256:s=256
        · subst h256
          have hTE:T=.ok (a1,o):=by rw [HNX.out,<- HST.out,PI.stepP_end hr]; rfl
          have HTE:=Lib.hid hTE
          have HX:=Lib.hid H3
          clear hTE hr k9 H3
          go_wp2_with fail
          go_end0
          have h9:=HX.out
          rw [<- HOL.out] at h9
          exact DvOut.yes HTE.out ((sm_shut h9).pick 3 [0])
        by_cases hlt:s<256
        · have q1:((s:Int) == 256)=false:=by rw [beq_eq_false_iff_ne]; omega
          have q2:(s:Int)<256:=by omega
          have hxb:(UInt8.ofNat s).toNat=s:=by rw [UInt8.toNat_ofNat',Nat.mod_eq_of_lt (by omega)]
          have hsp:=PI.stepP_lit (most:=most) (d:=d) (out:=o) hr hlt
          rw [HST.out,HOL.out] at hsp
          by_cases hrm:ol<most
          · have HNX2:Hid (8 * n<a1+(f - 1)/\PI.pressed (PBits.ofB B) most m d (f - 1) a1 (o++[UInt8.ofNat s])=T):=Lib.hid ⟨by omega,by
              rw [HNX.out,hsp,if_neg (by omega)]; rfl⟩
            have H4:Sp w0 (Sm g (.slice AA n c) a1 o most bl 0::Bk g4 101 [.slice A1 n1 c1,.slice C1 n1 k1,.int .i64 (PI.mostN m:Int)]::Bk g5 101 [.slice A2 n2 c2,.slice C2 n2 k2,.int .i64 (PI.mostN d:Int)]::L) w2:=sm_shut (O:=.slice OA ol oc) (by rw [HOL.out]; exact H3)
            have HP:=vput_ok g (.slice AA n c) a1 o most bl (UInt8.ofNat s) (by rw [HOL.out]; exact hrm) (by omega) H4
            rw [hxb] at HP
            replace HP:=Lib.hid HP
            clear H3 H4 hxb hsp hr k9
            go_wp2_with fail
            refine HP.out.mono ?_
            rintro _ w3 ⟨rfl,H4⟩
            have HX:=Lib.hid H4
            clear HP H4
            go_wp2_with fail
            go_roundw
            case rel=>exact .inl ⟨a1,f - 1,o++[UInt8.ofNat s],hap2,by rw [List.length_append,HOL.out]; exact hrm,HNX2,HX.out⟩
            case measure =>
              rw [vMeas_live HX.out,HMS.out]
              omega
          · have hTE:T=.error 22:=by rw [HNX.out,hsp,if_pos (by omega)]; rfl
            have HTE:=Lib.hid hTE
            have HP:=Lib.hid (vput_full g (.slice AA n c) a1 OA ol oc most bl s (by omega) H3)
            clear H3 hxb hsp hr k9 hTE
            go_wp2_with fail
            refine HP.out.mono ?_
            rintro _ w3 ⟨rfl,H4⟩
            have H5:Sp w0 (Sm g (.slice AA n c) a1 o most bl 22::Bk g4 101 [.slice A1 n1 c1,.slice C1 n1 k1,.int .i64 (PI.mostN m:Int)]::Bk g5 101 [.slice A2 n2 c2,.slice C2 n2 k2,.int .i64 (PI.mostN d:Int)]::L) w3:=sm_shut (O:=.slice OA ol oc) (by rw [HOL.out]; exact H4)
            have HX:=Lib.hid H5
            clear HP H4 H5
            go_wp2_with fail
            go_roundw
            case rel=>exact .inr ⟨22,a1,o,by decide,HTE,HX.out⟩
            case measure =>
              rw [vMeas_dead (by decide) HX.out,HMS.out]
              omega
        · have q1:((s:Int) == 256)=false:=by rw [beq_eq_false_iff_ne]; omega
          have q2:¬ (s:Int)<256:=by omega
          have hsp:=PI.stepP_cpy (most:=most) (d:=d) (out:=o) hr (by omega)
          rw [HST.out,HOL.out] at hsp
          obtain⟨s2,hs2⟩:∃q,s - 257=q:=⟨_,rfl⟩
          rw [hs2] at hsp
          have HSP:=Lib.hid hsp
          have hs3:s2+257=s:=by omega
          have HLN:=vlength_ok g AA n c B a1 (.slice OA ol oc) most bl s2 H3 HN.out hnm hap2 (by omega) (fun w0 w h=>HB.out w0 w (h.pick 3 []))
          rw [hs3] at HLN
          replace HLN:=Lib.hid HLN
          clear hsp hr k9 H3 hs2 hs3
          go_wp2_with fail
          refine HLN.out.mono ?_
          intro e9 w3 k9
          clear HLN
          cases hr:PI.length (PBits.ofB B) s2 a1 with
          | error er =>
            obtain⟨her,a2,xl,hxl,rfl,H4⟩:=DvEndN.bad hr k9
            have hTE:T=.error er:=by rw [HNX.out,HSP.out,hr]; rfl
            have HTE:=Lib.hid hTE
            have HE:=Lib.hid her
            have c5:w3.cell? ⟨g,5,none⟩=some (.int .i64 (er:Int)):=H4.cell 0 rfl 5
            have ke:(((er:Nat):Int) != 0)=true:=by simp; omega
            have ke2:¬ ((er:Nat):Int)=0:=by omega
            have HX:=Lib.hid H4
            clear hTE hr k9 her H4
            go_wp2_with fail
            go_end0
            have h9:=HX.out
            rw [<- HOL.out] at h9
            exact DvOut.no HTE.out HE.out ((sm_shut h9).pick 3 [0])
          | ok r =>
            obtain⟨a2,nn⟩:=r
            obtain⟨rfl,H4⟩:=DvEndN.got hr k9
            have hap3:=PI.length_ok hr
            have hnn:=PI.length_le hr
            rw [PBits.ofB_length,<- HN.out] at hap3
            obtain⟨hap3,hap4⟩:=hap3
            have hap5:=hap4 hap2
            simp only at hap3 hap5 hnn H4 ⊢
            have HSP2:Hid (ST=(PI.sign (PBits.ofB B) d a2).bind fun t=>(PI.count (PBits.ofB B) PI.awayT t.2 t.1).bind fun k=>if ol<k.2 then .error 20 else if most - ol<nn then .error 22 else .ok (false,k.1,PI.copy k.2 nn o)):=Lib.hid (by rw [HSP.out,hr]; rfl)
            have c5:w3.cell? ⟨g,5,none⟩=some (.int .i64 0):=H4.cell 0 rfl 5
            have d0:=H4.cell 3 rfl 0
            have d1:=H4.cell 3 rfl 1
            have d2:=H4.cell 3 rfl 2
            simp only [List.getElem?_cons_zero,List.getElem?_cons_succ] at d0 d1 d2
            have HS:=Lib.hid (vsign_ok g AA n c B a2 (.slice OA ol oc) most bl A2 n2 c2 d C2 k2 H4 HN.out hnm hap5 (fun w0 w h=>HB.out w0 w (h.pick 3 [])) HN2.out (by omega) H152.out (fun w0 w h=>by rw [cellsN_cast]; exact HA2.out w0 w (h.pick 3 [])) (fun w0 w h=>HC2.out w0 w (h.pick 3 [])))
            clear HSP hr k9 H4 hap4
            go_upto_region 8 with (fail)
            go_cut [8] from 10 to 88 (fun s8 wx=>∃(bk a4 er:Nat),s8=.int .i64 (bk:Int)/\bk<=200000/\Hid ((er=0/\a<a4/\a4<=8 * n/\1<=bk/\ST=if ol<bk then .error 20 else if most - ol<nn then .error 22 else .ok (false,a4,PI.copy bk nn o))∨(er≠0/\ST=.error er))/\Sp w0 (SmB g (.slice AA n c) a4 (.slice OA ol oc) most bl er::Row 5 1 (.slice OA ol oc) ol (cells8 o)::Bk g4 101 [.slice A1 n1 c1,.slice C1 n1 k1,.int .i64 (PI.mostN m:Int)]::Bk g5 101 [.slice A2 n2 c2,.slice C2 n2 k2,.int .i64 (PI.mostN d:Int)]::L) wx)
            case first =>
              go_wp2_with fail
              refine HS.out.mono ?_
              intro e9 w4 k9
              clear HS c5 d0 d1 d2
              cases hr:PI.sign (PBits.ofB B) d a2 with
              | error er =>
                obtain⟨her,a3,rfl,H5⟩:=DvEnd.bad hr k9
                have HR:Hid (er≠0/\ST=.error er):=Lib.hid ⟨her,by rw [HSP2.out,hr]; rfl⟩
                have HD:=Lib.hid (vdistance_dead g (.slice AA n c) a3 (.slice OA ol oc) most bl er H5)
                clear hr k9 her H5
                go_wp2_with fail
                refine HD.out.mono ?_
                rintro _ w5 ⟨rfl,H6⟩
                go_wp2_with fail
                go_meet
                exact⟨1,a3,er,rfl,by decide,Lib.hid (.inr HR.out),H6⟩
              | ok r =>
                obtain⟨a3,t⟩:=r
                obtain⟨rfl,H5⟩:=DvEnd.got hr k9
                have ht1:=PI.sign_lt hr
                rw [<- HN2.out] at ht1
                have hap6:=PI.sign_ok (by rw [PBits.ofB_length,<- HN.out]; exact hap5) hr
                rw [PBits.ofB_length,<- HN.out] at hap6
                obtain⟨hap6,hap7⟩:=hap6
                simp only at ht1 hap6 hap7 H5 ⊢
                have HSP3:Hid (ST=(PI.count (PBits.ofB B) PI.awayT t a3).bind fun k=>if ol<k.2 then .error 20 else if most - ol<nn then .error 22 else .ok (false,k.1,PI.copy k.2 nn o)):=Lib.hid (by rw [HSP2.out,hr]; rfl)
                have HD:=Lib.hid (vdistance_ok g AA n c B a3 (.slice OA ol oc) most bl t H5 HN.out hnm hap7 (by omega) (fun w0 w h=>HB.out w0 w (h.pick 3 [])))
                clear hr k9 H5 HSP2
                go_wp2_with fail
                refine HD.out.mono ?_
                intro e9 w5 k9
                clear HD
                cases hr:PI.count (PBits.ofB B) PI.awayT t a3 with
                | error er =>
                  obtain⟨her,a4,xd,hxd,rfl,H6⟩:=DvEndN.bad hr k9
                  have HR:Hid (er≠0/\ST=.error er):=Lib.hid ⟨her,by rw [HSP3.out,hr]; rfl⟩
                  clear hr k9 her
                  go_wp2_with fail
                  go_meet
                  exact⟨xd,a4,er,rfl,by omega,Lib.hid (.inr HR.out),H6⟩
                | ok r =>
                  obtain⟨a4,bk⟩:=r
                  obtain⟨rfl,H6⟩:=DvEndN.got hr k9
                  have hcf:=PI.count_far hr
                  have hap8:=PI.count_ok hr
                  rw [PBits.ofB_length,<- HN.out] at hap8
                  obtain⟨hap8,hap9⟩:=hap8
                  have hap10:=hap9 hap7
                  simp only at hcf hap8 hap10 H6 ⊢
                  have HR:Hid (ST=if ol<bk then .error 20 else if most - ol<nn then .error 22 else .ok (false,a4,PI.copy bk nn o)):=Lib.hid (by rw [HSP3.out,hr]; rfl)
                  clear hr k9 hap9
                  go_wp2_with fail
                  go_meet
                  exact⟨bk,a4,0,rfl,by omega,Lib.hid (.inl ⟨rfl,by omega,hap10,hcf.1,HR.out⟩),H6⟩
            case rest =>
              obtain⟨bk,a4,er,rfl,hbk,HR,H5⟩:=hcut
              clear HS c5 d0 d1 d2
              have cw2:wc.cell? ⟨g,2,none⟩=some (.slice OA ol oc):=H5.cell 0 rfl 2
              have HX:=Lib.hid H5
              clear H5 HSP2
              go_upto_if 45 with (fail)
              go_cut [8] from 10 to 88 (fun s8 wx=>s8=.int .i64 (bk:Int)/\∃er2,Hid ((er2=0/\a<a4/\a4<=8 * n/\1<=bk/\bk<=ol/\ST=if most - ol<nn then .error 22 else .ok (false,a4,PI.copy bk nn o))∨(er2≠0/\ST=.error er2))/\Sp w0 (SmB g (.slice AA n c) a4 (.slice OA ol oc) most bl er2::Row 5 1 (.slice OA ol oc) ol (cells8 o)::Bk g4 101 [.slice A1 n1 c1,.slice C1 n1 k1,.int .i64 (PI.mostN m:Int)]::Bk g5 101 [.slice A2 n2 c2,.slice C2 n2 k2,.int .i64 (PI.mostN d:Int)]::L) wx)
              case first =>
                by_cases hbo:ol<bk
                · have q3:(bk:Int) > (ol:Int):=by omega
                  obtain⟨e2,he2⟩:∃q,(if er=0 then 20 else er)=q:=⟨_,rfl⟩
                  have HFL:=vfail_any g a4 (.slice OA ol oc) most bl er 20 (.slice AA n c) HX.out
                  rw [he2] at HFL
                  replace HFL:=Lib.hid HFL
                  have HR2:Hid (e2≠0/\ST=.error e2):=Lib.hid (by
                    rw [<- he2]
                    rcases HR.out with ⟨h,_,_,_,h2⟩ | ⟨h,h2⟩
                    · rw [if_pos h]
                      exact⟨by decide,by rw [h2,if_pos hbo]⟩
                    · rw [if_neg h]; exact⟨h,h2⟩)
                  clear he2 HX
                  go_wp2_with fail
                  refine HFL.out.mono ?_
                  rintro _ w5 ⟨rfl,H6⟩
                  go_wp2_with fail
                  go_meet
                  exact⟨rfl,e2,Lib.hid (.inr HR2.out),H6⟩
                · have q3:¬ (bk:Int) > (ol:Int):=by omega
                  have HR2:Hid ((er=0/\a<a4/\a4<=8 * n/\1<=bk/\bk<=ol/\ST=if most - ol<nn then .error 22 else .ok (false,a4,PI.copy bk nn o))∨(er≠0/\ST=.error er)):=Lib.hid (by
                    rcases HR.out with ⟨h,h3,h4,h5,h2⟩ | h
                    · exact .inl ⟨h,h3,h4,h5,by omega,by rw [h2,if_neg hbo]⟩
                    · exact .inr h)
                  go_wp2_with fail
                  go_meet
                  exact⟨rfl,er,HR2,HX.out⟩
              case rest =>
                obtain⟨rfl,er2,HR2,H6⟩:=hcut
                clear HX HR cw2
                have HX:=Lib.hid H6
                have cw2:wc.cell? ⟨g,2,none⟩=some (.slice OA ol oc):=H6.cell 0 rfl 2
                have cw3:wc.cell? ⟨g,3,none⟩=some (.int .i64 (most:Int)):=H6.cell 0 rfl 3
                obtain⟨rm,hrm⟩:∃q,most - ol=q:=⟨_,rfl⟩
                have y3:(most:Int) - (ol:Int)=(rm:Int):=by omega
                clear H6
                go_wp2_with fail
                go_quiet (fail)
                have H6:=HX.out.drewN nq
                generalize wc.drewN nq=wq at H6 ⊢
                clear HX cw2 cw3
                by_cases hcap:rm<nn
                · have q4:(nn:Int) > (rm:Int):=by omega
                  obtain⟨e2,he2⟩:∃q,(if er2=0 then 22 else er2)=q:=⟨_,rfl⟩
                  have HFL:=vfail_any g a4 (.slice OA ol oc) most bl er2 22 (.slice AA n c) H6
                  rw [he2] at HFL
                  replace HFL:=Lib.hid HFL
                  have HR3:Hid (e2≠0/\T=.error e2):=Lib.hid (by
                    rw [<- he2]
                    rcases HR2.out with ⟨h,_,_,_,_,h2⟩ | ⟨h,h2⟩
                    · rw [if_pos h]
                      refine⟨by decide,?_⟩
                      rw [HNX.out,h2,if_pos (by rw [hrm]; exact hcap)]
                      rfl
                    · rw [if_neg h]
                      exact⟨h,by rw [HNX.out,h2]; rfl⟩)
                  clear he2 H6 hrm
                  go_wp2_with fail
                  refine HFL.out.mono ?_
                  rintro _ w5 ⟨rfl,H7⟩
                  have HX:=Lib.hid H7
                  clear H7 HFL
                  go_wp2_with fail
                  have he9:=HR3.out.1
                  go_loopw [9] (fun iv wr=>iv=.int .i64 0/\Sp w0 (SmB g (.slice AA n c) a4 (.slice OA ol oc) most bl e2::Row 5 1 (.slice OA ol oc) ol (cells8 o)::Bk g4 101 [.slice A1 n1 c1,.slice C1 n1 k1,.int .i64 (PI.mostN m:Int)]::Bk g5 101 [.slice A2 n2 c2,.slice C2 n2 k2,.int .i64 (PI.mostN d:Int)]::L) wr) (fun _ _=>0)
                  case atStart=>exact⟨rfl,HX.out⟩
                  case round =>
                    clear HX
                    obtain⟨rfl,H7⟩:=hrel
                    have c5:wr.cell? ⟨g,5,none⟩=some (.int .i64 (e2:Int)):=H7.cell 0 rfl 5
                    have k8:(((e2:Nat):Int) == 0)=false:=by rw [beq_eq_false_iff_ne]; omega
                    have k9:¬ ((e2:Nat):Int)=0:=by omega
                    have H8:Sp w0 (Sm g (.slice AA n c) a4 o most bl e2::Bk g4 101 [.slice A1 n1 c1,.slice C1 n1 k1,.int .i64 (PI.mostN m:Int)]::Bk g5 101 [.slice A2 n2 c2,.slice C2 n2 k2,.int .i64 (PI.mostN d:Int)]::L) wr:=sm_shut (O:=.slice OA ol oc) (by rw [HOL.out]; exact H7)
                    have HX:=Lib.hid H8
                    clear H7 H8
                    by_cases h0:0<nn
                    · have k4:(0:Int)<(nn:Int):=by omega
                      go_wp2_with fail
                      go_roundw
                      case rel=>exact .inr ⟨e2,a4,o,HR3.out.1,Lib.hid HR3.out.2,HX.out⟩
                      case measure =>
                        rw [vMeas_dead HR3.out.1 HX.out,HMS.out]
                        omega
                    · have k4:¬ (0:Int)<(nn:Int):=by omega
                      go_wp2_with fail
                      go_roundw
                      case rel=>exact .inr ⟨e2,a4,o,HR3.out.1,Lib.hid HR3.out.2,HX.out⟩
                      case measure =>
                        rw [vMeas_dead HR3.out.1 HX.out,HMS.out]
                        omega
                · have q4:¬ (nn:Int) > (rm:Int):=by omega
                  by_cases he2:er2=0
                  · subst he2
                    have HR4:Hid (a<a4/\a4<=8 * n/\1<=bk/\bk<=ol/\ST=.ok (false,a4,PI.copy bk nn o)):=Lib.hid (by
                      rcases HR2.out with ⟨_,h1,h2,h3,h4,h5⟩ | ⟨h,_⟩
                      · rw [if_neg (by rw [hrm]; exact hcap)] at h5
                        exact⟨h1,h2,h3,h4,h5⟩
                      · exact absurd rfl h)
                    obtain⟨ha1,ha2,hb1,hb2,_⟩:=HR4.out
                    have HNX3:Hid (8 * n<a4+(f - 1)/\PI.pressed (PBits.ofB B) most m d (f - 1) a4 (PI.copy bk nn o)=T):=Lib.hid ⟨by omega,by rw [HNX.out,HR4.out.2.2.2.2]; rfl⟩
                    have hrm2:nn<=most - ol:=by omega
                    have HRM2:=Lib.hid hrm2
                    have H7:Sp w0 (Sm g (.slice AA n c) a4 o most bl 0::Bk g4 101 [.slice A1 n1 c1,.slice C1 n1 k1,.int .i64 (PI.mostN m:Int)]::Bk g5 101 [.slice A2 n2 c2,.slice C2 n2 k2,.int .i64 (PI.mostN d:Int)]::L) wq:=sm_shut (O:=.slice OA ol oc) (by rw [HOL.out]; exact H6)
                    have HX:=Lib.hid H7
                    have hnl:nn+ol<=most:=by omega
                    clear H6 H7 hrm HR2 HR4 HNX hcap
                    go_wp2_with fail
                    go_loopw [9] (fun iv wr=>∃i:Nat,iv=.int .i64 (i:Int)/\i<=nn/\Sp w0 (Sm g (.slice AA n c) a4 (PI.copy bk i o) most bl 0::Bk g4 101 [.slice A1 n1 c1,.slice C1 n1 k1,.int .i64 (PI.mostN m:Int)]::Bk g5 101 [.slice A2 n2 c2,.slice C2 n2 k2,.int .i64 (PI.mostN d:Int)]::L) wr) (fun iv _=>nn - (intOf iv).toNat)
                    case atStart=>exact⟨0,rfl,Nat.zero_le _,HX.out⟩
                    case round =>
                      clear HX
                      obtain⟨i,rfl,hin,H7⟩:=hrel
                      by_cases hlt3:i<nn
                      · have q5:(i:Int)<(nn:Int):=by omega
                        have hcl:=PI.copy_len bk i o
                        have hcs:=PI.copy_succ bk i o
                        obtain⟨oi,hoi⟩:∃q,PI.copy bk i o=q:=⟨_,rfl⟩
                        rw [hoi] at hcl hcs H7
                        obtain⟨om,hom⟩:∃q,oi.length=q:=⟨_,rfl⟩
                        obtain⟨OB,od,H8,hod1,hod2⟩:=sm_open H7
                        rw [hom,HOL.out] at hcl
                        rw [hom] at H8 hcs hod1
                        have hom1:bk<=om:=by omega
                        have hroom2:om<most:=by omega
                        obtain⟨oad,rfl⟩:=slice_of H8 1 rfl (by omega) (by rw [cells8,List.length_map]; exact hom)
                        obtain⟨jj,hjj⟩:∃q,om - bk=q:=⟨_,rfl⟩
                        rw [hjj] at hcs
                        have y5:(om:Int) - (bk:Int)=(jj:Int):=by omega
                        have q6:(jj:Int)<(om:Int):=by omega
                        obtain⟨gb,hgb⟩:∃q,oi.getD jj 0=q:=⟨_,rfl⟩
                        rw [hgb] at hcs
                        have HGB:Hid (∀w,Rd w (some oad) (cells8 oi)->w.cell? (oad.add jj)=some (.int .u8 (gb.toNat:Int))):=Lib.hid fun w h=>by
                          obtain⟨ad2,e2,hc2⟩:=h.at8 (k:=jj) (by omega)
                          injection e2 with e2
                          subst e2
                          rw [hc2,<- hgb,List.getD_eq_getElem?_getD,List.getElem?_eq_getElem (by omega)]
                          rfl
                        have HCP:=Lib.hid hcs
                        have HOM:=Lib.hid hom
                        have c5:wr.cell? ⟨g,5,none⟩=some (.int .i64 0):=H8.cell 0 rfl 5
                        obtain⟨oc2,hoc⟩:∃q,od=q:=⟨_,rfl⟩
                        have HX:=Lib.hid H8
                        clear H7 H8 hcl hcs hom hjj hgb hoc hoi oc2
                        go_upto_region 16 with (fail)
                        refine wp_region_sc (L:=Bk g4 101 [.slice A1 n1 c1,.slice C1 n1 k1,.int .i64 (PI.mostN m:Int)]::Bk g5 101 [.slice A2 n2 c2,.slice C2 n2 k2,.int .i64 (PI.mostN d:Int)]::L) [some (.pointer (some ⟨g,0,none⟩)),some (.pointer (some ⟨g,0,none⟩)),some (.pointer (some ⟨g,0,none⟩)),some (.pointer (some ⟨g,2,none⟩)),some (.slice (some oad) om od),some (.pointer (some ⟨g,0,none⟩)),some (.pointer (some ⟨g,0,none⟩)),some (.pointer (some ⟨g,2,none⟩)),some (.slice (some oad) om od),some (.int .i64 (om:Int)),some (.int .i64 (bk:Int)),some (.int .i64 (jj:Int)),some (.pointer (some (oad.add jj))),some (.int .u8 (gb.toNat:Int)),some (.tuple #[])] (fun _ _=>True) (fun ix vx=>match ix with | 14=>(fun _=>[Sm g (.slice AA n c) a4 (oi++[gb]) most bl 0]) vx | _=>[]) (fun ix=>match ix with | 14=>[SmB g (.slice AA n c) a4 (.slice (some oad) om od) most bl 0,Row 5 1 (.slice (some oad) om od) om (cells8 oi)] | _=>[]) 15 89
                          [some 74,some 75,some 76,some 77,some 78,some 79,some 80,some 81,some 82,some 83,some 84,some 85,some 86,some 87,some 88]
                          [[],[],[1],[2],[3],[],[5],[6],[7],[8],[],[9,10],[4,11],[12],[0,13]]
                          [[],[],[1],[1,2],[1,2,3],[],[5],[5,6],[5,6,7],[5,6,7,8],[],[5,6,7,8,9,10],[1,2,3,4,5,6,7,8,9,10,11],[1,2,3,4,5,6,7,8,9,10,11,12],[0,1,2,3,4,5,6,7,8,9,10,11,12,13]]
                          [[],[],[],[],[],[],[],[],[],[],[],[],[],[],[]] [[],[],[],[],[14],[],[],[],[14],[],[],[],[],[14],[]] [(0,.pointer (some ⟨g,0,none⟩)),(8,.int .i64 (bk:Int))]
                          (by kernel_rfl) rfl (by decide) (by rfl) (by decide +kernel) rfl rfl (by simp) (HX.out) ?hstep ?hend
                        case hstep =>
                          refine⟨?p0,⟨?p1,⟨?p2,⟨?p3,⟨?p4,⟨?p5,⟨?p6,⟨?p7,⟨?p8,⟨?p9,⟨?p10,⟨?p11,⟨?p12,⟨?p13,⟨?p14,trivial⟩⟩⟩⟩⟩⟩⟩⟩⟩⟩⟩⟩⟩⟩⟩
                          case p0 | p1 | p2 | p3 | p5 | p6 | p7 | p9 | p10 =>
                            intro x wx A rest hDf hF hS hE H K hK
                            replace hK:=Lib.hid hK
                            clear hS hE hDf
                            repeat (obtain⟨_,hF⟩:=hF)
                            change Oper.wp _ _ A wx K _
                            go_step
                            exact hK.out _ _ rfl H
                          case p4 =>
                            intro x wx A rest hDf hF hS hE H K hK0
                            replace hDf:=Lib.hid hDf
                            have e77:A.tmps[77]?.getD undef=.pointer (some ⟨g,2,none⟩):=((hS 3 (by decide)).2 77 rfl).trans (hS 3 (by decide)).1
                            replace H:Sp w0 ((SmB g (.slice AA n c) a4 (.slice (some oad) om od) most bl 0)::(Row 5 1 (.slice (some oad) om od) om (cells8 oi))::rest) wx:=H
                            have hK:Hid (∀(v:Value) (w' : World),(v=.slice (some oad) om od)->Sp w0 ((SmB g (.slice AA n c) a4 (.slice (some oad) om od) most bl 0)::(Row 5 1 (.slice (some oad) om od) om (cells8 oi))::rest) w'->K (A.put (some 78) v) w'):=Lib.hid hK0
                            clear hK0 hF hS
                            have c9:wx.cell? ⟨g,2,none⟩=some (.slice (some oad) om od):=H.cell 0 rfl 2
                            change Oper.wp _ _ A wx K _
                            go_step
                            exact hK.out _ _ rfl (H)
                          case p8 =>
                            intro x wx A rest hDf hF hS hE H K hK0
                            replace hDf:=Lib.hid hDf
                            have e81:A.tmps[81]?.getD undef=.pointer (some ⟨g,2,none⟩):=((hS 7 (by decide)).2 81 rfl).trans (hS 7 (by decide)).1
                            replace H:Sp w0 ((SmB g (.slice AA n c) a4 (.slice (some oad) om od) most bl 0)::(Row 5 1 (.slice (some oad) om od) om (cells8 oi))::rest) wx:=H
                            have hK:Hid (∀(v:Value) (w' : World),(v=.slice (some oad) om od)->Sp w0 ((SmB g (.slice AA n c) a4 (.slice (some oad) om od) most bl 0)::(Row 5 1 (.slice (some oad) om od) om (cells8 oi))::rest) w'->K (A.put (some 82) v) w'):=Lib.hid hK0
                            clear hK0 hF hS
                            have c9:wx.cell? ⟨g,2,none⟩=some (.slice (some oad) om od):=H.cell 0 rfl 2
                            change Oper.wp _ _ A wx K _
                            go_step
                            exact hK.out _ _ rfl (H)
                          case p11 =>
                            intro x wx A rest hDf hF hS hE H K hK0
                            replace hDf:=Lib.hid hDf
                            have e83:A.tmps[83]?.getD undef=.int .i64 (om:Int):=((hS 9 (by decide)).2 83 rfl).trans (hS 9 (by decide)).1
                            have e84:A.tmps[84]?.getD undef=.int .i64 (bk:Int):=((hS 10 (by decide)).2 84 rfl).trans (hS 10 (by decide)).1
                            replace H:Sp w0 (rest) wx:=H
                            have hK:Hid (∀(v:Value) (w' : World),(v=.int .i64 (jj:Int))->Sp w0 (rest) w'->K (A.put (some 85) v) w'):=Lib.hid hK0
                            clear hK0 hF hS
                            change Oper.wp _ _ A wx K _
                            go_step
                            exact hK.out _ _ rfl (H)
                          case p12 =>
                            intro x wx A rest hDf hF hS hE H K hK0
                            replace hDf:=Lib.hid hDf
                            have e78:A.tmps[78]?.getD undef=.slice (some oad) om od:=((hS 4 (by decide)).2 78 rfl).trans (hS 4 (by decide)).1
                            have e85:A.tmps[85]?.getD undef=.int .i64 (jj:Int):=((hS 11 (by decide)).2 85 rfl).trans (hS 11 (by decide)).1
                            replace H:Sp w0 (rest) wx:=H
                            have hK:Hid (∀(v:Value) (w' : World),(v=.pointer (some (oad.add jj)))->Sp w0 (rest) w'->K (A.put (some 86) v) w'):=Lib.hid hK0
                            clear hK0 hF hS
                            change Oper.wp _ _ A wx K _
                            go_step
                            exact hK.out _ _ rfl (H)
                          case p13 =>
                            intro x wx A rest hDf hF hS hE H K hK0
                            replace hDf:=Lib.hid hDf
                            have e86:A.tmps[86]?.getD undef=.pointer (some (oad.add jj)):=((hS 12 (by decide)).2 86 rfl).trans (hS 12 (by decide)).1
                            replace H:Sp w0 ((SmB g (.slice AA n c) a4 (.slice (some oad) om od) most bl 0)::(Row 5 1 (.slice (some oad) om od) om (cells8 oi))::rest) wx:=H
                            have hK:Hid (∀(v:Value) (w' : World),(v=.int .u8 (gb.toNat:Int))->Sp w0 ((SmB g (.slice AA n c) a4 (.slice (some oad) om od) most bl 0)::(Row 5 1 (.slice (some oad) om od) om (cells8 oi))::rest) w'->K (A.put (some 87) v) w'):=Lib.hid hK0
                            clear hK0 hF hS
                            have c9:wx.cell? (oad.add jj)=some (.int .u8 (gb.toNat:Int)):=HGB.out _ (row_ent 1 rfl _ _ H)
                            change Oper.wp _ _ A wx K _
                            go_step
                            exact hK.out _ _ rfl (H)
                          case p14 =>
                            intro x wx A rest hDf hF hS hE H K hK0
                            replace hDf:=Lib.hid hDf
                            have e74:A.tmps[74]?.getD undef=.pointer (some ⟨g,0,none⟩):=((hS 0 (by decide)).2 74 rfl).trans (hS 0 (by decide)).1
                            have e87:A.tmps[87]?.getD undef=.int .u8 (gb.toNat:Int):=((hS 13 (by decide)).2 87 rfl).trans (hS 13 (by decide)).1
                            replace H:Sp w0 ((SmB g (.slice AA n c) a4 (.slice (some oad) om od) most bl 0)::(Row 5 1 (.slice (some oad) om od) om (cells8 oi))::rest) wx:=H
                            have hK:Hid (∀(v:Value) (w' : World),(v=.tuple #[])->Sp w0 ((Sm g (.slice AA n c) a4 (oi++[gb]) most bl 0)::rest) w'->K (A.put (some 88) v) w'):=Lib.hid hK0
                            clear hK0 hF hS
                            have HZ:=Lib.hid (sm_shut (out:=oi) (O:=.slice (some oad) om od) (by rw [HOM.out]; exact H))
                            clear hE H
                            change Oper.wp _ _ A wx K _
                            go_wp2_with fail
                            refine(vput_ok g (.slice AA n c) a4 oi most bl gb (by rw [HOM.out]; exact hroom2) (by omega) HZ.out).mono ?_
                            rintro _ w9 ⟨rfl,H9⟩
                            exact hK.out _ _ rfl H9
                        case hend =>
                          intro x wx A hA hS H
                          replace H:Sp w0 ((Sm g (.slice AA n c) a4 (oi++[gb]) most bl 0)::Bk g4 101 [.slice A1 n1 c1,.slice C1 n1 k1,.int .i64 (PI.mostN m:Int)]::Bk g5 101 [.slice A2 n2 c2,.slice C2 n2 k2,.int .i64 (PI.mostN d:Int)]::L) wx:=H
                          clear hS
                          simp only [putAll,Act.put,List.setIfInBounds_toArray,List.set_cons_succ,List.set_cons_zero,Nat.reduceAdd] at hA
                          subst hA
                          have HX9:=Lib.hid H
                          clear H HX
                          go_wp2_with fail
                          go_roundw
                          case rel =>
                            refine⟨i+1,by go_num,by omega,?_⟩
                            rw [HCP.out]
                            exact HX9.out
                          case measure=>first | (simp [intOf]; omega) | simp [intOf]
                      · have q5:¬ (i:Int)<(nn:Int):=by omega
                        obtain rfl:i=nn:=by omega
                        have HX:=Lib.hid H7
                        clear H7
                        go_wp2_with fail
                        go_roundw
                        case rel=>exact .inl ⟨a4,f - 1,PI.copy bk i o,ha2,by rw [PI.copy_len,HOL.out]; omega,HNX3,HX.out⟩
                        case measure =>
                          rw [vMeas_live HX.out,HMS.out]
                          omega
                  · have HR3:Hid (er2≠0/\T=.error er2):=Lib.hid (by
                      rcases HR2.out with ⟨h,_⟩ | ⟨h,h2⟩
                      · exact absurd h he2
                      · exact⟨h,by rw [HNX.out,h2]; rfl⟩)
                    have HX:=Lib.hid H6
                    clear H6 hrm HR2
                    go_wp2_with fail
                    have he9:=HR3.out.1
                    go_loopw [9] (fun iv wr=>iv=.int .i64 0/\Sp w0 (SmB g (.slice AA n c) a4 (.slice OA ol oc) most bl er2::Row 5 1 (.slice OA ol oc) ol (cells8 o)::Bk g4 101 [.slice A1 n1 c1,.slice C1 n1 k1,.int .i64 (PI.mostN m:Int)]::Bk g5 101 [.slice A2 n2 c2,.slice C2 n2 k2,.int .i64 (PI.mostN d:Int)]::L) wr) (fun _ _=>0)
                    case atStart=>exact⟨rfl,HX.out⟩
                    case round =>
                      clear HX
                      obtain⟨rfl,H7⟩:=hrel
                      have c5:wr.cell? ⟨g,5,none⟩=some (.int .i64 (er2:Int)):=H7.cell 0 rfl 5
                      have k8:(((er2:Nat):Int) == 0)=false:=by rw [beq_eq_false_iff_ne]; omega
                      have k9:¬ ((er2:Nat):Int)=0:=by omega
                      have H8:Sp w0 (Sm g (.slice AA n c) a4 o most bl er2::Bk g4 101 [.slice A1 n1 c1,.slice C1 n1 k1,.int .i64 (PI.mostN m:Int)]::Bk g5 101 [.slice A2 n2 c2,.slice C2 n2 k2,.int .i64 (PI.mostN d:Int)]::L) wr:=sm_shut (O:=.slice OA ol oc) (by rw [HOL.out]; exact H7)
                      have HX:=Lib.hid H8
                      clear H7 H8
                      by_cases h0:0<nn
                      · have k4:(0:Int)<(nn:Int):=by omega
                        go_wp2_with fail
                        go_roundw
                        case rel=>exact .inr ⟨er2,a4,o,HR3.out.1,Lib.hid HR3.out.2,HX.out⟩
                        case measure =>
                          rw [vMeas_dead HR3.out.1 HX.out,HMS.out]
                          omega
                      · have k4:¬ (0:Int)<(nn:Int):=by omega
                        go_wp2_with fail
                        go_roundw
                        case rel=>exact .inr ⟨er2,a4,o,HR3.out.1,Lib.hid HR3.out.2,HX.out⟩
                        case measure =>
                          rw [vMeas_dead HR3.out.1 HX.out,HMS.out]
                          omega
    · obtain⟨OA,oc,H2,hoc1,hoc2⟩:=sm_open H1
      have c5:wr.cell? ⟨g,5,none⟩=some (.int .i64 (er:Int)):=H2.cell 0 rfl 5
      have ke:(((er:Nat):Int) == 0)=false:=by rw [beq_eq_false_iff_ne]; omega
      have ke2:¬ ((er:Nat):Int)=0:=by omega
      have HX:=Lib.hid (sm_shut H2)
      have HE:=Lib.hid her
      clear H1 H2 her
      go_wp2_with fail
      go_end0
      exact DvOut.no HTE.out HE.out (HX.out.pick 3 [0])
end Go.Proofs.YteajimobgkempaaDoor

