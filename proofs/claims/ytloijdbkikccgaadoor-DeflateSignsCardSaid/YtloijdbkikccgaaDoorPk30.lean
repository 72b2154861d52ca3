/- A pack of texts: DefSgltc. -/
import Derived.Test.YtloijdbkikccgaaDoorPk27
namespace Go.Proofs.YtloijdbkikccgaaDoor
set_option linter.unusedVariables false
set_option linter.unusedSimpArgs false
open Go.RowKit
set_option maxRecDepth 100000 in
set_option maxHeartbeats 16000000 in
theorem dsigns_ltc (n m:Int) (hlt:n<m) (hc1:3<=n) (hc2:n<=258) (TL TF:Option Addr) (cl cf:Nat) {w0 w:World} {L:List Pr} (H:Sp w0 L w) (hT:Ent L (DTabs TL TF cl cf)) :
  Calls Tryd.prog 5 #[.int .i64 n,.int .i64 m] w fun e w'=>e=.returned (.bool true)/\Sp w0 L w':=by
 have hi0:∀(a b:Value) (w:World),(Instr.index 41 (.agg #[a,b]) (.int .i64 0)).run Tryd.prog w=.ok a w:=fun _ _ _=>rfl
 have hi1:∀(a b:Value) (w:World),(Instr.index 41 (.agg #[a,b]) (.int .i64 1)).run Tryd.prog w=.ok b w:=fun _ _ _=>rfl
 have heq:=arr3_eql
 have hgd:=arr3_guard
 have hnm:¬ n=m:=by omega
 have HT:=Lib.hid hT
 have HX:=Lib.hid H
 clear hT H
 go_enter Tryd.func5,Tryd.ntmps5
 go_wp2_with fail
 go_loopw [22] (fun kv wr=>(kv=.int .i64 0∨kv=.int .i64 1∨kv=.int .i64 2)/\Sp w0 L wr) (fun kv _=>2 - (intOf kv).toNat)
 case atStart=>exact⟨.inl rfl,HX.out⟩
 case round =>
  obtain⟨hk,H1⟩:=hrel
  clear HX
  rcases hk with rfl | rfl | rfl
  ·obtain⟨⟨a,b,c⟩,habc⟩:∃p,PD.longI n=p:=⟨_,rfl⟩
   obtain⟨⟨d,e,f⟩,hdef⟩:∃p,PD.longI m=p:=⟨_,rfl⟩
   have habc9:=habc
   have hA:=dlong_ok n H1 HT.out
   rw [habc] at hA
   have HA:=Lib.hid hA
   have g1:=PD.long_sg.bits n
   have g2:=PD.long_sg.more n
   have g3:=PD.long_sg.inj n m
   have g4:=PD.long_sg.mono n m
   have g5:=PD.long_sg.none n
   have g7:=PD.long_sg.sign n
   rw [habc] at g1 g2 g3 g4 g5 g7
   rw [hdef] at g3 g4
   simp only at g1 g2 g3 g4 g5 g7
   clear hA H1
   go_wp2_with fail
   refine HA.out.mono ?_
   rintro _ w2 ⟨rfl,H2⟩
   have hB:=dlong_ok m H2 HT.out
   rw [hdef] at hB
   have HB:=Lib.hid hB
   clear HA hB H2
   go_wp2_with fail
   refine HB.out.mono ?_
   rintro _ w3 ⟨rfl,H3⟩
   have HX3:=Lib.hid H3
   clear HB H3 habc hdef
   have v1:(n != m)=true:=by simp [hnm]
   have v2:(n == m)=false:=by simp [hnm]
   have ha:¬ a=0:=fun q=>by
    have:=(PD.long_range (x:=n) hc1 hc2).1
    rw [habc9] at this
    simp only at this
    omega
   have v3:((a:Int) == (d:Int) && ((b:Int) == (e:Int) && (c:Int) == (f:Int)))=false:=by
    rw [Bool.eq_false_iff]
    intro h
    simp only [Bool.and_eq_true,beq_iff_eq] at h
    exact ha (g3 hnm (by rw [show a=d by omega,show b=e by omega,show c=f by omega]))
   have v4:(b:Int)+(a:Int) > 0:=by omega
   have u1:¬ (b:Int)<0:=by omega
   have u2:¬ (b:Int) > 13:=by omega
   have u3:¬ (c:Int)<0:=by omega
   have u4:¬ wrap64 (2 ^ b)<=(c:Int):=by rw [wrap_pow b g1]; omega
   clear g1 g2 g5
   by_cases hd:0<d
   ·have g6:=g4 hlt hd
    have u6:¬ (d:Int)<(a:Int):=by omega
    clear g3 g4 ha g6
    go_wp2_with fail
    all_goals exact⟨⟨.inr (.inl rfl),HX3.out⟩,by simp [intOf]⟩
   ·obtain rfl:d=0:=by omega
    have u6:(0:Int)<(a:Int):=by omega
    clear g3 g4 ha hd
    go_wp2_with fail
    all_goals exact⟨⟨.inr (.inl rfl),HX3.out⟩,by simp [intOf]⟩
  ·obtain⟨⟨a,b,c⟩,habc⟩:∃p,PD.farI n=p:=⟨_,rfl⟩
   obtain⟨⟨d,e,f⟩,hdef⟩:∃p,PD.farI m=p:=⟨_,rfl⟩
   have hA:=dfar_ok n H1 HT.out
   rw [habc] at hA
   have HA:=Lib.hid hA
   have g1:=PD.far_sg.bits n
   have g2:=PD.far_sg.more n
   have g3:=PD.far_sg.inj n m
   have g4:=PD.far_sg.mono n m
   have g5:=PD.far_sg.none n
   have g7:=PD.far_sg.sign n
   rw [habc] at g1 g2 g3 g4 g5 g7
   rw [hdef] at g3 g4
   simp only at g1 g2 g3 g4 g5 g7
   clear hA H1
   go_wp2_with fail
   refine HA.out.mono ?_
   rintro _ w2 ⟨rfl,H2⟩
   have hB:=dfar_ok m H2 HT.out
   rw [hdef] at hB
   have HB:=Lib.hid hB
   clear HA hB H2
   go_wp2_with fail
   refine HB.out.mono ?_
   rintro _ w3 ⟨rfl,H3⟩
   have HX3:=Lib.hid H3
   clear HB H3 habc hdef
   have v1:(n != m)=true:=by simp [hnm]
   have v2:(n == m)=false:=by simp [hnm]
   by_cases ha:a=0
   ·obtain⟨rfl,rfl⟩:=g5 ha
    subst ha
    have w1:wrap64 ((2:Int) ^ 0)=1:=by decide +kernel
    have w3:wrap64 1=1:=by decide +kernel
    have w4:¬ (d:Int)<0:=by omega
    clear g1 g2 g3 g4 g5
    go_wp2_with fail
    all_goals exact⟨⟨.inr (.inr rfl),HX3.out⟩,by simp [intOf]⟩
   ·have v3:((a:Int) == (d:Int) && ((b:Int) == (e:Int) && (c:Int) == (f:Int)))=false:=by
     rw [Bool.eq_false_iff]
     intro h
     simp only [Bool.and_eq_true,beq_iff_eq] at h
     exact ha (g3 hnm (by rw [show a=d by omega,show b=e by omega,show c=f by omega]))
    have v4:(b:Int)+(a:Int) > 0:=by omega
    have u1:¬ (b:Int)<0:=by omega
    have u2:¬ (b:Int) > 13:=by omega
    have u3:¬ (c:Int)<0:=by omega
    have u4:¬ wrap64 (2 ^ b)<=(c:Int):=by rw [wrap_pow b g1]; omega
    clear g1 g2 g5
    by_cases hd:0<d
    ·have g6:=g4 hlt hd
     have u6:¬ (d:Int)<(a:Int):=by omega
     clear g3 g4 ha g6
     go_wp2_with fail
     all_goals exact⟨⟨.inr (.inr rfl),HX3.out⟩,by simp [intOf]⟩
    ·obtain rfl:d=0:=by omega
     have u6:(0:Int)<(a:Int):=by omega
     clear g3 g4 ha hd
     go_wp2_with fail
     all_goals exact⟨⟨.inr (.inr rfl),HX3.out⟩,by simp [intOf]⟩
  ·have hA:=dlong_ok n H1 HT.out
   have hB0:=fun(w2:World) (H2:Sp w0 L w2)=>dfar_ok n H2 HT.out
   have hr:=PD.long_range (x:=n) hc1 hc2
   have hf:=(PD.far_range (x:=n) (by omega) (by omega)).1
   obtain⟨⟨a,b,c⟩,habc⟩:∃p,PD.longI n=p:=⟨_,rfl⟩
   rw [habc] at hA hr
   simp only at hr
   obtain⟨⟨d,e,f⟩,hdef⟩:∃p,PD.farI n=p:=⟨_,rfl⟩
   simp only [hdef] at hB0 hf
   have HA:=Lib.hid hA
   have HB0:=Lib.hid hB0
   have u1:(257:Int)<=(a:Int):=by omega
   have u2:(a:Int)<=285:=by omega
   clear hr habc
   have u0:¬ (d:Int) > 29:=by omega
   clear hf hdef
   have k1:3<=n:=by omega
   have k2:n<=258:=by omega
   have k3:1<=n:=by omega
   have k4:n<=32768:=by omega
   clear hA hB0 H1
   go_wp2_with fail
   refine HA.out.mono ?_
   rintro _ w2 ⟨rfl,H2⟩
   have HB:=Lib.hid (HB0.out w2 H2)
   clear HA HB0 H2
   go_wp2_with fail
   refine HB.out.mono ?_
   rintro _ w3 ⟨rfl,H3⟩
   have HW:=Lib.hid (dtells_ok TL TF cl cf H3 HT.out)
   clear HB H3
   go_wp2_with fail
   refine HW.out.mono ?_
   rintro _ w9 ⟨rfl,H9⟩
   go_wp2_with fail
   go_ret
   exact⟨rfl,H9⟩
end Go.Proofs.YtloijdbkikccgaaDoor

