/- A pack of texts: DefSg. -/
import Derived.ChangeKeysEq
import Derived.Test.YtloijdbkikccgaaDoorPk26
namespace Go.Proofs.YtloijdbkikccgaaDoor
set_option linter.unusedVariables false
set_option linter.unusedSimpArgs false
open Go.RowKit
set_option maxRecDepth 100000 in
theorem arr3_in (m:Nat) (w:World) (a b c d e f:Int):(Op.equalIn (m+1+1) 43 (.agg #[.int .i64 a,.int .i64 b,.int .i64 c]) (.agg #[.int .i64 d,.int .i64 e,.int .i64 f])).run Tryd.prog w=.ok (a == d && (b == e && c == f)) w:=by
 have u1:=Tryd.underlying43
 have u2:=Tryd.underlying3
 have hp:Tryd.prog.plainKey 3=true:=by kernel_rfl
 obtain⟨i,hi⟩:∃i,Tryd.prog.info? 3=some i:=⟨_,rfl⟩
 have hc:Tryd.prog.cellsOf 3=1:=by kernel_rfl
 have k:∀x y:Int,(Op.equalIn (m+1) 3 (.int .i64 x) (.int .i64 y)).run Tryd.prog w=.ok (x == y) w:=fun x y=>by simp [Op.equalIn,run_underlying u2]
 have p:=fun(x y z:Int)=>And.intro (run_part_plain (P:=Tryd.prog) (w:=w) hp (xs:=#[.int .i64 x,.int .i64 y,.int .i64 z]) (off:=0) rfl) (And.intro (run_part_plain (P:=Tryd.prog) (w:=w) hp (xs:=#[.int .i64 x,.int .i64 y,.int .i64 z]) (off:=1) rfl) (run_part_plain (P:=Tryd.prog) (w:=w) hp (xs:=#[.int .i64 x,.int .i64 y,.int .i64 z]) (off:=2) rfl))
 rw [Op.equalIn]
 simp only [Sem.run_bind,run_underlying u1,Result.andThen_ok,run_sizeOf (P:=Tryd.prog) w hi,hc]
 have e3:List.range' 0 3 1=[0,1,2]:=rfl
 simp only [Std.Legacy.Range.forIn_eq_forIn_range',Std.Legacy.Range.size,Nat.sub_zero,Nat.add_sub_cancel,Nat.div_one,Nat.mul_one]
 simp only [show(3+1 - 1)=3 from rfl,e3,List.forIn_cons,List.forIn_nil,Sem.run_bind,(p a b c).1,(p a b c).2.1,(p a b c).2.2,(p d e f).1,(p d e f).2.1,(p d e f).2.2,Result.andThen_ok]
 have q0:(#[Value.int .i64 a,.int .i64 b,.int .i64 c])[0]=.int .i64 a:=rfl
 simp only [List.getElem_toArray,List.getElem_cons_zero,List.getElem_cons_succ,k,Result.andThen_ok]
 by_cases h1:a=d <;> by_cases h2:b=e <;> by_cases h3:c=f <;> simp [h1,h2,h3,go_sem]
theorem arr3_eql (w:World) (a b c d e f:Int):(binOp .eql 43 (.agg #[.int .i64 a,.int .i64 b,.int .i64 c]) (.agg #[.int .i64 d,.int .i64 e,.int .i64 f])).run Tryd.prog w=.ok (.bool (a == d && (b == e && c == f))) w:=by
 have h:=arr3_in 9998 w a b c d e f
 rw [show(9998+1+1:Nat)=10000 from rfl] at h
 simp only [binOp]
 simp [Op.equal,Op.maxDepth,h]
theorem arr3_guard (w:World) (x y:Operand) (xs ys:Array Value):(eqGuard .eql 43 x y (.agg xs) (.agg ys)).run Tryd.prog w=.ok () w:=by
 have hm:Tryd.prog.eqGuardType Tryd.prog.depth 43=false:=by kernel_rfl
 simp [eqGuard,run_program,hm]
theorem wrap_pow (b:Nat) (h:b<=13):wrap64 ((2:Int) ^ b)=((2 ^ b:Nat):Int):=by
 have:∀b,b<14->wrap64 ((2:Int) ^ b)=((2 ^ b:Nat):Int):=by decide +kernel
 exact this b (by omega)
set_option maxRecDepth 100000 in
set_option maxHeartbeats 16000000 in
theorem dsigns_eq (n:Int) (TL TF:Option Addr) (cl cf:Nat) {w0 w:World} {L:List Pr} (H:Sp w0 L w) (hT:Ent L (DTabs TL TF cl cf)) :
  Calls Tryd.prog 5 #[.int .i64 n,.int .i64 n] w fun e w'=>e=.returned (.bool true)/\Sp w0 L w':=by
 have hi0:∀(a b:Value) (w:World),(Instr.index 41 (.agg #[a,b]) (.int .i64 0)).run Tryd.prog w=.ok a w:=fun _ _ _=>rfl
 have hi1:∀(a b:Value) (w:World),(Instr.index 41 (.agg #[a,b]) (.int .i64 1)).run Tryd.prog w=.ok b w:=fun _ _ _=>rfl
 have heq:=arr3_eql
 have hgd:=arr3_guard
 have u5:¬ n<n:=by omega
 have HT:=Lib.hid hT
 have HX:=Lib.hid H
 clear hT H
 go_enter Tryd.func5,Tryd.ntmps5
 go_wp2_with fail
 go_loopw [22] (fun kv wr=>(kv=.int .i64 0∨kv=.int .i64 1∨kv=.int .i64 2)/\Sp w0 L wr) (fun kv _=>2 - (intOf kv).toNat)
 case atStart=>exact⟨.inl rfl,HX.out⟩
 case round =>
  obtain⟨hk,H1⟩:=hrel
  clear HX
  rcases hk with rfl | rfl | rfl
  ·obtain⟨⟨a,b,c⟩,habc⟩:∃p,PD.longI n=p:=⟨_,rfl⟩
   obtain⟨⟨d,e,f⟩,hdef⟩:∃p,PD.longI n=p:=⟨_,rfl⟩
   have hA:=dlong_ok n H1 HT.out
   rw [habc] at hA
   have HA:=Lib.hid hA
   have g1:=PD.long_sg.bits n
   have g2:=PD.long_sg.more n
   have g5:=PD.long_sg.none n
   rw [habc] at g1 g2 g5
   simp only at g1 g2 g5
   clear hA H1
   go_wp2_with fail
   refine HA.out.mono ?_
   rintro _ w2 ⟨rfl,H2⟩
   have hB:=dlong_ok n H2 HT.out
   rw [hdef] at hB
   have HB:=Lib.hid hB
   clear HA hB H2
   go_wp2_with fail
   refine HB.out.mono ?_
   rintro _ w3 ⟨rfl,H3⟩
   have HX3:=Lib.hid H3
   clear HB H3 habc hdef
   have u1:¬ (b:Int)<0:=by omega
   have u2:¬ (b:Int) > 13:=by omega
   have u3:¬ (c:Int)<0:=by omega
   have u4:¬ wrap64 (2 ^ b)<=(c:Int):=by rw [wrap_pow b g1]; omega
   clear g1 g2 g5
   go_wp2_with fail
   all_goals exact⟨⟨.inr (.inl rfl),HX3.out⟩,by simp [intOf]⟩
  ·obtain⟨⟨a,b,c⟩,habc⟩:∃p,PD.farI n=p:=⟨_,rfl⟩
   obtain⟨⟨d,e,f⟩,hdef⟩:∃p,PD.farI n=p:=⟨_,rfl⟩
   have hA:=dfar_ok n H1 HT.out
   rw [habc] at hA
   have HA:=Lib.hid hA
   have g1:=PD.far_sg.bits n
   have g2:=PD.far_sg.more n
   have g5:=PD.far_sg.none n
   rw [habc] at g1 g2 g5
   simp only at g1 g2 g5
   clear hA H1
   go_wp2_with fail
   refine HA.out.mono ?_
   rintro _ w2 ⟨rfl,H2⟩
   have hB:=dfar_ok n H2 HT.out
   rw [hdef] at hB
   have HB:=Lib.hid hB
   clear HA hB H2
   go_wp2_with fail
   refine HB.out.mono ?_
   rintro _ w3 ⟨rfl,H3⟩
   have HX3:=Lib.hid H3
   clear HB H3 habc hdef
   have u1:¬ (b:Int)<0:=by omega
   have u2:¬ (b:Int) > 13:=by omega
   have u3:¬ (c:Int)<0:=by omega
   have u4:¬ wrap64 (2 ^ b)<=(c:Int):=by rw [wrap_pow b g1]; omega
   clear g1 g2 g5
   go_wp2_with fail
   all_goals exact⟨⟨.inr (.inr rfl),HX3.out⟩,by simp [intOf]⟩
  ·have hA:=dlong_ok n H1 HT.out
   have hr1:∀h:3<=n/\n<=258,257<=(PD.longI n).1/\(PD.longI n).1<=285:=fun h=>⟨(PD.long_range h.1 h.2).1,(PD.long_range h.1 h.2).2.1⟩
   have hr2:¬ (3<=n/\n<=258)->PD.longI n=(0,0,0):=PD.longI_no
   have hr3:(PD.farI n).1<=29:=by
    by_cases h:1<=n/\n<=32768
    ·exact(PD.far_range h.1 h.2).1
    ·rw [PD.farI_no h]; decide
   have hr4:¬ (1<=n/\n<=32768)->PD.farI n=(0,0,0):=PD.farI_no
   obtain⟨⟨a,b,c⟩,habc⟩:∃p,PD.longI n=p:=⟨_,rfl⟩
   obtain⟨⟨d,e,f⟩,hdef⟩:∃p,PD.farI n=p:=⟨_,rfl⟩
   rw [habc] at hA hr1 hr2
   rw [hdef] at hr3 hr4
   simp only [Prod.mk.injEq] at hr1 hr2 hr3 hr4
   have HA:=Lib.hid hA
   clear hA H1
   go_wp2_with fail
   refine HA.out.mono ?_
   rintro _ w2 ⟨rfl,H2⟩
   have hB:=dfar_ok n H2 HT.out
   rw [hdef] at hB
   have HB:=Lib.hid hB
   clear HA hB H2
   go_wp2_with fail
   refine HB.out.mono ?_
   rintro _ w3 ⟨rfl,H3⟩
   have HW:=Lib.hid (dtells_ok TL TF cl cf H3 HT.out)
   have u0:¬ (d:Int) > 29:=by omega
   clear HB H3 habc hdef
   by_cases h1:3<=n
   ·by_cases h2:n<=258
    ·have h3:1<=n:=by omega
     have h4:n<=32768:=by omega
     obtain⟨q1,q2⟩:=hr1 ⟨h1,h2⟩
     have u1:(257:Int)<=(a:Int):=by omega
     have u2:(a:Int)<=285:=by omega
     clear hr1 hr2 hr3 hr4
     go_wp2_with fail
     refine HW.out.mono ?_
     rintro _ w9 ⟨rfl,H9⟩
     go_wp2_with fail
     go_ret
     exact⟨rfl,H9⟩
    ·obtain⟨rfl,rfl,rfl⟩:=hr2 (by omega)
     have h3:1<=n:=by omega
     by_cases h4:n<=32768
     ·clear hr1 hr2 hr3 hr4
      go_wp2_with fail
      refine HW.out.mono ?_
      rintro _ w9 ⟨rfl,H9⟩
      go_wp2_with fail
      go_ret
      exact⟨rfl,H9⟩
     ·obtain⟨rfl,rfl,rfl⟩:=hr4 (by omega)
      clear hr1 hr2 hr3 hr4
      go_wp2_with fail
      refine HW.out.mono ?_
      rintro _ w9 ⟨rfl,H9⟩
      go_wp2_with fail
      go_ret
      exact⟨rfl,H9⟩
   ·obtain⟨rfl,rfl,rfl⟩:=hr2 (by omega)
    by_cases h3:1<=n
    ·have h4:n<=32768:=by omega
     clear hr1 hr2 hr3 hr4
     go_wp2_with fail
     refine HW.out.mono ?_
     rintro _ w9 ⟨rfl,H9⟩
     go_wp2_with fail
     go_ret
     exact⟨rfl,H9⟩
    ·obtain⟨rfl,rfl,rfl⟩:=hr4 (by omega)
     clear hr1 hr2 hr3 hr4
     go_wp2_with fail
     refine HW.out.mono ?_
     rintro _ w9 ⟨rfl,H9⟩
     go_wp2_with fail
     go_ret
     exact⟨rfl,H9⟩
end Go.Proofs.YtloijdbkikccgaaDoor

