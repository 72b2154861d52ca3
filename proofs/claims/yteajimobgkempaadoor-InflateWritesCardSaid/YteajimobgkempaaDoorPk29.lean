/- A pack. -/
import Derived.Test.YteajimobgkempaaDoorPk20
import Derived.Test.YteajimobgkempaaDoorPk28
set_option linter.all false
set_option maxRecDepth 100000
set_option maxHeartbeats 8000000
namespace Go.Proofs.YteajimobgkempaaDoor
variable {w0 w:World} {L:List Pr}
open Go.RowKit
namespace PI
def dynEnd (ll:Nat) (r:Nat × List Nat):Except Nat (Nat × List Nat × List Nat):=if r.2.getD 256 0=0 then .error 20 else if book (r.2.take ll)=true then (if book (r.2.drop ll)=true then .ok (r.1,r.2.take ll,r.2.drop ll) else .error 20) else .error 20
def dynTail (B:List Bool) (ll dd:Nat) (f:Nat × List Nat):Except Nat (Nat × List Nat × List Nat):=if book f.2=true then (lens B f.2 (ll+dd) (ll+dd+1) f.1 []).bind (dynEnd ll) else .error 20
theorem dynamic_eq (B:List Bool) (a:Nat):dynamic B a=(number B a 5).bind fun l=>(number B l.1 5).bind fun d=>(number B d.1 4).bind fun c =>
  if 286<l.2+257∨30<d.2+1 then .error 20 else (firsts B (orderT.take (c.2+4)) c.1 (List.replicate 19 0)).bind (dynTail B (l.2+257) (d.2+1)):=rfl
end PI
def natV (v:Value):Nat:=(intOf v).toNat
def NumP (g:Nat) (V O:Value) (most:Nat) (bl:Value) (T:Except Nat (Nat × Nat)) (e bd x:Nat):Pr:=Ex fun a' : Nat=>Ex fun e' : Nat=>Fct (x<bd/\DvR T e x a' e') (SmB g V a' O most bl e')
theorem numP_open {g:Nat} {V O:Value} {most:Nat} {bl:Value} {T:Except Nat (Nat × Nat)} {e bd x:Nat} (H:Sp w0 (NumP g V O most bl T e bd x::L) w):∃a' e',(x<bd/\DvR T e x a' e')/\Sp w0 (SmB g V a' O most bl e'::L) w:=by
 obtain⟨a',H⟩:=H.unex;obtain⟨e',H⟩:=H.unex;exact⟨a',e',H.fct⟩
theorem numP_shut {g:Nat} {V O:Value} {most:Nat} {bl:Value} {T:Except Nat (Nat × Nat)} {e bd x a' e' : Nat} (h:x<bd/\DvR T e x a' e') (H:Sp w0 (SmB g V a' O most bl e'::L) w):Sp w0 (NumP g V O most bl T e bd x::L) w:=Sp.ex a' (Sp.ex e' (H.toFct h))
def DvDyn (w0:World) (L:List Pr) (g:Nat) (V O:Value) (most:Nat) (bl:Value) (T:Except Nat (Nat × List Nat × List Nat)) (e:Ending) (w' : World):Prop :=
 match T with
 | .ok r=>∃(LA:Addr) (lc:Nat) (C:Option Addr) (k:Nat) (E:Option Addr) (kd:Nat),e=.returned (.tuple #[.agg #[.slice (some LA) r.2.1.length lc,.slice C r.2.1.length k,.int .i64 (PI.mostN r.2.1:Int)],.agg #[.slice (some (LA.add r.2.1.length)) r.2.2.length (lc - r.2.1.length),.slice E r.2.2.length kd,.int .i64 (PI.mostN r.2.2:Int)]]) /\
   Sp w0 (SmB g V r.1 O most bl 0::Row 47 1 (.slice C r.2.1.length k) r.2.1.length (rowU (PH.codeAt r.2.1) r.2.1.length)::Row 47 1 (.slice E r.2.2.length kd) r.2.2.length (rowU (PH.codeAt r.2.2) r.2.2.length)::Row 3 1 (.slice (some LA) (r.2.1.length+r.2.2.length) lc) (r.2.1.length+r.2.2.length) (cellsN (r.2.1++r.2.2))::L) w'
 | .error er=>er≠0/\∃a p q r s t u,e=.returned (.tuple #[.agg #[p,q,.int .i64 r],.agg #[s,t,.int .i64 u]])/\Sp w0 (SmB g V a O most bl er::L) w'
theorem DvDyn.no {w0 w' : World} {g:Nat} {V O:Value} {most:Nat} {bl:Value} {T:Except Nat (Nat × List Nat × List Nat)} {a er:Nat} {p q s t:Value} {r u:Int} (h:T=.error er) (hne:er≠0) (H:Sp w0 (SmB g V a O most bl er::L) w'):DvDyn w0 L g V O most bl T (.returned (.tuple #[.agg #[p,q,.int .i64 r],.agg #[s,t,.int .i64 u]])) w':=by
 subst h;exact⟨hne,a,p,q,r,s,t,u,rfl,H⟩
theorem DvDyn.yes {w0 w' : World} {g:Nat} {V O:Value} {most:Nat} {bl:Value} {T:Except Nat (Nat × List Nat × List Nat)} {a n1 n2 nn lc k kd:Nat} {la:Addr} {C E:Option Addr} {m d acc:List Nat} (h:T=.ok (a,m,d)) (h1:n1=m.length) (h2:n2=d.length) (h3:nn=n1+n2) (h4:acc=m++d)
  (H:Sp w0 (SmB g V a O most bl 0::Row 47 1 (.slice C n1 k) n1 (rowU (PH.codeAt m) n1)::Row 47 1 (.slice E n2 kd) n2 (rowU (PH.codeAt d) n2)::Row 3 1 (.slice (some la) nn lc) nn (cellsN acc)::L) w') :
  DvDyn w0 L g V O most bl T (.returned (.tuple #[.agg #[.slice (some la) n1 lc,.slice C n1 k,.int .i64 (PI.mostN m:Int)],.agg #[.slice (some (la.add n1)) n2 (lc - n1),.slice E n2 kd,.int .i64 (PI.mostN d:Int)]])) w':=by
 subst h h1 h2 h3 h4;exact⟨la,lc,C,k,E,kd,rfl,H⟩
theorem vdyn_ok (g:Nat) (AA:Option Addr) (n c:Nat) (B:List UInt8) (at_:Nat) (O:Value) (most:Nat) (bl:Value) {w0 w:World} {L:List Pr} (H:Sp w0 (SmB g (.slice AA n c) at_ O most bl 0::L) w) (hn:n=B.length) (hnm:n<=1000000) (hat:at_<=8 * n) (hb:Ent L fun w=>Byt w (.slice AA n c) B) :
    Calls Tryd.prog 42 #[.pointer (some ⟨g,0,none⟩)] w (DvDyn w0 L g (.slice AA n c) O most bl (PI.dynamic (PBits.ofB B) at_)):=by
  obtain⟨i0,hi,hz0,hz1,hz2⟩:=info_parts infoJ
  obtain⟨T,hT⟩:∃T,PI.dynamic (PBits.ofB B) at_=T:=⟨_,rfl⟩
  rw [hT]
  rw [PI.dynamic_eq] at hT
  have HT:=Lib.hid hT
  have HN:=Lib.hid hn
  have HB:=Lib.hid hb
  have HX:=Lib.hid ((H.newBk [.slice none 0 0,.slice none 0 0,.int .i64 0] 101).newBk [.slice none 0 0,.slice none 0 0,.int .i64 0] 101)
  have hpos:∀a k x a',PI.number (PBits.ofB B) a k=.ok (a',x)->a'<=8 * n:=fun a k x a' h=>by
    obtain⟨h1,h2⟩:=PI.number_ok h
    injection h1 with h1 h3
    rw [PBits.ofB_length,<- hn] at h2
    omega
  have HPS:=Lib.hid hpos
  clear H hT hn hb hpos
  go_enter Tryd.func42,Tryd.ntmps42
  go_wp2_with fail
  replace HX:=HX.out
  have es:(World.alloc w (.cells #[.slice none 0 0,.slice none 0 0,.int .i64 0] 101)).heap.size=w.heap.size+1:=Array.size_push _
  rw [es] at HX
  clear es
  have hg1:¬ w.heap.size=w.heap.size+1:=by omega
  have hg2:¬ w.heap.size+1=w.heap.size:=by omega
  replace hg1:=Lib.hid hg1
  replace hg2:=Lib.hid hg2
  generalize w.heap.size+1=g3 at HX hg1 hg2 ⊢
  generalize w.heap.size=g2 at HX hg1 hg2 ⊢
  generalize World.alloc (World.alloc w _) _=w1 at HX ⊢
  have H1:Sp w0 (SmB g (.slice AA n c) at_ O most bl 0::Bk g2 101 [.slice none 0 0,.slice none 0 0,.int .i64 0]::Bk g3 101 [.slice none 0 0,.slice none 0 0,.int .i64 0]::L) w1:=HX.pick 3 [2,1,0]
  have HQ:=Lib.hid (vnumber_any g AA n c B at_ O most bl 0 5 H1 HN.out hnm (fun _=>hat) (by decide) (fun w0 w h=>HB.out w0 w h.tail2))
  clear HX H1
  go_wp2_with fail
  refine HQ.out.mono ?_
  rintro _ w2 ⟨x1,a1,e1,rfl,H2,hx1,hr1⟩
  have K1:(e1=0/\PI.number (PBits.ofB B) at_ 5=.ok (a1,x1))∨(e1≠0/\T=.error e1):=by
    rcases hr1 with ⟨h,_,h2⟩ | ⟨h,_,⟨_,h2⟩ | ⟨h2,_⟩⟩
    · exact .inl ⟨h,h2⟩
    · exact .inr ⟨h,by rw [<- HT.out,h2]; rfl⟩
    · exact absurd rfl h2
  have hx1' : x1<32:=hx1
  have HQ2:=Lib.hid (vnumber_any g AA n c B a1 O most bl e1 5 H2 HN.out hnm (fun h=>by rcases K1 with ⟨_,h2⟩ | ⟨h2,_⟩; exact HPS.out _ _ _ _ h2; exact absurd h h2) (by decide) (fun w0 w h=>HB.out w0 w h.tail2))
  have HK1:=Lib.hid K1
  obtain⟨ll,hll⟩:∃q,x1+257=q:=⟨_,rfl⟩
  have y1:(x1:Int)+257=(ll:Int):=by omega
  have HLL:=Lib.hid hll
  clear HQ H2 hr1 K1 hx1 hll
  go_wp2_with fail
  refine HQ2.out.mono ?_
  rintro _ w3 ⟨x2,a2,e2,rfl,H3,hx2,hr2⟩
  have K2:(e2=0/\PI.number (PBits.ofB B) at_ 5=.ok (a1,x1)/\PI.number (PBits.ofB B) a1 5=.ok (a2,x2))∨(e2≠0/\T=.error e2):=by
    rcases hr2 with ⟨h,h0,h2⟩ | ⟨h,_,⟨h0,h2⟩ | ⟨h0,h2⟩⟩
    · rcases HK1.out with ⟨_,k⟩ | ⟨k,_⟩
      · exact .inl ⟨h,k,h2⟩
      · exact absurd h0 k
    · rcases HK1.out with ⟨_,k⟩ | ⟨k,_⟩
      · refine .inr ⟨h,?_⟩
        rw [<- HT.out,k]
        show(PI.number _ a1 5).bind _=_
        rw [h2]; rfl
      · exact absurd h0 k
    · rcases HK1.out with ⟨k,_⟩ | ⟨_,k⟩
      · exact absurd k h0
      · exact .inr ⟨h,by rw [k,h2]⟩
  have hx2' : x2<32:=hx2
  have HQ3:=Lib.hid (vnumber_any g AA n c B a2 O most bl e2 4 H3 HN.out hnm (fun h=>by rcases K2 with ⟨_,_,h2⟩ | ⟨h2,_⟩; exact HPS.out _ _ _ _ h2; exact absurd h h2) (by decide) (fun w0 w h=>HB.out w0 w h.tail2))
  have HK2:=Lib.hid K2
  obtain⟨dd,hdd⟩:∃q,x2+1=q:=⟨_,rfl⟩
  have y2:(x2:Int)+1=(dd:Int):=by omega
  have HDD:=Lib.hid hdd
  clear HQ2 H3 hr2 K2 hx2 hdd HK1
  go_wp2_with fail
  refine HQ3.out.mono ?_
  rintro _ w4 ⟨x3,a3,e3,rfl,H4,hx3,hr3⟩
  obtain⟨cc,hcc⟩:∃q,x3+4=q:=⟨_,rfl⟩
  have y3:(x3:Int)+4=(cc:Int):=by omega
  have K3:(e3=0/\a3<=8 * n/\(if 286<ll∨30<dd then .error 20 else (PI.firsts (PBits.ofB B) (PI.orderT.take cc) a3 (List.replicate 19 0)).bind (PI.dynTail (PBits.ofB B) ll dd))=T)∨(e3≠0/\T=.error e3):=by
    rcases hr3 with ⟨h,h0,h2⟩ | ⟨h,_,⟨h0,h2⟩ | ⟨h0,h2⟩⟩
    · rcases HK2.out with ⟨_,k,k2⟩ | ⟨k,_⟩
      · refine .inl ⟨h,HPS.out _ _ _ _ h2,?_⟩
        rw [<- HT.out,k]
        show _=(PI.number _ a1 5).bind _
        rw [k2]
        show _=(PI.number _ a2 4).bind _
        rw [h2]
        rw [<- HLL.out,<- HDD.out,<- hcc]
        rfl
      · exact absurd h0 k
    · rcases HK2.out with ⟨_,k,k2⟩ | ⟨k,_⟩
      · refine .inr ⟨h,?_⟩
        rw [<- HT.out,k]
        show(PI.number _ a1 5).bind _=_
        rw [k2]
        show(PI.number _ a2 4).bind _=_
        rw [h2]; rfl
      · exact absurd h0 k
    · rcases HK2.out with ⟨k,_⟩ | ⟨_,k⟩
      · exact absurd k h0
      · exact .inr ⟨h,by rw [k,h2]⟩
  have hx3' : x3<16:=hx3
  have HK3:=Lib.hid K3
  have HL9:=HLL.out
  have HD9:=HDD.out
  have hb1:ll<=288/\257<=ll/\dd<=32/\1<=dd/\cc<=19/\4<=cc:=by omega
  obtain⟨b1,b2,b3,b4,b5,b6⟩:=hb1
  have HX:=Lib.hid H4
  clear HQ3 H4 hr3 K3 hx3 hcc HK2 HT HL9 HD9 HLL HDD
  by_cases hbig:286<ll∨30<dd
  · obtain⟨er,her⟩:∃er,(if e3=0 then 20 else e3)=er:=⟨_,rfl⟩
    have HF:=vfail_any g a3 O most bl e3 20 (.slice AA n c) HX.out
    have HTE:Hid (er≠0/\T=.error er):=Lib.hid (by
      rw [<- her]
      rcases HK3.out with ⟨h,_,k⟩ | ⟨h,k⟩
      · rw [if_pos h]
        refine⟨by decide,?_⟩
        rw [<- k,if_pos hbig]
      · rw [if_neg h]; exact⟨h,k⟩)
    rw [her] at HF
    replace HF:=Lib.hid HF
    clear HX HK3 her
    by_cases hl:286<ll
    · have q1:(ll:Int) > 286:=by omega
      go_wp2_with fail
      refine HF.out.mono ?_
      rintro _ w5 ⟨rfl,H5⟩
      have HX:=Lib.hid H5
      clear HF H5
      have H:=HX.out
      have g1x:=hg1.out
      have g2x:=hg2.out
      have c5:w5.cell? ⟨g,5,none⟩=some (.int .i64 (er:Int)):=H.cell 0 rfl 5
      have ke:(((er:Nat):Int) != 0)=true:=by have:=HTE.out.1; first | (simp; omega) | simp
      have ke2:¬ ((er:Nat):Int)=0:=by have:=HTE.out.1; omega
      have tg20:w5.cell? ⟨g2,0,none⟩=some (.slice none 0 0):=H.cell 1 rfl 0
      have zg20:w5.frozen? ⟨g2,0,none⟩=false:=H.frozen 1 rfl 0
      have tg21:w5.cell? ⟨g2,1,none⟩=some (.slice none 0 0):=H.cell 1 rfl 1
      have zg21:w5.frozen? ⟨g2,1,none⟩=false:=H.frozen 1 rfl 1
      have tg22:w5.cell? ⟨g2,2,none⟩=some (.int .i64 0):=H.cell 1 rfl 2
      have zg22:w5.frozen? ⟨g2,2,none⟩=false:=H.frozen 1 rfl 2
      have tg30:w5.cell? ⟨g3,0,none⟩=some (.slice none 0 0):=H.cell 2 rfl 0
      have zg30:w5.frozen? ⟨g3,0,none⟩=false:=H.frozen 2 rfl 0
      have tg31:w5.cell? ⟨g3,1,none⟩=some (.slice none 0 0):=H.cell 2 rfl 1
      have zg31:w5.frozen? ⟨g3,1,none⟩=false:=H.frozen 2 rfl 1
      have tg32:w5.cell? ⟨g3,2,none⟩=some (.int .i64 0):=H.cell 2 rfl 2
      have zg32:w5.frozen? ⟨g3,2,none⟩=false:=H.frozen 2 rfl 2
      have HY:=Lib.hid (((((((H.pick 3 [1,0,2]).set 0 (.slice none 0 0)).set 1 (.slice none 0 0)).set 2 (.int .i64 0)).pick 3 [2,0,1]).set 0 (.slice none 0 0)).set 1 (.slice none 0 0))
      have HZ:=Lib.hid (HY.out.set 2 (.int .i64 0))
      clear H HY
      go_wp2_with fail
      refine bodyPost_ret (vres_c2 rfl _ rfl rfl (bk_cells HZ.out 1 rfl) (bk_cells HZ.out 0 rfl) Tryd.isAgg101 Tryd.sizeOf101 rfl) rfl ?_
      exact DvDyn.no HTE.out.2 HTE.out.1 (HZ.out.pick 3 [2])
    · have q1:¬ (ll:Int) > 286:=by omega
      have q2:(dd:Int) > 30:=by omega
      go_wp2_with fail
      refine HF.out.mono ?_
      rintro _ w5 ⟨rfl,H5⟩
      have HX:=Lib.hid H5
      clear HF H5
      have H:=HX.out
      have g1x:=hg1.out
      have g2x:=hg2.out
      have c5:w5.cell? ⟨g,5,none⟩=some (.int .i64 (er:Int)):=H.cell 0 rfl 5
      have ke:(((er:Nat):Int) != 0)=true:=by have:=HTE.out.1; first | (simp; omega) | simp
      have ke2:¬ ((er:Nat):Int)=0:=by have:=HTE.out.1; omega
      have tg20:w5.cell? ⟨g2,0,none⟩=some (.slice none 0 0):=H.cell 1 rfl 0
      have zg20:w5.frozen? ⟨g2,0,none⟩=false:=H.frozen 1 rfl 0
      have tg21:w5.cell? ⟨g2,1,none⟩=some (.slice none 0 0):=H.cell 1 rfl 1
      have zg21:w5.frozen? ⟨g2,1,none⟩=false:=H.frozen 1 rfl 1
      have tg22:w5.cell? ⟨g2,2,none⟩=some (.int .i64 0):=H.cell 1 rfl 2
      have zg22:w5.frozen? ⟨g2,2,none⟩=false:=H.frozen 1 rfl 2
      have tg30:w5.cell? ⟨g3,0,none⟩=some (.slice none 0 0):=H.cell 2 rfl 0
      have zg30:w5.frozen? ⟨g3,0,none⟩=false:=H.frozen 2 rfl 0
      have tg31:w5.cell? ⟨g3,1,none⟩=some (.slice none 0 0):=H.cell 2 rfl 1
      have zg31:w5.frozen? ⟨g3,1,none⟩=false:=H.frozen 2 rfl 1
      have tg32:w5.cell? ⟨g3,2,none⟩=some (.int .i64 0):=H.cell 2 rfl 2
      have zg32:w5.frozen? ⟨g3,2,none⟩=false:=H.frozen 2 rfl 2
      have HY:=Lib.hid (((((((H.pick 3 [1,0,2]).set 0 (.slice none 0 0)).set 1 (.slice none 0 0)).set 2 (.int .i64 0)).pick 3 [2,0,1]).set 0 (.slice none 0 0)).set 1 (.slice none 0 0))
      have HZ:=Lib.hid (HY.out.set 2 (.int .i64 0))
      clear H HY
      go_wp2_with fail
      refine bodyPost_ret (vres_c2 rfl _ rfl rfl (bk_cells HZ.out 1 rfl) (bk_cells HZ.out 0 rfl) Tryd.isAgg101 Tryd.sizeOf101 rfl) rfl ?_
      exact DvDyn.no HTE.out.2 HTE.out.1 (HZ.out.pick 3 [2])
  · have q1:¬ (ll:Int) > 286:=by omega
    have q2:¬ (dd:Int) > 30:=by omega
    by_cases he3:e3=0
    · subst he3
      have HK5:Hid (a3<=8 * n/\(PI.firsts (PBits.ofB B) (PI.orderT.take cc) a3 (List.replicate 19 0)).bind (PI.dynTail (PBits.ofB B) ll dd)=T):=by
        rcases HK3.out with ⟨_,h1,h2⟩ | ⟨h,_⟩
        · rw [if_neg hbig] at h2
          exact Lib.hid ⟨h1,h2⟩
        · exact absurd rfl h
      clear HK3 hbig
      have c5:w4.cell? ⟨g,5,none⟩=some (.int .i64 0):=HX.out.cell 0 rfl 5
      have H5:=HX.out.newBk [.int .i64 16,.int .i64 17,.int .i64 18,.int .i64 0,.int .i64 8,.int .i64 7,.int .i64 9,.int .i64 6,.int .i64 10,.int .i64 5,.int .i64 11,.int .i64 4,.int .i64 12,.int .i64 3,.int .i64 13,.int .i64 2,.int .i64 14,.int .i64 1,.int .i64 15] 3
      have HX5:=Lib.hid H5
      clear HX H5
      go_wp2_with (at_make; refine wpList_make_sp rfl _ _ _ rfl 3 i0 (.int .i64 0) Tryd.underlying51 hi hz0 hz1 rfl 19 rfl rfl (by rw [hz2]; omega) (by unfold maxLen; omega) HX5.out ?_)
      intro ad1 w5 H6
      replace HX5:=HX5.out
      generalize w4.heap.size=go at H6 ⊢
      clear HX5 c5
      replace H6:Sp w0 (Row 3 1 (.slice (some ad1) 19 19) 19 (cellsN (List.replicate 19 0))::Bk go 3 (cellsN PI.orderT)::SmB g (.slice AA n c) a3 O most bl 0::Bk g2 101 [.slice none 0 0,.slice none 0 0,.int .i64 0]::Bk g3 101 [.slice none 0 0,.slice none 0 0,.int .i64 0]::L) w5:=H6
      have H7:=H6.pick 5 [2,0,1,3,4]
      obtain⟨FT,hFT⟩:∃FT,PI.firsts (PBits.ofB B) (PI.orderT.take cc) a3 (List.replicate 19 0)=FT:=⟨_,rfl⟩
      have hK6:=HK5.out
      rw [hFT] at hK6
      have HFT:=Lib.hid hFT
      have HK6:=Lib.hid hK6.2
      have ha30:=hK6.1
      have c19:(cc:Int)<=19:=by omega
      have HX:=Lib.hid H7
      clear hFT hK6 HK5 H6 H7
      go_wp2_with fail
      go_loopw [9] (fun iv wr=>∃(j a e:Nat) (fj:List Nat),iv=.int .i64 (j:Int)/\j<=cc/\fj.length=19/\Hid ((e=0/\a<=8 * n/\PI.firsts (PBits.ofB B) ((PI.orderT.take cc).drop j) a fj=FT)∨(e≠0/\T=.error e))/\Sp w0 (SmB g (.slice AA n c) a O most bl e::Row 3 1 (.slice (some ad1) 19 19) 19 (cellsN fj)::Bk go 3 (cellsN PI.orderT)::Bk g2 101 [.slice none 0 0,.slice none 0 0,.int .i64 0]::Bk g3 101 [.slice none 0 0,.slice none 0 0,.int .i64 0]::L) wr) (fun iv _=>cc - (intOf iv).toNat)
      case atStart=>exact⟨0,a3,0,List.replicate 19 0,rfl,Nat.zero_le _,by simp,Lib.hid (.inl ⟨rfl,ha30,HFT.out⟩),HX.out⟩
      case round =>
        clear HX
        obtain⟨j,a,e,fj,rfl,hj,hfl,HKE,H8⟩:=hrel
        have HFL:=Lib.hid hfl
        clear hfl
        by_cases hlt:j<cc
        · have k1:(j:Int)<(cc:Int):=by omega
          have k2:(j:Int)<19:=by omega
          have hs19:=PI.orderT_lt j (by omega)
          have hor:(cellsN PI.orderT)[j]?=some (.int .i64 ((PI.orderT.getD j 0:Nat):Int)):=by
            have hl:j<PI.orderT.length:=by show j<19; omega
            rw [cellsN,List.getElem?_map,List.getElem?_eq_getElem hl,List.getD_eq_getElem?_getD,List.getElem?_eq_getElem hl]
            rfl
          have hst:=fun h=>PI.firsts_step (B:=PBits.ofB B) (a:=a) (f:=fj) hlt h
          obtain⟨s,hs⟩:∃s,PI.orderT.getD j 0=s:=⟨_,rfl⟩
          rw [hs] at hs19 hor
          simp only [hs] at hst
          have HST:=Lib.hid (hst b5)
          have HOC:Hid (Ent (Bk go 3 (cellsN PI.orderT)::Bk g2 101 [.slice none 0 0,.slice none 0 0,.int .i64 0]::Bk g3 101 [.slice none 0 0,.slice none 0 0,.int .i64 0]::L) fun w=>w.cell? ⟨go,j,none⟩=some (.int .i64 (s:Int))):=Lib.hid fun _ _ q=>(q.cell 0 rfl j).trans hor
          have HBL:Hid (Ent (Bk go 3 (cellsN PI.orderT)::Bk g2 101 [.slice none 0 0,.slice none 0 0,.int .i64 0]::Bk g3 101 [.slice none 0 0,.slice none 0 0,.int .i64 0]::L) fun w=>Byt w (.slice AA n c) B):=Lib.hid fun _ _ q=>HB.out _ _ (q.pick 3 [])
          have hae:e=0->a<=8 * n:=fun h=>by rcases HKE.out with ⟨_,h2,_⟩ | ⟨h2,_⟩; exact h2; exact absurd h h2
          have k3:(s:Int)<19:=by omega
          have HX:=Lib.hid (H8.pick 5 [0,1,2,3,4])
          clear H8 hst hs hor
          go_upto_region 13 with (fail)
          refine wp_region_sd (L:=Bk go 3 (cellsN PI.orderT)::Bk g2 101 [.slice none 0 0,.slice none 0 0,.int .i64 0]::Bk g3 101 [.slice none 0 0,.slice none 0 0,.int .i64 0]::L) [some (.slice (some ad1) 19 19),some (.slice (some ⟨go,0,none⟩) 19 19),some (.int .i64 (j:Int)),some (.pointer (some ⟨go,j,none⟩)),some (.int .i64 (s:Int)),some (.pointer (some ⟨g,0,none⟩)),none,some (.pointer (some (ad1.add s))),some (undef)] (fun ix ux vx=>match ix with | 6=>(fun vv=>vv=.int .i64 (natV vv:Int)) vx | _=>True) (fun ix ux vx=>match ix with | 6=>(fun vv=>[NumP g (.slice AA n c) O most bl (PI.number (PBits.ofB B) a 3) e 8 (natV vv)]) vx | 8=>(fun _=>[Row 3 1 (.slice (some ad1) 19 19) 19 (cellsN (fj.set s (natV ux)))]) vx | _=>[]) (fun ix=>match ix with | 6=>[SmB g (.slice AA n c) a O most bl e] | 8=>[Row 3 1 (.slice (some ad1) 19 19) 19 (cellsN fj)] | _=>[]) 9 154
            [some 48,some 49,some 50,some 51,some 52,some 53,some 54,some 55,none]
            [[],[],[],[1,2],[3],[],[5],[0,4,0,1,2,3,4,5,6],[7,6,6,0,1,2,3,4,5,6]]
            [[],[],[],[1,2],[1,2,3],[],[5],[0,1,2,3,4,5,6],[0,1,2,3,4,5,6,7]]
            [[],[],[],[],[],[],[],[],[]] [[],[],[],[],[],[],[],[],[]] [none,none,none,none,none,none,none,none,some 6] [(0,.pointer (some ⟨g,0,none⟩)),(7,.slice (some ⟨go,0,none⟩) 19 19),(8,.slice (some ad1) 19 19),(9,.int .i64 (j:Int))]
            (by kernel_rfl) rfl (by decide) (by rfl) (by decide +kernel) rfl (by simp) (by rfl) (HX.out) ?hstep ?hend
          case hstep =>
            refine⟨?p0,⟨?p1,⟨?p2,⟨?p3,⟨?p4,⟨?p5,⟨?p6,⟨?p7,⟨?p8,trivial⟩⟩⟩⟩⟩⟩⟩⟩⟩
            case p0 | p1 | p2 | p5 =>
              intro x wx A rest hF hS hE H K hK
              replace hK:=Lib.hid hK
              clear hS hE
              repeat (obtain⟨_,hF⟩:=hF)
              change Oper.wp _ _ A wx K _
              go_step
              exact hK.out _ _ rfl H
            case p3 =>
              intro x wx A rest hF hS hE H K hK0
              have e49:A.tmps[49]?.getD undef=.slice (some ⟨go,0,none⟩) 19 19:=((hS 1 (by decide)).2 49 rfl).trans (hS 1 (by decide)).1
              have e50:A.tmps[50]?.getD undef=.int .i64 (j:Int):=((hS 2 (by decide)).2 50 rfl).trans (hS 2 (by decide)).1
              replace H:Sp w0 (rest) wx:=H
              have hK:Hid (∀(v:Value) (w' : World),(v=.pointer (some ⟨go,j,none⟩))->Sp w0 (rest) w'->K (A.put (some 51) v) w'):=Lib.hid hK0
              clear hK0 hF hS
              change Oper.wp _ _ A wx K _
              go_step
              exact hK.out _ _ rfl (H)
            case p4 =>
              intro x wx A rest hF hS hE H K hK0
              have e51:A.tmps[51]?.getD undef=.pointer (some ⟨go,j,none⟩):=((hS 3 (by decide)).2 51 rfl).trans (hS 3 (by decide)).1
              replace H:Sp w0 (rest) wx:=H
              have hK:Hid (∀(v:Value) (w' : World),(v=.int .i64 (s:Int))->Sp w0 (rest) w'->K (A.put (some 52) v) w'):=Lib.hid hK0
              clear hK0 hF hS
              have c9:=hE _ HOC.out _ _ H
              change Oper.wp _ _ A wx K _
              go_step
              exact hK.out _ _ rfl (H)
            case p6 =>
              intro x wx A rest hF hS hE H K hK0
              have e53:A.tmps[53]?.getD undef=.pointer (some ⟨g,0,none⟩):=((hS 5 (by decide)).2 53 rfl).trans (hS 5 (by decide)).1
              replace H:Sp w0 ((SmB g (.slice AA n c) a O most bl e)::rest) wx:=H
              have hK:Hid (∀(v:Value) (w' : World),(v=.int .i64 (natV v:Int))->Sp w0 ((NumP g (.slice AA n c) O most bl (PI.number (PBits.ofB B) a 3) e 8 (natV v))::rest) w'->K (A.put (some 54) v) w'):=Lib.hid hK0
              clear hK0 hF hS
              have HBX:=Lib.hid (hE _ HBL.out)
              have HZ:=Lib.hid H
              clear hE H
              change Oper.wp _ _ A wx K _
              go_wp2_with fail
              refine(vnumber_any g AA n c B a O most bl e 3 HZ.out HN.out hnm hae (by decide) HBX.out).mono ?_
              rintro _ w9 ⟨x9,a9,e9,rfl,H9,hx9,hr9⟩
              have en:natV (.int .i64 (x9:Int))=x9:=by simp [natV,intOf]
              refine hK.out _ _ (by rw [en]) ?_
              rw [en]
              exact numP_shut ⟨hx9,hr9⟩ H9
            case p7 =>
              intro x wx A rest hF hS hE H K hK0
              have e48:A.tmps[48]?.getD undef=.slice (some ad1) 19 19:=((hS 0 (by decide)).2 48 rfl).trans (hS 0 (by decide)).1
              have e52:A.tmps[52]?.getD undef=.int .i64 (s:Int):=((hS 4 (by decide)).2 52 rfl).trans (hS 4 (by decide)).1
              replace H:Sp w0 (rest) wx:=H
              have hK:Hid (∀(v:Value) (w' : World),(v=.pointer (some (ad1.add s)))->Sp w0 (rest) w'->K (A.put (some 55) v) w'):=Lib.hid hK0
              clear hK0 hF hS
              change Oper.wp _ _ A wx K _
              go_step
              exact hK.out _ _ rfl (H)
            case p8 =>
              intro x wx A rest hF hS hE H K hK0
              have e55:A.tmps[55]?.getD undef=.pointer (some (ad1.add s)):=((hS 7 (by decide)).2 55 rfl).trans (hS 7 (by decide)).1
              have q54:(x 6)=.int .i64 (natV (x 6):Int):=(hS 6 (by decide)).1
              have e54:A.tmps[54]?.getD undef=x 6:=(hS 6 (by decide)).2 54 rfl
              replace H:Sp w0 ((Row 3 1 (.slice (some ad1) 19 19) 19 (cellsN fj))::rest) wx:=H
              have hK:Hid (∀(v:Value) (w' : World),(v=undef)->Sp w0 ((Row 3 1 (.slice (some ad1) 19 19) 19 (cellsN (fj.set s (natV (x 6)))))::rest) w'->K (A.put none v) w'):=Lib.hid hK0
              clear hK0 hF hS
              obtain⟨x9,hx9⟩:∃q,natV (x 6)=q:=⟨_,rfl⟩
              rw [hx9] at q54
              rw [hx9] at hK
              rw [q54] at e54
              obtain⟨ad9,c9,e9,_,ccell,cfrz,hset⟩:=Sp.rowSet H (i:=s) (by omega)
              injection e9 with e9 e10 e11
              injection e9 with e9
              subst e9
              subst e11
              clear e10
              have hcell:∃u,wx.cell? (ad1.add s)=some u:=by
                rw [ccell]
                exact⟨_,List.getElem?_eq_getElem (by rw [cellsN,List.length_map,HFL.out]; exact hs19)⟩
              obtain⟨u,hu⟩:=hcell
              have HS:=Lib.hid (hset (.int .i64 (x9:Int)))
              have ec:cellsN (fj.set s x9)=(cellsN fj).set s (.int .i64 (x9:Int)):=by unfold cellsN; rw [List.map_set]
              rw [ec] at hK
              clear ccell hset H ec q54 hx9
              change Oper.wp _ _ A wx K _
              go_step
              exact hK.out undef _ rfl HS.out
          case hend =>
            intro x wx A hA hS H
            replace H:Sp w0 ((NumP g (.slice AA n c) O most bl (PI.number (PBits.ofB B) a 3) e 8 (natV (x 6)))::(Row 3 1 (.slice (some ad1) 19 19) 19 (cellsN (fj.set s (natV (x 6)))))::Bk go 3 (cellsN PI.orderT)::Bk g2 101 [.slice none 0 0,.slice none 0 0,.int .i64 0]::Bk g3 101 [.slice none 0 0,.slice none 0 0,.int .i64 0]::L) wx:=H
            have y6:(x 6)=.int .i64 (natV (x 6):Int):=hS 6 (by decide)
            clear hS
            simp only [putAll,Act.put,List.setIfInBounds_toArray,List.set_cons_succ,List.set_cons_zero,Nat.reduceAdd] at hA
            subst hA
            have HX9:=Lib.hid H
            clear H HX
            obtain⟨x9,hx9⟩:∃q,natV (x 6)=q:=⟨_,rfl⟩
            rw [hx9] at HX9
            obtain⟨a',e',⟨hxb,hr⟩,H9⟩:=numP_open HX9.out
            have HNX:Hid ((e'=0/\a'<=8 * n/\PI.firsts (PBits.ofB B) ((PI.orderT.take cc).drop (j+1)) a' (fj.set s x9)=FT)∨(e'≠0/\T=.error e')):=Lib.hid (by
              have hs9:=HST.out
              rcases hr with ⟨h,h0,h2⟩ | ⟨h,_,⟨h0,h2⟩ | ⟨h0,h2⟩⟩
              · rcases HKE.out with ⟨_,_,k2⟩ | ⟨k0,_⟩
                · refine .inl ⟨h,HPS.out _ _ _ _ h2,?_⟩
                  rw [k2,h2] at hs9
                  exact hs9.symm
                · exact absurd h0 k0
              · rcases HKE.out with ⟨_,_,k2⟩ | ⟨k0,_⟩
                · refine .inr ⟨h,?_⟩
                  rw [k2,h2] at hs9
                  rw [<- HK6.out,hs9]
                  rfl
                · exact absurd h0 k0
              · rcases HKE.out with ⟨k0,_⟩ | ⟨_,k1⟩
                · exact absurd k0 h0
                · exact .inr ⟨h,by rw [h2]; exact k1⟩)
            replace HX9:=Lib.hid H9
            clear H9 hr hx9 y6 hxb
            go_wp2_with fail
            go_roundw
            case rel=>exact⟨j+1,a',e',fj.set s x9,by go_num,by omega,by rw [List.length_set]; exact HFL.out,HNX,HX9.out⟩
            case measure=>first | (simp [intOf]; omega) | simp [intOf]
        · have k1:¬ (j:Int)<(cc:Int):=by omega
          obtain rfl:j=cc:=by omega
          have HX:=Lib.hid (H8.pick 5 [0,3,4,1,2])
          clear H8
          by_cases he:e=0
          · subst he
            have HK7:Hid (a<=8 * n/\PI.dynTail (PBits.ofB B) ll dd (a,fj)=T):=by
              rcases HKE.out with ⟨_,h1,h2⟩ | ⟨h,_⟩
              · refine Lib.hid ⟨h1,?_⟩
                rw [List.drop_eq_nil_of_le (by rw [List.length_take]; omega)] at h2
                rw [<- HK6.out,<- h2]
                rfl
              · exact absurd rfl h
            have ha8:=HK7.out.1
            clear HKE HK6 HFT
            have c5:wr.cell? ⟨g,5,none⟩=some (.int .i64 0):=HX.out.cell 0 rfl 5
            have HBK:=Lib.hid (vbook_any g (some ad1) 19 19 a O most bl 0 (.slice AA n c) fj HX.out HFL.out.symm (by decide) (fun w0 w h=>by rw [cellsN_cast]; exact row_ent 2 rfl w0 w h))
            obtain⟨mm,hmm⟩:∃mm,ll+dd=mm:=⟨_,rfl⟩
            have y4:(ll:Int)+(dd:Int)=(mm:Int):=by omega
            have hmm2:mm<=318/\258<=mm:=by omega
            obtain⟨hm1,hm2⟩:=hmm2
            have HMM:=Lib.hid hmm
            clear HX hmm
            go_wp2_with fail
            refine HBK.out.mono ?_
            rintro _ w6 ⟨p,q,r,e6,X,rfl,H9,_,hbk⟩
            clear HBK c5
            rcases hbk with ⟨hbk,rfl,rfl,C,k,rfl,rfl,rfl⟩ | ⟨hbk,rfl,rfl,rfl,rfl⟩
            · have HK8:Hid ((PI.lens (PBits.ofB B) fj mm (mm+1) a []).bind (PI.dynEnd ll)=T):=Lib.hid (by
                rw [<- HK7.out.2]
                unfold PI.dynTail
                rw [if_pos hbk,HMM.out])
              obtain⟨LT,hLT⟩:∃LT,PI.lens (PBits.ofB B) fj mm (mm+1) a []=LT:=⟨_,rfl⟩
              rw [hLT] at HK8
              have HLT:=Lib.hid hLT
              have h15:∀x ∈ fj,x<=15:=by
                have h2:PH.okB (castI fj)=true:=hbk
                unfold PH.okB at h2
                simp only [Bool.and_eq_true] at h2
                have h3:=(PH.may_split h2.1).2.2
                rwa [PI.PH.nat_cast] at h3
              have H15:=Lib.hid h15
              have H10:=H9.newBk [.slice (some ad1) 19 19,.slice C 19 k,.int .i64 (PI.mostN fj:Int)] 101
              have HX:=Lib.hid H10
              clear HK7 hbk hLT h15 H9 H10
              go_wp2_with fail
              replace HX:=HX.out
              generalize w6.heap.size=g10 at HX ⊢
              generalize World.alloc w6 _=w7 at HX ⊢
              have HY:Hid (Sp w0 (SmB g (.slice AA n c) a O most bl 0::Row 3 1 (.slice none 0 0) 0 (cellsN [])::Row 47 1 (.slice C 19 k) 19 (rowU (PH.codeAt fj) 19)::Bk g10 101 [.slice (some ad1) 19 19,.slice C 19 k,.int .i64 (PI.mostN fj:Int)]::Row 3 1 (.slice (some ad1) 19 19) 19 (cellsN fj)::Bk go 3 (cellsN PI.orderT)::Bk g2 101 [.slice none 0 0,.slice none 0 0,.int .i64 0]::Bk g3 101 [.slice none 0 0,.slice none 0 0,.int .i64 0]::L) w7):=Lib.hid ((HX.rowNil 3 1).pick 8 [2,0,3,1,6,7,4,5])
              clear HX
              have HX:=HY
              clear HY
              go_loopw [11] (fun v wr=>∃(vn vc:Nat) (VA:Option Addr) (a e:Nat) (acc:List Nat),v=.slice VA vn vc/\vn<=500/\Hid (vn=acc.length/\((e=0/\a<=8 * n/\vn<=mm/\∃f,mm<vn+f/\PI.lens (PBits.ofB B) fj mm f a acc=LT)∨(e≠0/\T=.error e)))/\Sp w0 (SmB g (.slice AA n c) a O most bl e::Row 3 1 (.slice VA vn vc) vn (cellsN acc)::Row 47 1 (.slice C 19 k) 19 (rowU (PH.codeAt fj) 19)::Bk g10 101 [.slice (some ad1) 19 19,.slice C 19 k,.int .i64 (PI.mostN fj:Int)]::Row 3 1 (.slice (some ad1) 19 19) 19 (cellsN fj)::Bk go 3 (cellsN PI.orderT)::Bk g2 101 [.slice none 0 0,.slice none 0 0,.int .i64 0]::Bk g3 101 [.slice none 0 0,.slice none 0 0,.int .i64 0]::L) wr) (fun v _=>1000 - lenV v)
              case atStart=>exact⟨0,0,none,a,0,[],rfl,Nat.zero_le _,Lib.hid ⟨rfl,.inl ⟨rfl,ha8,Nat.zero_le _,mm+1,by omega,HLT.out⟩⟩,HX.out⟩
              case round =>
                clear HX ha8
                obtain⟨vn,vc,VA,a,e,acc,rfl,hvn,HKE,H11⟩:=hrel
                have c5:wr.cell? ⟨g,5,none⟩=some (.int .i64 (e:Int)):=H11.cell 0 rfl 5
                by_cases hl:vn<mm
                · have k1:(vn:Int)<(mm:Int):=by omega
                  by_cases he:e=0
                  · subst he
                    have k2:(((0:Nat):Int) == 0)=true:=rfl
                    have HS:=Lib.hid (vsign_ok g AA n c B a O most bl (some ad1) 19 19 fj C k H11 HN.out hnm (by rcases HKE.out.2 with ⟨_,h,_⟩ | ⟨h,_⟩; exact h; exact absurd rfl h) (fun w0 w h=>HB.out w0 w (h.pick 7 [])) HFL.out.symm (by decide) H15.out (fun w0 w h=>by rw [cellsN_cast]; exact row_ent 3 rfl w0 w h) (fun w0 w h=>row_ent 1 rfl w0 w h))
                    have d0:wr.cell? ⟨g10,0,none⟩=some (.slice (some ad1) 19 19):=H11.cell 3 rfl 0
                    have d1:wr.cell? ⟨g10,1,none⟩=some (.slice C 19 k):=H11.cell 3 rfl 1
                    have d2:wr.cell? ⟨g10,2,none⟩=some (.int .i64 (PI.mostN fj:Int)):=H11.cell 3 rfl 2
                    obtain⟨SL,hSL⟩:∃q,PI.stepL (PBits.ofB B) fj mm a acc=q:=⟨_,rfl⟩
                    have HSL:=Lib.hid hSL
                    have hvl:=HKE.out.1
                    have HVL:=Lib.hid hvl
                    clear H11 hSL hvl
                    go_wp2_with fail
                    refine HS.out.mono ?_
                    intro e9 w8 k9
                    obtain⟨sx,sa,se,rfl,H12,hsr⟩:=DvR.of_end k9
                    have hsx:sx<=19:=by
                      rcases hsr with ⟨_,_,h⟩ | ⟨_,h,_⟩
                      · have h2:=PI.sign_lt h
                        rw [HFL.out] at h2
                        exact h2
                      · omega
                    have HSR:=Lib.hid hsr
                    have HX:=Lib.hid H12
                    clear HS d0 d1 d2 c5 k9 hsr H12
                    go_upto_if 83 with (fail)
                    go_cut [12,13] from 66 to 126 (fun s12 s13 wx=>∃vv kk a2 e2:Nat,s12=.int .i64 (vv:Int)/\s13=.int .i64 (kk:Int)/\1<=kk/\kk<=149/\Hid ((e2=0/\a2<=8 * n/\SL=PI.fill mm acc vv kk a2)∨(e2≠0/\SL=.error e2))/\Sp w0 (SmB g (.slice AA n c) a2 O most bl e2::Row 3 1 (.slice VA vn vc) vn (cellsN acc)::Row 47 1 (.slice C 19 k) 19 (rowU (PH.codeAt fj) 19)::Bk g10 101 [.slice (some ad1) 19 19,.slice C 19 k,.int .i64 (PI.mostN fj:Int)]::Row 3 1 (.slice (some ad1) 19 19) 19 (cellsN fj)::Bk go 3 (cellsN PI.orderT)::Bk g2 101 [.slice none 0 0,.slice none 0 0,.int .i64 0]::Bk g3 101 [.slice none 0 0,.slice none 0 0,.int .i64 0]::L) wx)
                    case first =>
                      by_cases h16:sx=16
                      · have q16:((sx:Int) == 16)=true:=by rw [beq_iff_eq]; omega
                        have HSG:Hid (se=0/\PI.sign (PBits.ofB B) fj a=.ok (sa,16)):=Lib.hid (by
                          rcases HSR.out with ⟨h,_,h2⟩ | ⟨_,h,_⟩
                          · rw [h16] at h2; exact⟨h,h2⟩
                          · omega)
                        have hse:=HSG.out.1
                        subst hse
                        by_cases hv0:vn=0
                        · have q0:((vn:Int) == 0)=true:=by rw [beq_iff_eq]; omega
                          have hs1:SL=.error 20:=by rw [<- HSL.out]; exact PI.stepL_none HSG.out.2 (by rw [<- HVL.out]; exact hv0)
                          have HS1:=Lib.hid hs1
                          replace hv0:=Lib.hid hv0
                          have HF:=Lib.hid (vfail_ok g (.slice AA n c) sa O most bl 20 HX.out)
                          clear hs1 HX
                          go_wp2_with fail
                          refine HF.out.mono ?_
                          rintro _ w9 ⟨rfl,H13⟩
                          have HQ:=Lib.hid (vnumber_dead g (.slice AA n c) sa O most bl 2 20 (by decide) (by decide) H13)
                          clear HF H13
                          go_wp2_with fail
                          refine HQ.out.mono ?_
                          rintro _ w10 ⟨rfl,H14⟩
                          have HX:=Lib.hid H14
                          clear HQ H14
                          go_wp2_with fail
                          go_meet
                          exact⟨16,3,sa,20,rfl,rfl,by decide,by decide,Lib.hid (.inr ⟨by decide,HS1.out⟩),HX.out⟩
                        · have q0:((vn:Int) == 0)=false:=by rw [beq_eq_false_iff_ne]; omega
                          have hs1:=PI.stepL_16 (many:=mm) HSG.out.2 (show ¬ acc.length=0 by rw [<- HVL.out]; exact hv0)
                          rw [HSL.out,<- HVL.out] at hs1
                          obtain⟨v1,hv1⟩:∃q,vn - 1=q:=⟨_,rfl⟩
                          have y7:(vn:Int) - 1=(v1:Int):=by omega
                          have k7:(v1:Int)<(vn:Int):=by omega
                          rw [hv1] at hs1
                          obtain⟨la,rfl⟩:=slice_of HX.out 1 rfl (by omega) (by rw [cellsN,List.length_map]; exact HVL.out.symm)
                          have hcl:w8.cell? (la.add v1)=some (.int .i64 ((acc.getD v1 0:Nat):Int)):=by
                            obtain⟨ad2,e2,hc2⟩:=(row_ent 1 rfl _ _ HX.out).at_ (k:=v1) (by rw [cellsN,List.length_map,<- HVL.out]; omega)
                            injection e2 with e2
                            subst e2
                            rw [hc2]
                            have h2:v1<acc.length:=by rw [<- HVL.out]; omega
                            rw [List.getD_eq_getElem?_getD,List.getElem?_eq_getElem h2]
                            simp [cellsN]
                          obtain⟨lv,hlv⟩:∃q,acc.getD v1 0=q:=⟨_,rfl⟩
                          rw [hlv] at hs1 hcl
                          have HS1:=Lib.hid hs1
                          have HQ:=Lib.hid (vnumber_any g AA n c B sa O most bl 0 2 HX.out HN.out hnm (fun _=>by
                            have h:=PI.sign_ok (by rw [PBits.ofB_length,<- HN.out]; rcases HKE.out.2 with ⟨_,h,_⟩ | ⟨h,_⟩; exact h; exact absurd rfl h) HSG.out.2
                            rw [PBits.ofB_length,<- HN.out] at h; exact h.2) (by decide) (fun w0 w h=>HB.out w0 w (h.pick 7 [])))
                          clear hs1 HX hlv hv1
                          go_wp2_with fail
                          refine HQ.out.mono ?_
                          rintro _ w9 ⟨nx,na,ne,rfl,H13,hnx,hnr⟩
                          have hnx2:nx<4:=hnx
                          obtain⟨kk,hkk⟩:∃q,3+nx=q:=⟨_,rfl⟩
                          have y8:3+(nx:Int)=(kk:Int):=by omega
                          have HX:=Lib.hid H13
                          have HR:Hid ((ne=0/\na<=8 * n/\SL=PI.fill mm acc lv kk na)∨(ne≠0/\SL=.error ne)):=Lib.hid (by
                            rcases hnr with ⟨h,_,h2⟩ | ⟨h,_,⟨_,h2⟩ | ⟨h2,_⟩⟩
                            · refine .inl ⟨h,HPS.out _ _ _ _ h2,?_⟩
                              rw [HS1.out,h2,<- hkk]; rfl
                            · exact .inr ⟨h,by rw [HS1.out,h2]; rfl⟩
                            · exact absurd rfl h2)
                          have hkb:1<=kk/\kk<=149:=by omega
                          clear HQ H13 hnr hnx hkk
                          go_wp2_with fail
                          go_meet
                          exact⟨lv,kk,na,ne,rfl,rfl,hkb.1,hkb.2,HR,HX.out⟩
                      have q16:((sx:Int) == 16)=false:=by rw [beq_eq_false_iff_ne]; omega
                      by_cases h17:sx=17
                      · have q17:((sx:Int) == 17)=true:=by rw [beq_iff_eq]; omega
                        have HSG:Hid (se=0/\PI.sign (PBits.ofB B) fj a=.ok (sa,17)):=Lib.hid (by
                          rcases HSR.out with ⟨h,_,h2⟩ | ⟨_,h,_⟩
                          · rw [h17] at h2; exact⟨h,h2⟩
                          · omega)
                        have hse:=HSG.out.1
                        subst hse
                        have hs1:=PI.stepL_17 (many:=mm) (acc:=acc) HSG.out.2
                        rw [HSL.out] at hs1
                        have HS1:=Lib.hid hs1
                        have HQ:=Lib.hid (vnumber_any g AA n c B sa O most bl 0 3 HX.out HN.out hnm (fun _=>by
                          have h:=PI.sign_ok (by rw [PBits.ofB_length,<- HN.out]; rcases HKE.out.2 with ⟨_,h,_⟩ | ⟨h,_⟩; exact h; exact absurd rfl h) HSG.out.2
                          rw [PBits.ofB_length,<- HN.out] at h; exact h.2) (by decide) (fun w0 w h=>HB.out w0 w (h.pick 7 [])))
                        clear hs1 HX
                        go_wp2_with fail
                        refine HQ.out.mono ?_
                        rintro _ w9 ⟨nx,na,ne,rfl,H13,hnx,hnr⟩
                        have hnx2:nx<8:=hnx
                        obtain⟨kk,hkk⟩:∃q,3+nx=q:=⟨_,rfl⟩
                        have y8:3+(nx:Int)=(kk:Int):=by omega
                        have HX:=Lib.hid H13
                        have HR:Hid ((ne=0/\na<=8 * n/\SL=PI.fill mm acc 0 kk na)∨(ne≠0/\SL=.error ne)):=Lib.hid (by
                          rcases hnr with ⟨h,_,h2⟩ | ⟨h,_,⟨_,h2⟩ | ⟨h2,_⟩⟩
                          · refine .inl ⟨h,HPS.out _ _ _ _ h2,?_⟩
                            rw [HS1.out,h2,<- hkk]; rfl
                          · exact .inr ⟨h,by rw [HS1.out,h2]; rfl⟩
                          · exact absurd rfl h2)
                        have hkb:1<=kk/\kk<=149:=by omega
                        clear HQ H13 hnr hnx hkk
                        go_wp2_with fail
                        go_meet
                        exact⟨0,kk,na,ne,rfl,rfl,hkb.1,hkb.2,HR,HX.out⟩
                      have q17:((sx:Int) == 17)=false:=by rw [beq_eq_false_iff_ne]; omega
                      by_cases h18:sx=18
                      · have q18:((sx:Int) == 18)=true:=by rw [beq_iff_eq]; omega
                        have HSG:Hid (se=0/\PI.sign (PBits.ofB B) fj a=.ok (sa,18)):=Lib.hid (by
                          rcases HSR.out with ⟨h,_,h2⟩ | ⟨_,h,_⟩
                          · rw [h18] at h2; exact⟨h,h2⟩
                          · omega)
                        have hse:=HSG.out.1
                        subst hse
                        have hs1:=PI.stepL_18 (many:=mm) (acc:=acc) HSG.out.2
                        rw [HSL.out] at hs1
                        have HS1:=Lib.hid hs1
                        have HQ:=Lib.hid (vnumber_any g AA n c B sa O most bl 0 7 HX.out HN.out hnm (fun _=>by
                          have h:=PI.sign_ok (by rw [PBits.ofB_length,<- HN.out]; rcases HKE.out.2 with ⟨_,h,_⟩ | ⟨h,_⟩; exact h; exact absurd rfl h) HSG.out.2
                          rw [PBits.ofB_length,<- HN.out] at h; exact h.2) (by decide) (fun w0 w h=>HB.out w0 w (h.pick 7 [])))
                        clear hs1 HX
                        go_wp2_with fail
                        refine HQ.out.mono ?_
                        rintro _ w9 ⟨nx,na,ne,rfl,H13,hnx,hnr⟩
                        have hnx2:nx<128:=hnx
                        obtain⟨kk,hkk⟩:∃q,11+nx=q:=⟨_,rfl⟩
                        have y8:11+(nx:Int)=(kk:Int):=by omega
                        have HX:=Lib.hid H13
                        have HR:Hid ((ne=0/\na<=8 * n/\SL=PI.fill mm acc 0 kk na)∨(ne≠0/\SL=.error ne)):=Lib.hid (by
                          rcases hnr with ⟨h,_,h2⟩ | ⟨h,_,⟨_,h2⟩ | ⟨h2,_⟩⟩
                          · refine .inl ⟨h,HPS.out _ _ _ _ h2,?_⟩
                            rw [HS1.out,h2,<- hkk]; rfl
                          · exact .inr ⟨h,by rw [HS1.out,h2]; rfl⟩
                          · exact absurd rfl h2)
                        have hkb:1<=kk/\kk<=149:=by omega
                        clear HQ H13 hnr hnx hkk
                        go_wp2_with fail
                        go_meet
                        exact⟨0,kk,na,ne,rfl,rfl,hkb.1,hkb.2,HR,HX.out⟩
                      have q18:((sx:Int) == 18)=false:=by rw [beq_eq_false_iff_ne]; omega
                      have HR:Hid ((se=0/\sa<=8 * n/\SL=PI.fill mm acc sx 1 sa)∨(se≠0/\SL=.error se)):=Lib.hid (by
                        rcases HSR.out with ⟨h,_,h2⟩ | ⟨h,_,⟨_,h2⟩ | ⟨h2,_⟩⟩
                        · refine .inl ⟨h,?_,by rw [<- HSL.out]; exact PI.stepL_s h2 h16 h17 h18⟩
                          have h3:=PI.sign_ok (by rw [PBits.ofB_length,<- HN.out]; rcases HKE.out.2 with ⟨_,h,_⟩ | ⟨h,_⟩; exact h; exact absurd rfl h) h2
                          rw [PBits.ofB_length,<- HN.out] at h3; exact h3.2
                        · exact .inr ⟨h,by rw [<- HSL.out]; exact PI.stepL_err h2⟩
                        · exact absurd rfl h2)
                      go_wp2_with fail
                      go_meet
                      exact⟨sx,1,sa,se,rfl,rfl,Nat.le_refl _,by decide,HR,HX.out⟩
                    case rest =>
                      obtain⟨vv,kk,a2,e2,rfl,rfl,hk1,hk2,HR,H12⟩:=hcut
                      clear HX HSR hsx
                      obtain⟨tt,htt⟩:∃q,vn+kk=q:=⟨_,rfl⟩
                      have y9:(vn:Int)+(kk:Int)=(tt:Int):=by omega
                      have HX:=Lib.hid H12
                      have htb:tt<=500:=by omega
                      clear H12
                      go_upto_if 115 with (fail)
                      go_cut [13] from 66 to 126 (fun s13 wx=>s13=.int .i64 (kk:Int)/\∃a3 e3:Nat,Hid ((e3=0/\a3<=8 * n/\tt<=mm/\SL=.ok (a3,acc++List.replicate kk vv))∨(e3≠0/\SL=.error e3))/\Sp w0 (SmB g (.slice AA n c) a3 O most bl e3::Row 3 1 (.slice VA vn vc) vn (cellsN acc)::Row 47 1 (.slice C 19 k) 19 (rowU (PH.codeAt fj) 19)::Bk g10 101 [.slice (some ad1) 19 19,.slice C 19 k,.int .i64 (PI.mostN fj:Int)]::Row 3 1 (.slice (some ad1) 19 19) 19 (cellsN fj)::Bk go 3 (cellsN PI.orderT)::Bk g2 101 [.slice none 0 0,.slice none 0 0,.int .i64 0]::Bk g3 101 [.slice none 0 0,.slice none 0 0,.int .i64 0]::L) wx)
                      case first =>
                        by_cases hbig:mm<tt
                        · have q9:(tt:Int) > (mm:Int):=by omega
                          obtain⟨er,her⟩:∃er,(if e2=0 then 20 else e2)=er:=⟨_,rfl⟩
                          have HF:=vfail_any g a2 O most bl e2 20 (.slice AA n c) HX.out
                          rw [her] at HF
                          replace HF:=Lib.hid HF
                          have HR2:Hid (er≠0/\SL=.error er):=Lib.hid (by
                            rw [<- her]
                            rcases HR.out with ⟨h,_,h2⟩ | ⟨h,h2⟩
                            · rw [if_pos h]
                              refine⟨by decide,?_⟩
                              rw [h2]
                              unfold PI.fill
                              rw [if_pos (by rw [<- HVL.out]; omega)]
                            · rw [if_neg h]; exact⟨h,h2⟩)
                          clear HX her
                          go_wp2_with fail
                          refine HF.out.mono ?_
                          rintro _ w9 ⟨rfl,H13⟩
                          go_wp2_with fail
                          go_meet
                          exact⟨rfl,a2,er,Lib.hid (.inr HR2.out),H13⟩
                        · have q9:¬ (tt:Int) > (mm:Int):=by omega
                          have HR2:Hid ((e2=0/\a2<=8 * n/\tt<=mm/\SL=.ok (a2,acc++List.replicate kk vv))∨(e2≠0/\SL=.error e2)):=Lib.hid (by
                            rcases HR.out with ⟨h,h1,h2⟩ | h
                            · refine .inl ⟨h,h1,by omega,?_⟩
                              rw [h2]
                              unfold PI.fill
                              rw [if_neg (by rw [<- HVL.out]; omega)]
                            · exact .inr h)
                          go_wp2_with fail
                          go_meet
                          exact⟨rfl,a2,e2,HR2,HX.out⟩
                      case rest =>
                        obtain⟨rfl,a3,e3,HR3,H13⟩:=hcut
                        clear HX HR
                        have HNX:Hid ((e3=0/\a3<=8 * n/\tt<=mm/\∃f,mm<tt+f/\PI.lens (PBits.ofB B) fj mm f a3 (acc++List.replicate kk vv)=LT)∨(e3≠0/\T=.error e3)):=Lib.hid (by
                          obtain⟨h0,h1⟩:=HKE.out
                          rcases h1 with ⟨_,_,_,f,hf,hf2⟩ | ⟨h1,_⟩
                          · obtain⟨f,rfl⟩:∃f',f=f'+1:=⟨f - 1,by omega⟩
                            rw [PI.lens,if_pos (by rw [<- h0]; exact hl),HSL.out] at hf2
                            rcases HR3.out with ⟨k0,k1,k3,k4⟩ | ⟨k0,k4⟩
                            · rw [k4] at hf2
                              exact .inl ⟨k0,k1,k3,f,by omega,hf2⟩
                            · rw [k4] at hf2
                              refine .inr ⟨k0,?_⟩
                              rw [<- HK8.out,<- hf2]
                              rfl
                          · exact absurd rfl h1)
                        have HX:=Lib.hid H13
                        have HTT:=Lib.hid htt
                        clear H13 HR3 HKE y9 htt
                        go_wp2_with fail
                        go_loopw [11,14] (fun lv iv wr=>∃(i vm vc7:Nat) (V7:Option Addr),iv=.int .i64 (i:Int)/\lv=.slice V7 vm vc7/\i<=kk/\vm<=500/\Hid (vm=vn+i)/\Sp w0 (Row 3 1 (.slice V7 vm vc7) vm (cellsN (acc++List.replicate i vv))::SmB g (.slice AA n c) a3 O most bl e3::Row 47 1 (.slice C 19 k) 19 (rowU (PH.codeAt fj) 19)::Bk g10 101 [.slice (some ad1) 19 19,.slice C 19 k,.int .i64 (PI.mostN fj:Int)]::Row 3 1 (.slice (some ad1) 19 19) 19 (cellsN fj)::Bk go 3 (cellsN PI.orderT)::Bk g2 101 [.slice none 0 0,.slice none 0 0,.int .i64 0]::Bk g3 101 [.slice none 0 0,.slice none 0 0,.int .i64 0]::L) wr) (fun _ iv _=>kk - (intOf iv).toNat)
                        case atStart =>
                          refine⟨0,vn,vc,VA,rfl,rfl,Nat.zero_le _,hvn,Lib.hid rfl,?_⟩
                          rw [show List.replicate 0 vv=[] from rfl,List.append_nil]
                          exact HX.out.swap
                        case round =>
                          clear HX
                          obtain⟨i,vm,vc7,V7,rfl,rfl,hik,hvm,HVM,H14⟩:=hrel
                          by_cases hlt:i<kk
                          · have k9:(i:Int)<(kk:Int):=by omega
                            have h3:=H14.newBk [.int .i64 (vv:Int)] 3
                            have HR3:=Lib.hid (Rd.of_blk (h3.blk 0 rfl))
                            have HH3:=Lib.hid (h3.pick 2 [1])
                            have hvm2:vm+1<=500:=by have:=HVM.out; have:=HTT.out; omega
                            clear h3 H14
                            go_wp2_with (at_builtin; refine wpList_append_sp rfl _ _ 51 rfl 3 i0 (.int .i64 0) 1 8 Tryd.underlying51 hi hz0 hz1 hz2 rfl (by decide) _ vm (cellsN (acc++List.replicate i vv)) rfl HH3.out (some ⟨_,0,none⟩) 1 1 [.int .i64 (vv:Int)] rfl rfl HR3.out (by intro u hu; simp only [List.mem_singleton] at hu; subst hu; rfl) (by unfold maxLen; omega) (by omega) ?_)
                            intro v4 w9 H15 _
                            obtain⟨V8,vc8,rfl,_,_⟩:=Row.form H15 0 rfl
                            have HXX:=Lib.hid H15
                            clear HH3 HR3 H15
                            go_wp2_with fail
                            go_roundw
                            case rel =>
                              refine⟨i+1,vm+1,vc8,V8,by go_num,rfl,by omega,hvm2,Lib.hid (by have:=HVM.out; omega),?_⟩
                              have ec:cellsN (acc++List.replicate (i+1) vv)=cellsN (acc++List.replicate i vv)++[.int .i64 (vv:Int)]:=by
                                rw [List.replicate_succ',<- List.append_assoc]
                                unfold cellsN
                                rw [List.map_append]
                                rfl
                              rw [ec]
                              exact HXX.out
                            case measure=>first | (simp [intOf]; omega) | simp [intOf]
                          · have k9:¬ (i:Int)<(kk:Int):=by omega
                            obtain rfl:i=kk:=by omega
                            have HXX:=Lib.hid H14.swap
                            have hvt:vm=tt:=by have:=HVM.out; have:=HTT.out; omega
                            clear H14
                            subst hvt
                            go_wp2_with fail
                            go_roundw
                            case rel =>
                              refine⟨vm,vc7,V7,a3,e3,acc++List.replicate i vv,rfl,hvm,Lib.hid ⟨?_,HNX.out⟩,HXX.out⟩
                              rw [List.length_append,List.length_replicate,<- HVL.out]
                              exact HVM.out
                            case measure =>
                              have:=HVM.out
                              first | (simp [lenV]; omega) | simp [lenV]
                  · have HX:=Lib.hid (H11.pick 8 [0,6,7,1,2,3,4,5])
                    have k2:((e:Int) == 0)=false:=by rw [beq_eq_false_iff_ne]; omega
                    have HTE:Hid (e≠0/\T=.error e):=by
                      rcases HKE.out.2 with ⟨h,_⟩ | h
                      · exact absurd h he
                      · exact Lib.hid h
                    clear H11 HKE c5
                    have H:=HX.out
                    have g1x:=hg1.out
                    have g2x:=hg2.out
                    have c5:wr.cell? ⟨g,5,none⟩=some (.int .i64 (e:Int)):=H.cell 0 rfl 5
                    have ke:(((e:Nat):Int) != 0)=true:=by have:=HTE.out.1; first | (simp; omega) | simp
                    have ke2:¬ ((e:Nat):Int)=0:=by have:=HTE.out.1; omega
                    have tg20:wr.cell? ⟨g2,0,none⟩=some (.slice none 0 0):=H.cell 1 rfl 0
                    have zg20:wr.frozen? ⟨g2,0,none⟩=false:=H.frozen 1 rfl 0
                    have tg21:wr.cell? ⟨g2,1,none⟩=some (.slice none 0 0):=H.cell 1 rfl 1
                    have zg21:wr.frozen? ⟨g2,1,none⟩=false:=H.frozen 1 rfl 1
                    have tg22:wr.cell? ⟨g2,2,none⟩=some (.int .i64 0):=H.cell 1 rfl 2
                    have zg22:wr.frozen? ⟨g2,2,none⟩=false:=H.frozen 1 rfl 2
                    have tg30:wr.cell? ⟨g3,0,none⟩=some (.slice none 0 0):=H.cell 2 rfl 0
                    have zg30:wr.frozen? ⟨g3,0,none⟩=false:=H.frozen 2 rfl 0
                    have tg31:wr.cell? ⟨g3,1,none⟩=some (.slice none 0 0):=H.cell 2 rfl 1
                    have zg31:wr.frozen? ⟨g3,1,none⟩=false:=H.frozen 2 rfl 1
                    have tg32:wr.cell? ⟨g3,2,none⟩=some (.int .i64 0):=H.cell 2 rfl 2
                    have zg32:wr.frozen? ⟨g3,2,none⟩=false:=H.frozen 2 rfl 2
                    have HY:=Lib.hid (((((((H.pick 3 [1,0,2]).set 0 (.slice none 0 0)).set 1 (.slice none 0 0)).set 2 (.int .i64 0)).pick 3 [2,0,1]).set 0 (.slice none 0 0)).set 1 (.slice none 0 0))
                    have HZ:=Lib.hid (HY.out.set 2 (.int .i64 0))
                    clear H HY
                    go_wp2_with fail
                    refine bodyPost_ret (vres_c2 rfl _ rfl rfl (bk_cells HZ.out 1 rfl) (bk_cells HZ.out 0 rfl) Tryd.isAgg101 Tryd.sizeOf101 rfl) rfl ?_
                    exact DvDyn.no HTE.out.2 HTE.out.1 (HZ.out.pick 8 [2])
                · have k1:¬ (vn:Int)<(mm:Int):=by omega
                  by_cases he:e=0
                  · subst he
                    have HEQ:Hid (vn=acc.length/\vn=mm/\a<=8 * n/\PI.dynEnd ll (a,acc)=T):=by
                      obtain⟨h0,h1⟩:=HKE.out
                      rcases h1 with ⟨_,h2,h3,f,hf,hf2⟩ | ⟨h1,_⟩
                      · obtain⟨f,rfl⟩:∃f',f=f'+1:=⟨f - 1,by omega⟩
                        rw [PI.lens,if_neg (by rw [<- h0]; exact hl)] at hf2
                        exact Lib.hid ⟨h0,by omega,h2,by rw [<- HK8.out,<- hf2]; rfl⟩
                      · exact absurd rfl h1
                    have hvm:=HEQ.out.2.1
                    subst hvm
                    have HVL:=Lib.hid HEQ.out.1
                    have HTD:=Lib.hid HEQ.out.2.2.2
                    obtain⟨la,rfl⟩:=slice_of H11 1 rfl (by omega) (by rw [cellsN,List.length_map]; exact HVL.out.symm)
                    have hc256:wr.cell? (la.add 256)=some (.int .i64 ((acc.getD 256 0:Nat):Int)):=by
                      obtain⟨ad2,e2,hc2⟩:=(row_ent 1 rfl _ _ H11).at_ (k:=256) (by rw [cellsN,List.length_map,<- HVL.out]; omega)
                      injection e2 with e2
                      subst e2
                      rw [hc2]
                      have h2:256<acc.length:=by rw [<- HVL.out]; omega
                      rw [List.getD_eq_getElem?_getD,List.getElem?_eq_getElem h2]
                      simp [cellsN]
                    obtain⟨x6,hx6⟩:∃x6,acc.getD 256 0=x6:=⟨_,rfl⟩
                    rw [hx6] at hc256
                    have hc257:wr.cell? ⟨la.block,la.off+256,none⟩=some (.int .i64 (x6:Int)):=hc256
                    have k3:(256:Int)<(vn:Int):=by omega
                    obtain⟨_,_,_,hvc,hvcm⟩:=Row.form H11 1 rfl
                    have hvc2:vn<=vc:=by
                      obtain⟨A9,c9,e9,h8,h9⟩:=Row.form H11 1 rfl
                      injection e9 with _ _ e9
                      subst e9
                      exact h8
                    clear HKE hl HEQ hvc hvcm
                    by_cases h6:x6=0
                    · have HTE:Hid ((20:Nat)≠0/\T=.error 20):=Lib.hid ⟨by decide,by rw [<- HTD.out]; unfold PI.dynEnd; rw [if_pos (by rw [hx6]; exact h6)]⟩
                      have k4:((x6:Int) == 0)=true:=by simp [h6]
                      have k5:(x6:Int)=0:=by omega
                      have HF:=Lib.hid (vfail_ok g (.slice AA n c) a O most bl 20 H11)
                      clear H11
                      go_wp2_with fail
                      refine HF.out.mono ?_
                      rintro _ w9 ⟨rfl,H12⟩
                      have HX:=Lib.hid (H12.pick 8 [0,6,7,1,2,3,4,5])
                      clear H12 HF c5
                      have H:=HX.out
                      have g1x:=hg1.out
                      have g2x:=hg2.out
                      have tg20:w9.cell? ⟨g2,0,none⟩=some (.slice none 0 0):=H.cell 1 rfl 0
                      have zg20:w9.frozen? ⟨g2,0,none⟩=false:=H.frozen 1 rfl 0
                      have tg21:w9.cell? ⟨g2,1,none⟩=some (.slice none 0 0):=H.cell 1 rfl 1
                      have zg21:w9.frozen? ⟨g2,1,none⟩=false:=H.frozen 1 rfl 1
                      have tg22:w9.cell? ⟨g2,2,none⟩=some (.int .i64 0):=H.cell 1 rfl 2
                      have zg22:w9.frozen? ⟨g2,2,none⟩=false:=H.frozen 1 rfl 2
                      have tg30:w9.cell? ⟨g3,0,none⟩=some (.slice none 0 0):=H.cell 2 rfl 0
                      have zg30:w9.frozen? ⟨g3,0,none⟩=false:=H.frozen 2 rfl 0
                      have tg31:w9.cell? ⟨g3,1,none⟩=some (.slice none 0 0):=H.cell 2 rfl 1
                      have zg31:w9.frozen? ⟨g3,1,none⟩=false:=H.frozen 2 rfl 1
                      have tg32:w9.cell? ⟨g3,2,none⟩=some (.int .i64 0):=H.cell 2 rfl 2
                      have zg32:w9.frozen? ⟨g3,2,none⟩=false:=H.frozen 2 rfl 2
                      have HY:=Lib.hid (((((((H.pick 3 [1,0,2]).set 0 (.slice none 0 0)).set 1 (.slice none 0 0)).set 2 (.int .i64 0)).pick 3 [2,0,1]).set 0 (.slice none 0 0)).set 1 (.slice none 0 0))
                      have HZ:=Lib.hid (HY.out.set 2 (.int .i64 0))
                      clear H HY
                      go_wp2_with fail
                      refine bodyPost_ret (vres_c2 rfl _ rfl rfl (bk_cells HZ.out 1 rfl) (bk_cells HZ.out 0 rfl) Tryd.isAgg101 Tryd.sizeOf101 rfl) rfl ?_
                      exact DvDyn.no HTE.out.2 HTE.out.1 (HZ.out.pick 8 [2])
                    · have k4:((x6:Int) == 0)=false:=by rw [beq_eq_false_iff_ne]; omega
                      obtain⟨lt,hlt2⟩:∃lt,acc.take ll=lt:=⟨_,rfl⟩
                      obtain⟨ld,hld2⟩:∃ld,acc.drop ll=ld:=⟨_,rfl⟩
                      have HFT3:Hid ((if PI.book lt=true then (if PI.book ld=true then .ok (a,lt,ld) else .error 20) else .error 20)=T):=Lib.hid (by
                        have h:=HTD.out
                        unfold PI.dynEnd at h
                        rw [if_neg (by rw [hx6]; exact h6)] at h
                        simp only at h
                        rw [hlt2,hld2] at h
                        exact h)
                      have j1:(ll:Int)<=(vn:Int):=by omega
                      have j2:(ll:Int)<=(vc:Int):=by omega
                      have j3:¬ vc=ll:=by omega
                      have j5:vn - ll=dd:=by omega
                      have HT1:Hid (ll=lt.length):=Lib.hid (by rw [<- hlt2,List.length_take,<- HVL.out]; omega)
                      have HD1:Hid (dd=ld.length):=Lib.hid (by rw [<- hld2,List.length_drop,<- HVL.out]; omega)
                      have HMD:Hid (vn=ll+dd):=Lib.hid (by omega)
                      have HAC:Hid (acc=lt++ld):=Lib.hid (by rw [<- hlt2,<- hld2,List.take_append_drop])
                      have hLt:∀w,Rd w (some la) (cellsN acc)->Rd w (some la) (cellsN lt):=fun w h=>by
                        have:=rd_take h ll
                        rw [<- hlt2]
                        unfold cellsN at this ⊢
                        rw [List.map_take]; exact this
                      have hLd:∀w,Rd w (some la) (cellsN acc)->Rd w (some (la.add ll)) (cellsN ld):=fun w h=>by
                        have:=h.part ll (acc.length - ll)
                        rw [<- hld2]
                        unfold cellsN at this ⊢
                        rw [List.map_drop]
                        rw [List.take_of_length_le (by rw [List.length_drop,List.length_map]; omega)] at this
                        exact this
                      have HLT2:=Lib.hid hLt
                      have HLD2:=Lib.hid hLd
                      have H12:=H11.pick 8 [0,1,6,7]
                      have HB1:=Lib.hid (vbook_any g (some la) ll vc a O most bl 0 (.slice AA n c) lt H12 HT1.out (by omega) (fun w0 w h=>by rw [cellsN_cast]; exact HLT2.out _ (row_ent 0 rfl w0 w h)))
                      clear H11 hx6 hlt2 hld2 hLt hLd HTD H12
                      go_upto_region 43 with (fail)
                      go_cut [15] from 142 to 153 (fun s15 wx=>∃(g15:Nat) (p1 q1:Value) (r1 er1:Nat) (X1:Pr),s15=.pointer (some ⟨g15,0,none⟩)/\(p1.oneCell'=true/\q1.oneCell'=true)/\Hid (BkR (some la) ll vc lt 0 p1 q1 r1 er1 X1)/\Sp w0 (SmB g (.slice AA n c) a O most bl er1::Bk g15 101 [p1,q1,.int .i64 (r1:Int)]::X1::Row 3 1 (.slice (some la) vn vc) vn (cellsN acc)::Bk g2 101 [.slice none 0 0,.slice none 0 0,.int .i64 0]::Bk g3 101 [.slice none 0 0,.slice none 0 0,.int .i64 0]::L) wx)
                      case first =>
                        go_wp2_with fail
                        refine HB1.out.mono ?_
                        rintro _ w9 ⟨p1,q1,r1,er1,X1,rfl,H13,hone,hbk⟩
                        have HK1:=Lib.hid hbk
                        rcases hbk with ⟨_,rfl,rfl,C1,k1,rfl,rfl,rfl⟩ | ⟨_,rfl,rfl,rfl,rfl⟩
                        · have H14:=H13.newBk [.slice (some la) ll vc,.slice C1 ll k1,.int .i64 (PI.mostN lt:Int)] 101
                          have HX:=Lib.hid H14.swap
                          clear H13 H14
                          go_wp2_with fail
                          go_meet
                          exact⟨w9.heap.size,_,_,_,_,_,rfl,hone,HK1,HX.out⟩
                        · have H14:=H13.newBk [.slice none 0 0,.slice none 0 0,.int .i64 0] 101
                          have HX:=Lib.hid H14.swap
                          clear H13 H14
                          go_wp2_with fail
                          go_meet
                          exact⟨w9.heap.size,_,_,_,_,_,rfl,hone,HK1,HX.out⟩
                      case rest =>
                        obtain⟨g15,p1,q1,r1,er1,X1,rfl,hone1,HK1,H13⟩:=hcut
                        have HB2:=Lib.hid (vbook_any g (some (la.add ll)) dd (vc - ll) a O most bl er1 (.slice AA n c) ld H13 HD1.out (by omega) (fun w0 w h=>by rw [cellsN_cast]; exact HLD2.out _ (row_ent 2 rfl w0 w h)))
                        clear HB1 H13 c5
                        go_upto_region 44 with (fail)
                        go_cut [16] from 147 to 153 (fun s16 wx=>∃(g16:Nat) (p2 q2:Value) (r2 er2:Nat) (X2:Pr),s16=.pointer (some ⟨g16,0,none⟩)/\(p2.oneCell'=true/\q2.oneCell'=true)/\Hid (BkR (some (la.add ll)) dd (vc - ll) ld er1 p2 q2 r2 er2 X2)/\Sp w0 (SmB g (.slice AA n c) a O most bl er2::Bk g16 101 [p2,q2,.int .i64 (r2:Int)]::X2::Bk g15 101 [p1,q1,.int .i64 (r1:Int)]::X1::Row 3 1 (.slice (some la) vn vc) vn (cellsN acc)::Bk g2 101 [.slice none 0 0,.slice none 0 0,.int .i64 0]::Bk g3 101 [.slice none 0 0,.slice none 0 0,.int .i64 0]::L) wx)
                        case first =>
                          go_wp2_with fail
                          refine HB2.out.mono ?_
                          rintro _ w9 ⟨p2,q2,r2,er2,X2,rfl,H13,hone,hbk⟩
                          have HK2:=Lib.hid hbk
                          rcases hbk with ⟨_,rfl,rfl,C1,k1,rfl,rfl,rfl⟩ | ⟨_,rfl,rfl,rfl,rfl⟩
                          · have H14:=H13.newBk [.slice (some (la.add ll)) dd (vc - ll),.slice C1 dd k1,.int .i64 (PI.mostN ld:Int)] 101
                            have HX:=Lib.hid H14.swap
                            clear H13 H14
                            go_wp2_with fail
                            go_meet
                            exact⟨w9.heap.size,_,_,_,_,_,rfl,hone,HK2,HX.out⟩
                          · have H14:=H13.newBk [.slice none 0 0,.slice none 0 0,.int .i64 0] 101
                            have HX:=Lib.hid H14.swap
                            clear H13 H14
                            go_wp2_with fail
                            go_meet
                            exact⟨w9.heap.size,_,_,_,_,_,rfl,hone,HK2,HX.out⟩
                        case rest =>
                          obtain⟨g16,p2,q2,r2,er2,X2,rfl,hone2,HK2,H13⟩:=hcut
                          have HX9:Hid (Sp w0 (Bk g2 101 [.slice none 0 0,.slice none 0 0,.int .i64 0]::Bk g3 101 [.slice none 0 0,.slice none 0 0,.int .i64 0]::SmB g (.slice AA n c) a O most bl er2::Bk g16 101 [p2,q2,.int .i64 (r2:Int)]::Bk g15 101 [p1,q1,.int .i64 (r1:Int)]::X2::X1::Row 3 1 (.slice (some la) vn vc) vn (cellsN acc)::L) wc):=Lib.hid (H13.pick 8 [6,7,0,1,3,2,4,5])
                          have HCA:Hid (Ent (SmB g (.slice AA n c) a O most bl er2::Bk g16 101 [p2,q2,.int .i64 (r2:Int)]::Bk g15 101 [p1,q1,.int .i64 (r1:Int)]::X2::X1::Row 3 1 (.slice (some la) vn vc) vn (cellsN acc)::L) fun w=>w.cell? ⟨g15,0,none⟩=some p1/\w.cell? ⟨g15,1,none⟩=some q1/\w.cell? ⟨g15,2,none⟩=some (.int .i64 (r1:Int))):=Lib.hid fun _ _ q=>⟨q.cell 2 rfl 0,q.cell 2 rfl 1,q.cell 2 rfl 2⟩
                          have HCD:Hid (Ent (SmB g (.slice AA n c) a O most bl er2::Bk g16 101 [p2,q2,.int .i64 (r2:Int)]::Bk g15 101 [p1,q1,.int .i64 (r1:Int)]::X2::X1::Row 3 1 (.slice (some la) vn vc) vn (cellsN acc)::L) fun w=>w.cell? ⟨g16,0,none⟩=some p2/\w.cell? ⟨g16,1,none⟩=some q2/\w.cell? ⟨g16,2,none⟩=some (.int .i64 (r2:Int))):=Lib.hid fun _ _ q=>⟨q.cell 1 rfl 0,q.cell 1 rfl 1,q.cell 1 rfl 2⟩
                          clear HB2 H13
                          go_upto_region 45 with (fail)
                          refine wp_region_sc (L:=SmB g (.slice AA n c) a O most bl er2::Bk g16 101 [p2,q2,.int .i64 (r2:Int)]::Bk g15 101 [p1,q1,.int .i64 (r1:Int)]::X2::X1::Row 3 1 (.slice (some la) vn vc) vn (cellsN acc)::L) [some (.agg #[p1,q1,.int .i64 (r1:Int)]),some (.agg #[p2,q2,.int .i64 (r2:Int)]),some (undef),some (undef)] (fun _ _=>True) (fun ix vx=>match ix with | 2=>(fun _=>[Bk g2 101 [p1,q1,.int .i64 (r1:Int)]]) vx | 3=>(fun _=>[Bk g3 101 [p2,q2,.int .i64 (r2:Int)]]) vx | _=>[]) (fun ix=>match ix with | 2=>[Bk g2 101 [.slice none 0 0,.slice none 0 0,.int .i64 0]] | 3=>[Bk g3 101 [.slice none 0 0,.slice none 0 0,.int .i64 0]] | _=>[]) 4 154
                            [some 152,some 153,none,none]
                            [[],[],[0,0],[1,2,0,1,2]]
                            [[],[],[0],[0,1,2]]
                            [[],[],[],[]] [[],[],[],[]] [(2,.pointer (some ⟨g2,0,none⟩)),(3,.pointer (some ⟨g3,0,none⟩)),(15,.pointer (some ⟨g15,0,none⟩)),(16,.pointer (some ⟨g16,0,none⟩))]
                            (by kernel_rfl) rfl (by decide) (by rfl) (by decide +kernel) rfl rfl (by simp) (HX9.out) ?hstep ?hend
                          case hstep =>
                            refine⟨?p0,⟨?p1,⟨?p2,⟨?p3,trivial⟩⟩⟩⟩
                            case p0 =>
                              intro x wx A rest hDf hF hS hE H K hK0
                              replace hDf:=Lib.hid hDf
                              have e15:A.tmps[15]?.getD undef=.pointer (some ⟨g15,0,none⟩):=factsE_get hF (15,.pointer (some ⟨g15,0,none⟩)) (by simp) (by rfl)
                              replace H:Sp w0 (rest) wx:=H
                              have hK:Hid (∀(v:Value) (w' : World),(v=.agg #[p1,q1,.int .i64 (r1:Int)])->Sp w0 (rest) w'->K (A.put (some 152) v) w'):=Lib.hid hK0
                              clear hK0 hF hS
                              obtain⟨d0,d1,d2⟩:=hE _ HCA.out _ _ H
                              change Oper.wp _ _ A wx K _
                              go_step
                              exact hK.out _ _ rfl (H)
                            case p1 =>
                              intro x wx A rest hDf hF hS hE H K hK0
                              replace hDf:=Lib.hid hDf
                              have e16:A.tmps[16]?.getD undef=.pointer (some ⟨g16,0,none⟩):=factsE_get hF (16,.pointer (some ⟨g16,0,none⟩)) (by simp) (by rfl)
                              replace H:Sp w0 (rest) wx:=H
                              have hK:Hid (∀(v:Value) (w' : World),(v=.agg #[p2,q2,.int .i64 (r2:Int)])->Sp w0 (rest) w'->K (A.put (some 153) v) w'):=Lib.hid hK0
                              clear hK0 hF hS
                              obtain⟨d0,d1,d2⟩:=hE _ HCD.out _ _ H
                              change Oper.wp _ _ A wx K _
                              go_step
                              exact hK.out _ _ rfl (H)
                            case p2 =>
                              intro x wx A rest hDf hF hS hE H K hK0
                              replace hDf:=Lib.hid hDf
                              have e2:A.tmps[2]?.getD undef=.pointer (some ⟨g2,0,none⟩):=factsE_get hF (2,.pointer (some ⟨g2,0,none⟩)) (by simp) (by rfl)
                              have e152:A.tmps[152]?.getD undef=.agg #[p1,q1,.int .i64 (r1:Int)]:=((hS 0 (by decide)).2 152 rfl).trans (hS 0 (by decide)).1
                              replace H:Sp w0 ((Bk g2 101 [.slice none 0 0,.slice none 0 0,.int .i64 0])::rest) wx:=H
                              have hK:Hid (∀(v:Value) (w' : World),(v=undef)->Sp w0 ((Bk g2 101 [p1,q1,.int .i64 (r1:Int)])::rest) w'->K (A.put none v) w'):=Lib.hid hK0
                              clear hK0 hF hS hE
                              obtain⟨w9,hst,H9⟩:=bk_store (P:=Tryd.prog) [p1,q1,.int .i64 (r1:Int)] 0 _ wx H (by show 0+3<=3; omega) (by intro u hu; simp only [List.mem_cons,List.not_mem_nil,or_false] at hu; rcases hu with rfl | rfl | rfl; exact hone1.1; exact hone1.2; rfl)
                              change Oper.wp _ _ A wx K _
                              exact wp_store_agg 101 _ _ rfl _ [p1,q1,.int .i64 (r1:Int)] (ev e2) (ev e152) hst Tryd.sizeOf101 (hK.out undef _ rfl H9)
                            case p3 =>
                              intro x wx A rest hDf hF hS hE H K hK0
                              replace hDf:=Lib.hid hDf
                              have e3:A.tmps[3]?.getD undef=.pointer (some ⟨g3,0,none⟩):=factsE_get hF (3,.pointer (some ⟨g3,0,none⟩)) (by simp) (by rfl)
                              have e153:A.tmps[153]?.getD undef=.agg #[p2,q2,.int .i64 (r2:Int)]:=((hS 1 (by decide)).2 153 rfl).trans (hS 1 (by decide)).1
                              replace H:Sp w0 ((Bk g3 101 [.slice none 0 0,.slice none 0 0,.int .i64 0])::rest) wx:=H
                              have hK:Hid (∀(v:Value) (w' : World),(v=undef)->Sp w0 ((Bk g3 101 [p2,q2,.int .i64 (r2:Int)])::rest) w'->K (A.put none v) w'):=Lib.hid hK0
                              clear hK0 hF hS hE
                              obtain⟨w9,hst,H9⟩:=bk_store (P:=Tryd.prog) [p2,q2,.int .i64 (r2:Int)] 0 _ wx H (by show 0+3<=3; omega) (by intro u hu; simp only [List.mem_cons,List.not_mem_nil,or_false] at hu; rcases hu with rfl | rfl | rfl; exact hone2.1; exact hone2.2; rfl)
                              change Oper.wp _ _ A wx K _
                              exact wp_store_agg 101 _ _ rfl _ [p2,q2,.int .i64 (r2:Int)] (ev e3) (ev e153) hst Tryd.sizeOf101 (hK.out undef _ rfl H9)
                          case hend =>
                            intro x wx A hA hS H
                            replace H:Sp w0 ((Bk g2 101 [p1,q1,.int .i64 (r1:Int)])::(Bk g3 101 [p2,q2,.int .i64 (r2:Int)])::SmB g (.slice AA n c) a O most bl er2::Bk g16 101 [p2,q2,.int .i64 (r2:Int)]::Bk g15 101 [p1,q1,.int .i64 (r1:Int)]::X2::X1::Row 3 1 (.slice (some la) vn vc) vn (cellsN acc)::L) wx:=H
                            clear hS
                            simp only [putAll,Act.put,List.setIfInBounds_toArray,List.set_cons_succ,List.set_cons_zero,Nat.reduceAdd] at hA
                            subst hA
                            have HY:=Lib.hid H
                            clear H HX9
                            go_wp2_with fail
                            refine bodyPost_ret (vres_c2 rfl _ rfl rfl (bk_cells HY.out 0 rfl) (bk_cells HY.out 1 rfl) Tryd.isAgg101 Tryd.sizeOf101 rfl) rfl ?_
                            have hfin:=HFT3.out
                            rcases HK1.out with ⟨b1,rfl,rfl,C1,k1,rfl,rfl,rfl⟩ | ⟨b1,rfl,rfl,rfl,rfl⟩
                            · rcases HK2.out with ⟨b2,rfl,rfl,C2,k2,rfl,rfl,rfl⟩ | ⟨b2,rfl,rfl,rfl,rfl⟩
                              · refine DvDyn.yes (m:=lt) (d:=ld) (acc:=acc) (by rw [<- hfin,if_pos b1,if_pos b2]) HT1.out HD1.out HMD.out HAC.out (HY.out.pick 8 [2,6,5,7])
                              · exact DvDyn.no (by rw [<- hfin,if_pos b1,if_neg (by rw [b2]; decide)]; rfl) (by decide) (HY.out.pick 8 [2])
                            · have hx:er2=20:=by
                                rcases HK2.out with ⟨_,h,_⟩ | ⟨_,h,_⟩
                                · exact h
                                · rw [h]; rfl
                              subst hx
                              exact DvDyn.no (by rw [<- hfin,if_neg (by rw [b1]; decide)]) (by decide) (HY.out.pick 8 [2])
                  · have HX:=Lib.hid (H11.pick 8 [0,6,7,1,2,3,4,5])
                    have HTE:Hid (e≠0/\T=.error e):=by
                      rcases HKE.out.2 with ⟨h,_⟩ | h
                      · exact absurd h he
                      · exact Lib.hid h
                    clear H11 HKE c5
                    have H:=HX.out
                    have g1x:=hg1.out
                    have g2x:=hg2.out
                    have c5:wr.cell? ⟨g,5,none⟩=some (.int .i64 (e:Int)):=H.cell 0 rfl 5
                    have ke:(((e:Nat):Int) != 0)=true:=by have:=HTE.out.1; first | (simp; omega) | simp
                    have ke2:¬ ((e:Nat):Int)=0:=by have:=HTE.out.1; omega
                    have tg20:wr.cell? ⟨g2,0,none⟩=some (.slice none 0 0):=H.cell 1 rfl 0
                    have zg20:wr.frozen? ⟨g2,0,none⟩=false:=H.frozen 1 rfl 0
                    have tg21:wr.cell? ⟨g2,1,none⟩=some (.slice none 0 0):=H.cell 1 rfl 1
                    have zg21:wr.frozen? ⟨g2,1,none⟩=false:=H.frozen 1 rfl 1
                    have tg22:wr.cell? ⟨g2,2,none⟩=some (.int .i64 0):=H.cell 1 rfl 2
                    have zg22:wr.frozen? ⟨g2,2,none⟩=false:=H.frozen 1 rfl 2
                    have tg30:wr.cell? ⟨g3,0,none⟩=some (.slice none 0 0):=H.cell 2 rfl 0
                    have zg30:wr.frozen? ⟨g3,0,none⟩=false:=H.frozen 2 rfl 0
                    have tg31:wr.cell? ⟨g3,1,none⟩=some (.slice none 0 0):=H.cell 2 rfl 1
                    have zg31:wr.frozen? ⟨g3,1,none⟩=false:=H.frozen 2 rfl 1
                    have tg32:wr.cell? ⟨g3,2,none⟩=some (.int .i64 0):=H.cell 2 rfl 2
                    have zg32:wr.frozen? ⟨g3,2,none⟩=false:=H.frozen 2 rfl 2
                    have HY:=Lib.hid (((((((H.pick 3 [1,0,2]).set 0 (.slice none 0 0)).set 1 (.slice none 0 0)).set 2 (.int .i64 0)).pick 3 [2,0,1]).set 0 (.slice none 0 0)).set 1 (.slice none 0 0))
                    have HZ:=Lib.hid (HY.out.set 2 (.int .i64 0))
                    clear H HY
                    go_wp2_with fail
                    refine bodyPost_ret (vres_c2 rfl _ rfl rfl (bk_cells HZ.out 1 rfl) (bk_cells HZ.out 0 rfl) Tryd.isAgg101 Tryd.sizeOf101 rfl) rfl ?_
                    exact DvDyn.no HTE.out.2 HTE.out.1 (HZ.out.pick 8 [2])
            · have HTE:Hid ((20:Nat)≠0/\T=.error 20):=Lib.hid ⟨by decide,by
                rw [<- HK7.out.2]
                unfold PI.dynTail
                rw [if_neg (by rw [hbk]; decide)]⟩
              have H10:=H9.newBk [.slice none 0 0,.slice none 0 0,.int .i64 0] 101
              have HX:=Lib.hid (H10.pick 7 [1,3,4,0,2,5,6])
              rw [if_pos rfl] at HX
              clear HK7 hbk H9 H10
              go_wp2_with fail
              generalize World.alloc w6 _=w7 at HX ⊢
              generalize w6.heap.size=g10 at HX ⊢
              go_loopw [11] (fun v wr=>v=.slice none 0 0/\Sp w0 (SmB g (.slice AA n c) a O most bl 20::Bk g2 101 [.slice none 0 0,.slice none 0 0,.int .i64 0]::Bk g3 101 [.slice none 0 0,.slice none 0 0,.int .i64 0]::L) wr) (fun v _=>0)
              case atStart=>exact⟨rfl,HX.out.pick 7 [0,1,2]⟩
              case round =>
                clear HX
                obtain⟨rfl,H11⟩:=hrel
                have k1:(0:Int)<(mm:Int):=by omega
                have HX:=Lib.hid H11
                clear H11
                have H:=HX.out
                have g1x:=hg1.out
                have g2x:=hg2.out
                have c5:wr.cell? ⟨g,5,none⟩=some (.int .i64 (20:Int)):=H.cell 0 rfl 5
                have ke:(((20:Nat):Int) != 0)=true:=by have:=HTE.out.1; first | (simp; omega) | simp
                have ke2:¬ ((20:Nat):Int)=0:=by have:=HTE.out.1; omega
                have tg20:wr.cell? ⟨g2,0,none⟩=some (.slice none 0 0):=H.cell 1 rfl 0
                have zg20:wr.frozen? ⟨g2,0,none⟩=false:=H.frozen 1 rfl 0
                have tg21:wr.cell? ⟨g2,1,none⟩=some (.slice none 0 0):=H.cell 1 rfl 1
                have zg21:wr.frozen? ⟨g2,1,none⟩=false:=H.frozen 1 rfl 1
                have tg22:wr.cell? ⟨g2,2,none⟩=some (.int .i64 0):=H.cell 1 rfl 2
                have zg22:wr.frozen? ⟨g2,2,none⟩=false:=H.frozen 1 rfl 2
                have tg30:wr.cell? ⟨g3,0,none⟩=some (.slice none 0 0):=H.cell 2 rfl 0
                have zg30:wr.frozen? ⟨g3,0,none⟩=false:=H.frozen 2 rfl 0
                have tg31:wr.cell? ⟨g3,1,none⟩=some (.slice none 0 0):=H.cell 2 rfl 1
                have zg31:wr.frozen? ⟨g3,1,none⟩=false:=H.frozen 2 rfl 1
                have tg32:wr.cell? ⟨g3,2,none⟩=some (.int .i64 0):=H.cell 2 rfl 2
                have zg32:wr.frozen? ⟨g3,2,none⟩=false:=H.frozen 2 rfl 2
                have HY:=Lib.hid (((((((H.pick 3 [1,0,2]).set 0 (.slice none 0 0)).set 1 (.slice none 0 0)).set 2 (.int .i64 0)).pick 3 [2,0,1]).set 0 (.slice none 0 0)).set 1 (.slice none 0 0))
                have HZ:=Lib.hid (HY.out.set 2 (.int .i64 0))
                clear H HY
                go_wp2_with fail
                refine bodyPost_ret (vres_c2 rfl _ rfl rfl (bk_cells HZ.out 1 rfl) (bk_cells HZ.out 0 rfl) Tryd.isAgg101 Tryd.sizeOf101 rfl) rfl ?_
                exact DvDyn.no HTE.out.2 HTE.out.1 (HZ.out.pick 3 [2])
          · have HTE:Hid (e≠0/\T=.error e):=by
              rcases HKE.out with ⟨h,_⟩ | h
              · exact absurd h he
              · exact Lib.hid h
            clear HKE HK6 HFT
            have H:=HX.out
            have g1x:=hg1.out
            have g2x:=hg2.out
            have c5:wr.cell? ⟨g,5,none⟩=some (.int .i64 (e:Int)):=H.cell 0 rfl 5
            have ke:(((e:Nat):Int) != 0)=true:=by have:=HTE.out.1; first | (simp; omega) | simp
            have ke2:¬ ((e:Nat):Int)=0:=by have:=HTE.out.1; omega
            have tg20:wr.cell? ⟨g2,0,none⟩=some (.slice none 0 0):=H.cell 1 rfl 0
            have zg20:wr.frozen? ⟨g2,0,none⟩=false:=H.frozen 1 rfl 0
            have tg21:wr.cell? ⟨g2,1,none⟩=some (.slice none 0 0):=H.cell 1 rfl 1
            have zg21:wr.frozen? ⟨g2,1,none⟩=false:=H.frozen 1 rfl 1
            have tg22:wr.cell? ⟨g2,2,none⟩=some (.int .i64 0):=H.cell 1 rfl 2
            have zg22:wr.frozen? ⟨g2,2,none⟩=false:=H.frozen 1 rfl 2
            have tg30:wr.cell? ⟨g3,0,none⟩=some (.slice none 0 0):=H.cell 2 rfl 0
            have zg30:wr.frozen? ⟨g3,0,none⟩=false:=H.frozen 2 rfl 0
            have tg31:wr.cell? ⟨g3,1,none⟩=some (.slice none 0 0):=H.cell 2 rfl 1
            have zg31:wr.frozen? ⟨g3,1,none⟩=false:=H.frozen 2 rfl 1
            have tg32:wr.cell? ⟨g3,2,none⟩=some (.int .i64 0):=H.cell 2 rfl 2
            have zg32:wr.frozen? ⟨g3,2,none⟩=false:=H.frozen 2 rfl 2
            have HY:=Lib.hid (((((((H.pick 3 [1,0,2]).set 0 (.slice none 0 0)).set 1 (.slice none 0 0)).set 2 (.int .i64 0)).pick 3 [2,0,1]).set 0 (.slice none 0 0)).set 1 (.slice none 0 0))
            have HZ:=Lib.hid (HY.out.set 2 (.int .i64 0))
            clear H HY
            go_wp2_with fail
            refine bodyPost_ret (vres_c2 rfl _ rfl rfl (bk_cells HZ.out 1 rfl) (bk_cells HZ.out 0 rfl) Tryd.isAgg101 Tryd.sizeOf101 rfl) rfl ?_
            exact DvDyn.no HTE.out.2 HTE.out.1 (HZ.out.pick 5 [2])
    · have HTE:Hid (e3≠0/\T=.error e3):=by
        rcases HK3.out with ⟨h,_⟩ | h
        · exact absurd h he3
        · exact Lib.hid h
      clear HK3 hbig
      have H:=HX.out
      have g1x:=hg1.out
      have g2x:=hg2.out
      have c5:w4.cell? ⟨g,5,none⟩=some (.int .i64 (e3:Int)):=H.cell 0 rfl 5
      have ke:(((e3:Nat):Int) != 0)=true:=by have:=HTE.out.1; first | (simp; omega) | simp
      have ke2:¬ ((e3:Nat):Int)=0:=by have:=HTE.out.1; omega
      have tg20:w4.cell? ⟨g2,0,none⟩=some (.slice none 0 0):=H.cell 1 rfl 0
      have zg20:w4.frozen? ⟨g2,0,none⟩=false:=H.frozen 1 rfl 0
      have tg21:w4.cell? ⟨g2,1,none⟩=some (.slice none 0 0):=H.cell 1 rfl 1
      have zg21:w4.frozen? ⟨g2,1,none⟩=false:=H.frozen 1 rfl 1
      have tg22:w4.cell? ⟨g2,2,none⟩=some (.int .i64 0):=H.cell 1 rfl 2
      have zg22:w4.frozen? ⟨g2,2,none⟩=false:=H.frozen 1 rfl 2
      have tg30:w4.cell? ⟨g3,0,none⟩=some (.slice none 0 0):=H.cell 2 rfl 0
      have zg30:w4.frozen? ⟨g3,0,none⟩=false:=H.frozen 2 rfl 0
      have tg31:w4.cell? ⟨g3,1,none⟩=some (.slice none 0 0):=H.cell 2 rfl 1
      have zg31:w4.frozen? ⟨g3,1,none⟩=false:=H.frozen 2 rfl 1
      have tg32:w4.cell? ⟨g3,2,none⟩=some (.int .i64 0):=H.cell 2 rfl 2
      have zg32:w4.frozen? ⟨g3,2,none⟩=false:=H.frozen 2 rfl 2
      have HY:=Lib.hid (((((((H.pick 3 [1,0,2]).set 0 (.slice none 0 0)).set 1 (.slice none 0 0)).set 2 (.int .i64 0)).pick 3 [2,0,1]).set 0 (.slice none 0 0)).set 1 (.slice none 0 0))
      have HZ:=Lib.hid (HY.out.set 2 (.int .i64 0))
      clear H HY
      go_wp2_with fail
      refine bodyPost_ret (vres_c2 rfl _ rfl rfl (bk_cells HZ.out 1 rfl) (bk_cells HZ.out 0 rfl) Tryd.isAgg101 Tryd.sizeOf101 rfl) rfl ?_
      exact DvDyn.no HTE.out.2 HTE.out.1 (HZ.out.pick 3 [2])
end Go.Proofs.YteajimobgkempaaDoor

