/- A pack of texts: DefI. -/
import Derived.Test.YtloijdbkikccgaaDoorPk31
namespace Go.Proofs.YtloijdbkikccgaaDoor
set_option linter.unusedVariables false
set_option linter.unusedSimpArgs false
open Go.RowKit
set_option maxRecDepth 100000 in
set_option maxHeartbeats 8000000 in
theorem dsizes_ok (g a:Nat) (dv:DV) (p:BP) {TL TF:Option Addr} {cl cf:Nat} {w0 w:World} {L:List Pr} (H:Sp w0 L w) (hb:Ent L (DBr g dv p)) (hT:Ent L (DTabs TL TF cl cf)) (hbl:p.b.length≤100000000)
  (hA:∀ x ∈ p.A,x≤15) (hD:∀ x ∈ p.D,x≤15) (hF:p.F.length=19) (hF7:∀ x ∈ p.F,x≤7)
  (hokR:∀ t ∈ p.R,PD.WdOk p.F [] t) (hokW:∀ t ∈ p.W,PD.WdOk p.A p.D t) (hokX:∀ t ∈ p.W,PD.WdOk PI.fixedL PI.fixedD t) (hRl:p.R.length≤1000) (hWl:p.W.length≤2000000) (ha:a≤900000000) :
  Calls Tryd.prog 83 #[.pointer (some ⟨g,0,none⟩),.int .i64 (a:Int)] w fun e w'=>e=.returned (.agg #[.int .i64 (PD.sto p.b.length a),.int .i64 ((3+PD.costW PI.fixedL PI.fixedD p.W:Nat):Int),.int .i64 ((17+3 * PD.told p.F+PD.costW p.F [] p.R+PD.costW p.A p.D p.W:Nat):Int)])∧Sp w0 L w':=by
 obtain ⟨S,hS⟩:∃ S,PD.sto p.b.length a=S:=⟨_,rfl⟩
 obtain ⟨n,hn⟩:∃ n,p.b.length=n:=⟨_,rfl⟩
 obtain ⟨td,htd⟩:∃ td,PD.told p.F=td:=⟨_,rfl⟩
 obtain ⟨cR,hcR⟩:∃ c,PD.costW p.F [] p.R=c:=⟨_,rfl⟩
 obtain ⟨cW,hcW⟩:∃ c,PD.costW p.A p.D p.W=c:=⟨_,rfl⟩
 obtain ⟨cX,hcX⟩:∃ c,PD.costW PI.fixedL PI.fixedD p.W=c:=⟨_,rfl⟩
 have htd19:td≤19:=by rw [← htd]; exact (PD.told_ok p.F).2
 have l1:cR≤28 * 1000:=by
  have h:=layW_le (A:=p.F) (D:=[]) (fun x hx=>by have:=hF7 x hx; omega) (fun x hx=>by cases hx) p.R hokR
  rw [PD.layW_len,hcR] at h; omega
 have l2:cW≤28 * 2000000:=by
  have h:=layW_le hA hD p.W hokW
  rw [PD.layW_len,hcW] at h; omega
 have l3:cX≤28 * 2000000:=by
  have h:=layW_le fl15 fd15 p.W hokX
  rw [PD.layW_len,hcX] at h; omega
 rw [hS,htd,hcR,hcW,hcX]
 rw [hn] at hbl
 have HB:=Lib.hid hb
 have HT:=Lib.hid hT
 have HN:=Lib.hid hn
 have HA:=Lib.hid hA
 have HD:=Lib.hid hD
 have HF:=Lib.hid hF
 have HF7:=Lib.hid hF7
 have HOKR:=Lib.hid hokR
 have HOKW:=Lib.hid hokW
 have HOKX:=Lib.hid hokX
 have HTD:=Lib.hid htd
 have HCR:=Lib.hid hcR
 have HCW:=Lib.hid hcW
 have HCX:=Lib.hid hcX
 have H1:=H.newBk [.int .i64 0,.int .i64 0,.int .i64 0] 43
 have c1:=(HB.out _ _ H1.tail).c1
 rw [hn] at c1
 have HX:=Lib.hid H1
 obtain ⟨es1,hes1⟩:∃ x,3 * td=x:=⟨_,rfl⟩
 obtain ⟨es2,hes2⟩:∃ x,17+es1=x:=⟨_,rfl⟩
 obtain ⟨es3,hes3⟩:∃ x,es2+cR=x:=⟨_,rfl⟩
 obtain ⟨es4,hes4⟩:∃ x,es3+cW=x:=⟨_,rfl⟩
 obtain ⟨es5,hes5⟩:∃ x,3+cX=x:=⟨_,rfl⟩
 rw [hes1,hes2,hes3,hes4,hes5]
 have i1:3 * (td:Int)=(es1:Int):=by omega
 have i2:17+(es1:Int)=(es2:Int):=by omega
 have i3:(es2:Int)+(cR:Int)=(es3:Int):=by omega
 have i4:(es3:Int)+(cW:Int)=(es4:Int):=by omega
 have i5:3+(cX:Int)=(es5:Int):=by omega
 have b1:es4≤1000000000∧es3≤1000000000∧es2≤1000000000∧es5≤1000000000:=by omega
 obtain ⟨b1,b2,b3,b4⟩:=b1
 clear hb hT hA hD hF hF7 hokR hokW hokX htd hcR hcW hcX H H1 hn hes1 hes2 hes3 hes4 hes5 l1 l2 l3
 by_cases h6:n≤65535
 ·obtain ⟨a3,ha3⟩:∃ x,a+3=x:=⟨_,rfl⟩
  obtain ⟨pd,hpd⟩:∃ x,PD.pad a3=x:=⟨_,rfl⟩
  have hpd7:pd≤7:=by rw [← hpd]; unfold PD.pad; omega
  obtain ⟨f1,hf1⟩:∃ x,3+pd=x:=⟨_,rfl⟩
  obtain ⟨f2,hf2⟩:∃ x,f1+32=x:=⟨_,rfl⟩
  obtain ⟨f3,hf3⟩:∃ x,8 * n=x:=⟨_,rfl⟩
  obtain ⟨f4,hf4⟩:∃ x,f2+f3=x:=⟨_,rfl⟩
  have hS4:S=(f4:Int):=by
   rw [← hS,← hf4,← hf2,← hf1,← hf3,← hpd,← ha3]
   unfold PD.sto
   rw [HN.out,if_pos h6]
  subst hS4
  have j0:(a:Int)+3=(a3:Int):=by omega
  have j1:bits .and .i64 (-(a3:Int)) 7=(pd:Int):=by
   rw [i64_and7,← hpd]; unfold PD.pad; omega
  have j2:3+(pd:Int)=(f1:Int):=by omega
  have j3:(f1:Int)+32=(f2:Int):=by omega
  have j4:8 * (n:Int)=(f3:Int):=by omega
  have j5:(f2:Int)+(f3:Int)=(f4:Int):=by omega
  have b5:a3≤1000000000:=by omega
  have b6:f1≤100∧f2≤100∧f3≤1000000∧f4≤2000000:=by omega
  obtain ⟨b6,b7,b8,b9⟩:=b6
  have k1:(n:Int)≤65535:=by omega
  clear hS ha3 hpd hf1 hf2 hf3 hf4
  go_enter Tryd.func83,Tryd.ntmps83
  go_wp2_with fail
  generalize w.heap.size=g4 at HX ⊢
  have HBX:Hid (Ent (Bk g4 43 [.int .i64 0,.int .i64 0,.int .i64 0]::L) (DBr g dv p)):=Lib.hid fun w0 w h=>HB.out w0 w h.tail
  have HTX:Hid (Ent (Bk g4 43 [.int .i64 0,.int .i64 0,.int .i64 0]::L) (DTabs TL TF cl cf)):=Lib.hid fun w0 w h=>HT.out w0 w h.tail
  refine wp_region_sc (L:=Bk g4 43 [.int .i64 0,.int .i64 0,.int .i64 0]::L) [some (.pointer (some ⟨g,0,none⟩)),some (.int .i64 (td:Int)),some (.int .i64 (es1:Int)),some (.int .i64 (es2:Int)),some (.pointer (some ⟨g,0,none⟩)),some (.pointer (some ⟨g,0,none⟩)),some (.pointer (some ⟨g,6,none⟩)),some (.slice dv.r p.R.length dv.rc),some (.pointer (some ⟨g,0,none⟩)),some (.pointer (some ⟨g,0,none⟩)),some (.pointer (some ⟨g,7,none⟩)),some (.slice dv.f p.F.length dv.fc),some (.agg #[.slice dv.f p.F.length dv.fc,.slice none 0 0]),some (.int .i64 (cR:Int)),some (.int .i64 (es3:Int)),some (.pointer (some ⟨g,0,none⟩)),some (.pointer (some ⟨g,0,none⟩)),some (.pointer (some ⟨g,2,none⟩)),some (.slice dv.w p.W.length dv.wc),some (.pointer (some ⟨g,0,none⟩)),some (.pointer (some ⟨g,0,none⟩)),some (.pointer (some ⟨g,4,none⟩)),some (.agg #[.slice dv.a p.A.length dv.ac,.slice dv.d p.D.length dv.dc]),some (.int .i64 (cW:Int)),some (.int .i64 (es4:Int)),some (.int .i64 (es4:Int))] (fun _ _=>True) (fun _ _=>[]) (fun _=>[]) 26 61
   [some 26,some 27,some 28,some 29,some 30,some 31,some 32,some 33,some 34,some 35,some 36,some 37,some 38,some 39,some 40,some 41,some 42,some 43,some 44,some 45,some 46,some 47,some 48,some 49,some 50,some 6]
   [[],[0],[1],[2],[],[4],[5],[6],[],[8],[9],[10],[11],[7,12,1],[3,13],[],[15],[16],[17],[],[19],[20],[21],[18,22,13],[14,23],[24,23,0,1,2,3,4,5,6,7,8,9,10,11,12,13,14,15,16,17,18,19,20,21,22,23,24]]
   [[],[0],[0,1],[0,1,2],[],[4],[4,5],[4,5,6],[],[8],[8,9],[8,9,10],[8,9,10,11],[0,1,4,5,6,7,8,9,10,11,12],[0,1,2,3,4,5,6,7,8,9,10,11,12,13],[],[15],[15,16],[15,16,17],[],[19],[19,20],[19,20,21],[0,1,4,5,6,7,8,9,10,11,12,13,15,16,17,18,19,20,21,22],[0,1,2,3,4,5,6,7,8,9,10,11,12,13,14,15,16,17,18,19,20,21,22,23],[0,1,2,3,4,5,6,7,8,9,10,11,12,13,14,15,16,17,18,19,20,21,22,23,24]]
   [[],[],[],[],[],[],[],[],[],[],[],[],[],[],[],[],[],[],[],[],[],[],[],[],[],[]] [[],[],[],[],[],[],[],[],[],[],[],[],[],[],[],[],[],[],[],[],[],[],[],[],[],[]] [(0,.pointer (some ⟨g,0,none⟩))]
   (by kernel_rfl) rfl (by decide) (by rfl) (by decide +kernel) rfl rfl (by simp) (HX.out) ?hstep ?hend
  case hstep =>
   refine ⟨?p0,⟨?p1,⟨?p2,⟨?p3,⟨?p4,⟨?p5,⟨?p6,⟨?p7,⟨?p8,⟨?p9,⟨?p10,⟨?p11,⟨?p12,⟨?p13,⟨?p14,⟨?p15,⟨?p16,⟨?p17,⟨?p18,⟨?p19,⟨?p20,⟨?p21,⟨?p22,⟨?p23,⟨?p24,⟨?p25,trivial⟩⟩⟩⟩⟩⟩⟩⟩⟩⟩⟩⟩⟩⟩⟩⟩⟩⟩⟩⟩⟩⟩⟩⟩⟩⟩
   case p0 | p2 | p3 | p4 | p5 | p6 | p8 | p9 | p10 | p12 | p14 | p15 | p16 | p17 | p19 | p20 | p21 | p24 | p25 =>
    intro x wx A rest hDf hF hS hE H K hK
    replace hK:=Lib.hid hK
    clear hS hE hDf
    repeat (obtain ⟨_,hF⟩:=hF)
    change Oper.wp _ _ A wx K _
    go_step
    exact hK.out _ _ rfl H
   case p1 =>
    intro x wx A rest hDf hF hS hE H K hK0
    replace hDf:=Lib.hid hDf
    have e26:A.tmps[26]?.getD undef=.pointer (some ⟨g,0,none⟩):=((hS 0 (by decide)).2 26 rfl).trans (hS 0 (by decide)).1
    replace H:Sp w0 (rest) wx:=H
    have hK:Hid (∀ (v:Value) (w' : World),v=.int .i64 (td:Int)→Sp w0 (rest) w'→K (A.put (some 27) v) w'):=Lib.hid hK0
    clear hK0 hF hS
    have htb:=Lib.hid (hE _ HTX.out)
    have hbr:=Lib.hid (hE _ HBX.out)
    have HZ:=Lib.hid H
    clear hE H
    change Oper.wp _ _ A wx K _
    go_wp2_with fail
    refine (dtold_ok g dv p HZ.out hbr.out htb.out HF.out).mono ?_
    rw [HTD.out]
    rintro _ w9 ⟨rfl,H9⟩
    exact hK.out _ _ rfl H9
   case p7 =>
    intro x wx A rest hDf hF hS hE H K hK0
    replace hDf:=Lib.hid hDf
    have e32:A.tmps[32]?.getD undef=.pointer (some ⟨g,6,none⟩):=((hS 6 (by decide)).2 32 rfl).trans (hS 6 (by decide)).1
    replace H:Sp w0 (rest) wx:=H
    have hK:Hid (∀ (v:Value) (w' : World),v=.slice dv.r p.R.length dv.rc→Sp w0 (rest) w'→K (A.put (some 33) v) w'):=Lib.hid hK0
    clear hK0 hF hS
    have c:=(hE _ HBX.out _ _ H).c6
    clear hE
    change Oper.wp _ _ A wx K _
    go_step
    exact hK.out _ _ rfl (H)
   case p11 =>
    intro x wx A rest hDf hF hS hE H K hK0
    replace hDf:=Lib.hid hDf
    have e36:A.tmps[36]?.getD undef=.pointer (some ⟨g,7,none⟩):=((hS 10 (by decide)).2 36 rfl).trans (hS 10 (by decide)).1
    replace H:Sp w0 (rest) wx:=H
    have hK:Hid (∀ (v:Value) (w' : World),v=.slice dv.f p.F.length dv.fc→Sp w0 (rest) w'→K (A.put (some 37) v) w'):=Lib.hid hK0
    clear hK0 hF hS
    have c:=(hE _ HBX.out _ _ H).c7
    clear hE
    change Oper.wp _ _ A wx K _
    go_step
    exact hK.out _ _ rfl (H)
   case p13 =>
    intro x wx A rest hDf hF hS hE H K hK0
    replace hDf:=Lib.hid hDf
    have e33:A.tmps[33]?.getD undef=.slice dv.r p.R.length dv.rc:=((hS 7 (by decide)).2 33 rfl).trans (hS 7 (by decide)).1
    have e38:A.tmps[38]?.getD undef=.agg #[.slice dv.f p.F.length dv.fc,.slice none 0 0]:=((hS 12 (by decide)).2 38 rfl).trans (hS 12 (by decide)).1
    replace H:Sp w0 (rest) wx:=H
    have hK:Hid (∀ (v:Value) (w' : World),v=.int .i64 (cR:Int)→Sp w0 (rest) w'→K (A.put (some 39) v) w'):=Lib.hid hK0
    clear hK0 hF hS
    have hbr:=Lib.hid (hE _ HBX.out)
    have HZ:=Lib.hid H
    clear hE H
    change Oper.wp _ _ A wx K _
    go_wp2_with fail
    refine (dcost_ok dv.r dv.f none p.R.length dv.rc p.F.length dv.fc 0 0 p.R p.F [] HZ.out (fun w0 w h=>(hbr.out w0 w h).r) (fun w0 w h=>(hbr.out w0 w h).f) (fun w0 w h=>Rd.nil) rfl rfl rfl (by omega) (fun x hx=>by have:=HF7.out x hx; omega) (fun x hx=>by cases hx) HOKR.out).mono ?_
    rw [HCR.out]
    rintro _ w9 ⟨rfl,H9⟩
    exact hK.out _ _ rfl H9
   case p18 =>
    intro x wx A rest hDf hF hS hE H K hK0
    replace hDf:=Lib.hid hDf
    have e43:A.tmps[43]?.getD undef=.pointer (some ⟨g,2,none⟩):=((hS 17 (by decide)).2 43 rfl).trans (hS 17 (by decide)).1
    replace H:Sp w0 (rest) wx:=H
    have hK:Hid (∀ (v:Value) (w' : World),v=.slice dv.w p.W.length dv.wc→Sp w0 (rest) w'→K (A.put (some 44) v) w'):=Lib.hid hK0
    clear hK0 hF hS
    have c:=(hE _ HBX.out _ _ H).c2
    clear hE
    change Oper.wp _ _ A wx K _
    go_step
    exact hK.out _ _ rfl (H)
   case p22 =>
    intro x wx A rest hDf hF hS hE H K hK0
    replace hDf:=Lib.hid hDf
    have e47:A.tmps[47]?.getD undef=.pointer (some ⟨g,4,none⟩):=((hS 21 (by decide)).2 47 rfl).trans (hS 21 (by decide)).1
    replace H:Sp w0 (rest) wx:=H
    have hK:Hid (∀ (v:Value) (w' : World),v=.agg #[.slice dv.a p.A.length dv.ac,.slice dv.d p.D.length dv.dc]→Sp w0 (rest) w'→K (A.put (some 48) v) w'):=Lib.hid hK0
    clear hK0 hF hS
    have c4:=(hE _ HBX.out _ _ H).c4
    have c5:=(hE _ HBX.out _ _ H).c5
    clear hE
    change Oper.wp _ _ A wx K _
    go_step
    exact hK.out _ _ rfl (H)
   case p23 =>
    intro x wx A rest hDf hF hS hE H K hK0
    replace hDf:=Lib.hid hDf
    have e44:A.tmps[44]?.getD undef=.slice dv.w p.W.length dv.wc:=((hS 18 (by decide)).2 44 rfl).trans (hS 18 (by decide)).1
    have e48:A.tmps[48]?.getD undef=.agg #[.slice dv.a p.A.length dv.ac,.slice dv.d p.D.length dv.dc]:=((hS 22 (by decide)).2 48 rfl).trans (hS 22 (by decide)).1
    replace H:Sp w0 (rest) wx:=H
    have hK:Hid (∀ (v:Value) (w' : World),v=.int .i64 (cW:Int)→Sp w0 (rest) w'→K (A.put (some 49) v) w'):=Lib.hid hK0
    clear hK0 hF hS
    have hbr:=Lib.hid (hE _ HBX.out)
    have HZ:=Lib.hid H
    clear hE H
    change Oper.wp _ _ A wx K _
    go_wp2_with fail
    refine (dcost_ok dv.w dv.a dv.d p.W.length dv.wc p.A.length dv.ac p.D.length dv.dc p.W p.A p.D HZ.out (fun w0 w h=>(hbr.out w0 w h).w) (fun w0 w h=>(hbr.out w0 w h).a) (fun w0 w h=>(hbr.out w0 w h).d) rfl rfl rfl hWl HA.out HD.out HOKW.out).mono ?_
    rw [HCW.out]
    rintro _ w9 ⟨rfl,H9⟩
    exact hK.out _ _ rfl H9
  case hend =>
   intro x wx A hA hS H
   replace H:Sp w0 (Bk g4 43 [.int .i64 0,.int .i64 0,.int .i64 0]::L) wx:=H
   have y25:x 25=.int .i64 (es4:Int):=hS 25 (by decide)
   clear hS
   simp only [putAll,Act.put,List.setIfInBounds_toArray,List.set_cons_succ,List.set_cons_zero,Nat.reduceAdd] at hA
   subst hA
   rw [y25]
   have HY:=Lib.hid H
   clear H HX
   go_wp2_with fail
   refine wp_region_sc (L:=L) [some (.int .i64 (f4:Int)),some (.pointer (some ⟨g,0,none⟩)),some (.pointer (some ⟨g,0,none⟩)),some (.pointer (some ⟨g,2,none⟩)),some (.slice dv.w p.W.length dv.wc),none,some (.int .i64 (cX:Int)),some (.int .i64 (es5:Int)),some (.int .i64 (es4:Int)),some (.agg #[.int .i64 (f4:Int),.int .i64 (es5:Int),.int .i64 (es4:Int)]),some (undef)] (fun ix vx=>match ix with | 5=>(fun vv=>vv=.agg #[agF vv 0,agF vv 1]) vx | _=>True) (fun ix vx=>match ix with | 5=>(fun vv=>[Row 3 1 (agF vv 0) 288 (cellsN PI.fixedL),Row 3 1 (agF vv 1) 32 (cellsN PI.fixedD)]) vx | 10=>(fun _=>[Bk g4 43 [.int .i64 (f4:Int),.int .i64 (es5:Int),.int .i64 (es4:Int)]]) vx | _=>[]) (fun ix=>match ix with | 10=>[Bk g4 43 [.int .i64 0,.int .i64 0,.int .i64 0]] | _=>[]) 11 61
    [some 51,some 52,some 53,some 54,some 55,some 56,some 57,some 58,some 59,some 60,none]
    [[],[],[1],[2],[3],[],[4,5,5],[6],[],[0,7,8],[9,6,0,1,2,3,4,5,6,7,8,9]]
    [[],[],[1],[1,2],[1,2,3],[],[1,2,3,4,5],[1,2,3,4,5,6],[],[0,1,2,3,4,5,6,7,8],[0,1,2,3,4,5,6,7,8,9]]
    [[],[],[],[],[],[],[5],[],[],[],[]] [[],[],[],[],[],[],[],[],[],[],[]] [(0,.pointer (some ⟨g,0,none⟩)),(4,.pointer (some ⟨g4,0,none⟩)),(5,.int .i64 (f4:Int)),(6,.int .i64 (es4:Int))]
    (by kernel_rfl) rfl (by decide) (by rfl) (by decide +kernel) rfl rfl (by simp) (HY.out) ?hstep ?hend
   case hstep =>
    refine ⟨?p0,⟨?p1,⟨?p2,⟨?p3,⟨?p4,⟨?p5,⟨?p6,⟨?p7,⟨?p8,⟨?p9,⟨?p10,trivial⟩⟩⟩⟩⟩⟩⟩⟩⟩⟩⟩
    case p0 | p1 | p2 | p3 | p7 | p8 | p9 =>
     intro x wx A rest hDf hF hS hE H K hK
     replace hK:=Lib.hid hK
     clear hS hE hDf
     repeat (obtain ⟨_,hF⟩:=hF)
     change Oper.wp _ _ A wx K _
     go_step
     exact hK.out _ _ rfl H
    case p4 =>
     intro x wx A rest hDf hF hS hE H K hK0
     replace hDf:=Lib.hid hDf
     have e54:A.tmps[54]?.getD undef=.pointer (some ⟨g,2,none⟩):=((hS 3 (by decide)).2 54 rfl).trans (hS 3 (by decide)).1
     replace H:Sp w0 (rest) wx:=H
     have hK:Hid (∀ (v:Value) (w' : World),v=.slice dv.w p.W.length dv.wc→Sp w0 (rest) w'→K (A.put (some 55) v) w'):=Lib.hid hK0
     clear hK0 hF hS
     have c:=(hE _ HB.out _ _ H).c2
     clear hE
     change Oper.wp _ _ A wx K _
     go_step
     exact hK.out _ _ rfl (H)
    case p5 =>
     intro x wx A rest hDf hF hS hE H K hK0
     replace hDf:=Lib.hid hDf
     replace H:Sp w0 (rest) wx:=H
     have hK:Hid (∀ (v:Value) (w' : World),v=.agg #[agF v 0,agF v 1]→Sp w0 ((Row 3 1 (agF v 0) 288 (cellsN PI.fixedL))::(Row 3 1 (agF v 1) 32 (cellsN PI.fixedD))::rest) w'→K (A.put (some 56) v) w'):=Lib.hid hK0
     clear hK0 hF hS hE
     change Oper.wp _ _ A wx K _
     go_wp2_with fail
     refine (dfixed_ok H).mono ?_
     rintro _ w9 ⟨v0,v1,rfl,H9⟩
     exact hK.out _ _ rfl H9
    case p6 =>
     intro x wx A rest hDf hF hS hE H K hK0
     replace hDf:=Lib.hid hDf
     have e55:A.tmps[55]?.getD undef=.slice dv.w p.W.length dv.wc:=((hS 4 (by decide)).2 55 rfl).trans (hS 4 (by decide)).1
     have q56:(x 5)=.agg #[agF (x 5) 0,agF (x 5) 1]:=(hS 5 (by decide)).1
     have e56:A.tmps[56]?.getD undef=x 5:=(hS 5 (by decide)).2 56 rfl
     replace H:Sp w0 ((Row 3 1 (agF (x 5) 0) 288 (cellsN PI.fixedL))::(Row 3 1 (agF (x 5) 1) 32 (cellsN PI.fixedD))::rest) wx:=H
     have hK:Hid (∀ (v:Value) (w' : World),v=.int .i64 (cX:Int)→Sp w0 (rest) w'→K (A.put (some 57) v) w'):=Lib.hid hK0
     clear hK0 hF hS
     obtain ⟨r0,hr0⟩:∃ r,agF (x 5) 0=r:=⟨_,rfl⟩
     obtain ⟨r1,hr1⟩:∃ r,agF (x 5) 1=r:=⟨_,rfl⟩
     rw [hr0,hr1] at q56 H
     rw [q56] at e56
     clear hr0 hr1 q56
     obtain ⟨A0,c0,rfl,_,_⟩:=Row.form H 0 rfl
     obtain ⟨A1,c1,rfl,_,_⟩:=Row.form H 1 rfl
     have hbr:=Lib.hid (hE _ HB.out)
     have HZ:=Lib.hid H
     clear hE H
     change Oper.wp _ _ A wx K _
     go_wp2_with fail
     refine (dcost_ok dv.w A0 A1 p.W.length dv.wc 288 c0 32 c1 p.W PI.fixedL PI.fixedD HZ.out (fun w0 w h=>(hbr.out w0 w (h.pick 2 [])).w) (fun w0 w h=>rowRd h 0 rfl) (fun w0 w h=>rowRd h 1 rfl) rfl dfixedL_len.symm rfl hWl fl15 fd15 HOKX.out).mono ?_
     rw [HCX.out]
     rintro _ w9 ⟨rfl,H9⟩
     exact hK.out _ _ rfl H9.tail2
    case p10 =>
     intro x wx A rest hDf hF hS hE H K hK0
     replace hDf:=Lib.hid hDf
     have e4:A.tmps[4]?.getD undef=.pointer (some ⟨g4,0,none⟩):=factsE_get hF (4,.pointer (some ⟨g4,0,none⟩)) (by simp) (by rfl)
     have e60:A.tmps[60]?.getD undef=.agg #[.int .i64 (f4:Int),.int .i64 (es5:Int),.int .i64 (es4:Int)]:=((hS 9 (by decide)).2 60 rfl).trans (hS 9 (by decide)).1
     replace H:Sp w0 ((Bk g4 43 [.int .i64 0,.int .i64 0,.int .i64 0])::rest) wx:=H
     have hK:Hid (∀ (v:Value) (w' : World),v=undef→Sp w0 ((Bk g4 43 [.int .i64 (f4:Int),.int .i64 (es5:Int),.int .i64 (es4:Int)])::rest) w'→K (A.put none v) w'):=Lib.hid hK0
     clear hK0 hF hS hE
     have t0:=H.cell 0 rfl 0
     have t1:=H.cell 0 rfl 1
     have t2:=H.cell 0 rfl 2
     have z0:=H.frozen 0 rfl 0
     have z1:=H.frozen 0 rfl 1
     have z2:=H.frozen 0 rfl 2
     change Oper.wp _ _ A wx K _
     go_step
     exact hK.out _ _ rfl (((H.set 0 (.int .i64 (f4:Int))).set 1 (.int .i64 (es5:Int))).set 2 (.int .i64 (es4:Int)))
   case hend =>
    intro x wx A hA hS H
    replace H:Sp w0 ((Bk g4 43 [.int .i64 (f4:Int),.int .i64 (es5:Int),.int .i64 (es4:Int)])::L) wx:=H
    clear hS
    simp only [putAll,Act.put,List.setIfInBounds_toArray,List.set_cons_succ,List.set_cons_zero,Nat.reduceAdd] at hA
    subst hA
    have HQ:=Lib.hid H
    clear H HY
    go_wp2
    have t0:=HQ.out.cell 0 rfl 0
    have t1:=HQ.out.cell 0 rfl 1
    have t2:=HQ.out.cell 0 rfl 2
    simp only [List.getElem?_cons_zero,List.getElem?_cons_succ] at t0 t1 t2
    exact bodyPost_ret (v:=.agg #[.int .i64 (f4:Int),.int .i64 (es5:Int),.int .i64 (es4:Int)]) (by simp [results,go_sem,t0,t1,t2]) rfl ⟨rfl,HQ.out.tail⟩
 ·have hS4:S = -1:=by
   rw [← hS]
   unfold PD.sto
   rw [HN.out,if_neg h6]
  subst hS4
  have k1:¬ (n:Int)≤65535:=by omega
  clear hS
  go_enter Tryd.func83,Tryd.ntmps83
  go_wp2_with fail
  generalize w.heap.size=g4 at HX ⊢
  have HBX:Hid (Ent (Bk g4 43 [.int .i64 0,.int .i64 0,.int .i64 0]::L) (DBr g dv p)):=Lib.hid fun w0 w h=>HB.out w0 w h.tail
  have HTX:Hid (Ent (Bk g4 43 [.int .i64 0,.int .i64 0,.int .i64 0]::L) (DTabs TL TF cl cf)):=Lib.hid fun w0 w h=>HT.out w0 w h.tail
  refine wp_region_sc (L:=Bk g4 43 [.int .i64 0,.int .i64 0,.int .i64 0]::L) [some (.pointer (some ⟨g,0,none⟩)),some (.int .i64 (td:Int)),some (.int .i64 (es1:Int)),some (.int .i64 (es2:Int)),some (.pointer (some ⟨g,0,none⟩)),some (.pointer (some ⟨g,0,none⟩)),some (.pointer (some ⟨g,6,none⟩)),some (.slice dv.r p.R.length dv.rc),some (.pointer (some ⟨g,0,none⟩)),some (.pointer (some ⟨g,0,none⟩)),some (.pointer (some ⟨g,7,none⟩)),some (.slice dv.f p.F.length dv.fc),some (.agg #[.slice dv.f p.F.length dv.fc,.slice none 0 0]),some (.int .i64 (cR:Int)),some (.int .i64 (es3:Int)),some (.pointer (some ⟨g,0,none⟩)),some (.pointer (some ⟨g,0,none⟩)),some (.pointer (some ⟨g,2,none⟩)),some (.slice dv.w p.W.length dv.wc),some (.pointer (some ⟨g,0,none⟩)),some (.pointer (some ⟨g,0,none⟩)),some (.pointer (some ⟨g,4,none⟩)),some (.agg #[.slice dv.a p.A.length dv.ac,.slice dv.d p.D.length dv.dc]),some (.int .i64 (cW:Int)),some (.int .i64 (es4:Int)),some (.int .i64 (es4:Int))] (fun _ _=>True) (fun _ _=>[]) (fun _=>[]) 26 61
   [some 26,some 27,some 28,some 29,some 30,some 31,some 32,some 33,some 34,some 35,some 36,some 37,some 38,some 39,some 40,some 41,some 42,some 43,some 44,some 45,some 46,some 47,some 48,some 49,some 50,some 6]
   [[],[0],[1],[2],[],[4],[5],[6],[],[8],[9],[10],[11],[7,12,1],[3,13],[],[15],[16],[17],[],[19],[20],[21],[18,22,13],[14,23],[24,23,0,1,2,3,4,5,6,7,8,9,10,11,12,13,14,15,16,17,18,19,20,21,22,23,24]]
   [[],[0],[0,1],[0,1,2],[],[4],[4,5],[4,5,6],[],[8],[8,9],[8,9,10],[8,9,10,11],[0,1,4,5,6,7,8,9,10,11,12],[0,1,2,3,4,5,6,7,8,9,10,11,12,13],[],[15],[15,16],[15,16,17],[],[19],[19,20],[19,20,21],[0,1,4,5,6,7,8,9,10,11,12,13,15,16,17,18,19,20,21,22],[0,1,2,3,4,5,6,7,8,9,10,11,12,13,14,15,16,17,18,19,20,21,22,23],[0,1,2,3,4,5,6,7,8,9,10,11,12,13,14,15,16,17,18,19,20,21,22,23,24]]
   [[],[],[],[],[],[],[],[],[],[],[],[],[],[],[],[],[],[],[],[],[],[],[],[],[],[]] [[],[],[],[],[],[],[],[],[],[],[],[],[],[],[],[],[],[],[],[],[],[],[],[],[],[]] [(0,.pointer (some ⟨g,0,none⟩))]
   (by kernel_rfl) rfl (by decide) (by rfl) (by decide +kernel) rfl rfl (by simp) (HX.out) ?hstep ?hend
  case hstep =>
   refine ⟨?p0,⟨?p1,⟨?p2,⟨?p3,⟨?p4,⟨?p5,⟨?p6,⟨?p7,⟨?p8,⟨?p9,⟨?p10,⟨?p11,⟨?p12,⟨?p13,⟨?p14,⟨?p15,⟨?p16,⟨?p17,⟨?p18,⟨?p19,⟨?p20,⟨?p21,⟨?p22,⟨?p23,⟨?p24,⟨?p25,trivial⟩⟩⟩⟩⟩⟩⟩⟩⟩⟩⟩⟩⟩⟩⟩⟩⟩⟩⟩⟩⟩⟩⟩⟩⟩⟩
   case p0 | p2 | p3 | p4 | p5 | p6 | p8 | p9 | p10 | p12 | p14 | p15 | p16 | p17 | p19 | p20 | p21 | p24 | p25 =>
    intro x wx A rest hDf hF hS hE H K hK
    replace hK:=Lib.hid hK
    clear hS hE hDf
    repeat (obtain ⟨_,hF⟩:=hF)
    change Oper.wp _ _ A wx K _
    go_step
    exact hK.out _ _ rfl H
   case p1 =>
    intro x wx A rest hDf hF hS hE H K hK0
    replace hDf:=Lib.hid hDf
    have e26:A.tmps[26]?.getD undef=.pointer (some ⟨g,0,none⟩):=((hS 0 (by decide)).2 26 rfl).trans (hS 0 (by decide)).1
    replace H:Sp w0 (rest) wx:=H
    have hK:Hid (∀ (v:Value) (w' : World),v=.int .i64 (td:Int)→Sp w0 (rest) w'→K (A.put (some 27) v) w'):=Lib.hid hK0
    clear hK0 hF hS
    have htb:=Lib.hid (hE _ HTX.out)
    have hbr:=Lib.hid (hE _ HBX.out)
    have HZ:=Lib.hid H
    clear hE H
    change Oper.wp _ _ A wx K _
    go_wp2_with fail
    refine (dtold_ok g dv p HZ.out hbr.out htb.out HF.out).mono ?_
    rw [HTD.out]
    rintro _ w9 ⟨rfl,H9⟩
    exact hK.out _ _ rfl H9
   case p7 =>
    intro x wx A rest hDf hF hS hE H K hK0
    replace hDf:=Lib.hid hDf
    have e32:A.tmps[32]?.getD undef=.pointer (some ⟨g,6,none⟩):=((hS 6 (by decide)).2 32 rfl).trans (hS 6 (by decide)).1
    replace H:Sp w0 (rest) wx:=H
    have hK:Hid (∀ (v:Value) (w' : World),v=.slice dv.r p.R.length dv.rc→Sp w0 (rest) w'→K (A.put (some 33) v) w'):=Lib.hid hK0
    clear hK0 hF hS
    have c:=(hE _ HBX.out _ _ H).c6
    clear hE
    change Oper.wp _ _ A wx K _
    go_step
    exact hK.out _ _ rfl (H)
   case p11 =>
    intro x wx A rest hDf hF hS hE H K hK0
    replace hDf:=Lib.hid hDf
    have e36:A.tmps[36]?.getD undef=.pointer (some ⟨g,7,none⟩):=((hS 10 (by decide)).2 36 rfl).trans (hS 10 (by decide)).1
    replace H:Sp w0 (rest) wx:=H
    have hK:Hid (∀ (v:Value) (w' : World),v=.slice dv.f p.F.length dv.fc→Sp w0 (rest) w'→K (A.put (some 37) v) w'):=Lib.hid hK0
    clear hK0 hF hS
    have c:=(hE _ HBX.out _ _ H).c7
    clear hE
    change Oper.wp _ _ A wx K _
    go_step
    exact hK.out _ _ rfl (H)
   case p13 =>
    intro x wx A rest hDf hF hS hE H K hK0
    replace hDf:=Lib.hid hDf
    have e33:A.tmps[33]?.getD undef=.slice dv.r p.R.length dv.rc:=((hS 7 (by decide)).2 33 rfl).trans (hS 7 (by decide)).1
    have e38:A.tmps[38]?.getD undef=.agg #[.slice dv.f p.F.length dv.fc,.slice none 0 0]:=((hS 12 (by decide)).2 38 rfl).trans (hS 12 (by decide)).1
    replace H:Sp w0 (rest) wx:=H
    have hK:Hid (∀ (v:Value) (w' : World),v=.int .i64 (cR:Int)→Sp w0 (rest) w'→K (A.put (some 39) v) w'):=Lib.hid hK0
    clear hK0 hF hS
    have hbr:=Lib.hid (hE _ HBX.out)
    have HZ:=Lib.hid H
    clear hE H
    change Oper.wp _ _ A wx K _
    go_wp2_with fail
    refine (dcost_ok dv.r dv.f none p.R.length dv.rc p.F.length dv.fc 0 0 p.R p.F [] HZ.out (fun w0 w h=>(hbr.out w0 w h).r) (fun w0 w h=>(hbr.out w0 w h).f) (fun w0 w h=>Rd.nil) rfl rfl rfl (by omega) (fun x hx=>by have:=HF7.out x hx; omega) (fun x hx=>by cases hx) HOKR.out).mono ?_
    rw [HCR.out]
    rintro _ w9 ⟨rfl,H9⟩
    exact hK.out _ _ rfl H9
   case p18 =>
    intro x wx A rest hDf hF hS hE H K hK0
    replace hDf:=Lib.hid hDf
    have e43:A.tmps[43]?.getD undef=.pointer (some ⟨g,2,none⟩):=((hS 17 (by decide)).2 43 rfl).trans (hS 17 (by decide)).1
    replace H:Sp w0 (rest) wx:=H
    have hK:Hid (∀ (v:Value) (w' : World),v=.slice dv.w p.W.length dv.wc→Sp w0 (rest) w'→K (A.put (some 44) v) w'):=Lib.hid hK0
    clear hK0 hF hS
    have c:=(hE _ HBX.out _ _ H).c2
    clear hE
    change Oper.wp _ _ A wx K _
    go_step
    exact hK.out _ _ rfl (H)
   case p22 =>
    intro x wx A rest hDf hF hS hE H K hK0
    replace hDf:=Lib.hid hDf
    have e47:A.tmps[47]?.getD undef=.pointer (some ⟨g,4,none⟩):=((hS 21 (by decide)).2 47 rfl).trans (hS 21 (by decide)).1
    replace H:Sp w0 (rest) wx:=H
    have hK:Hid (∀ (v:Value) (w' : World),v=.agg #[.slice dv.a p.A.length dv.ac,.slice dv.d p.D.length dv.dc]→Sp w0 (rest) w'→K (A.put (some 48) v) w'):=Lib.hid hK0
    clear hK0 hF hS
    have c4:=(hE _ HBX.out _ _ H).c4
    have c5:=(hE _ HBX.out _ _ H).c5
    clear hE
    change Oper.wp _ _ A wx K _
    go_step
    exact hK.out _ _ rfl (H)
   case p23 =>
    intro x wx A rest hDf hF hS hE H K hK0
    replace hDf:=Lib.hid hDf
    have e44:A.tmps[44]?.getD undef=.slice dv.w p.W.length dv.wc:=((hS 18 (by decide)).2 44 rfl).trans (hS 18 (by decide)).1
    have e48:A.tmps[48]?.getD undef=.agg #[.slice dv.a p.A.length dv.ac,.slice dv.d p.D.length dv.dc]:=((hS 22 (by decide)).2 48 rfl).trans (hS 22 (by decide)).1
    replace H:Sp w0 (rest) wx:=H
    have hK:Hid (∀ (v:Value) (w' : World),v=.int .i64 (cW:Int)→Sp w0 (rest) w'→K (A.put (some 49) v) w'):=Lib.hid hK0
    clear hK0 hF hS
    have hbr:=Lib.hid (hE _ HBX.out)
    have HZ:=Lib.hid H
    clear hE H
    change Oper.wp _ _ A wx K _
    go_wp2_with fail
    refine (dcost_ok dv.w dv.a dv.d p.W.length dv.wc p.A.length dv.ac p.D.length dv.dc p.W p.A p.D HZ.out (fun w0 w h=>(hbr.out w0 w h).w) (fun w0 w h=>(hbr.out w0 w h).a) (fun w0 w h=>(hbr.out w0 w h).d) rfl rfl rfl hWl HA.out HD.out HOKW.out).mono ?_
    rw [HCW.out]
    rintro _ w9 ⟨rfl,H9⟩
    exact hK.out _ _ rfl H9
  case hend =>
   intro x wx A hA hS H
   replace H:Sp w0 (Bk g4 43 [.int .i64 0,.int .i64 0,.int .i64 0]::L) wx:=H
   have y25:x 25=.int .i64 (es4:Int):=hS 25 (by decide)
   clear hS
   simp only [putAll,Act.put,List.setIfInBounds_toArray,List.set_cons_succ,List.set_cons_zero,Nat.reduceAdd] at hA
   subst hA
   rw [y25]
   have HY:=Lib.hid H
   clear H HX
   go_wp2_with fail
   refine wp_region_sc (L:=L) [some (.int .i64 (-1)),some (.pointer (some ⟨g,0,none⟩)),some (.pointer (some ⟨g,0,none⟩)),some (.pointer (some ⟨g,2,none⟩)),some (.slice dv.w p.W.length dv.wc),none,some (.int .i64 (cX:Int)),some (.int .i64 (es5:Int)),some (.int .i64 (es4:Int)),some (.agg #[.int .i64 (-1),.int .i64 (es5:Int),.int .i64 (es4:Int)]),some (undef)] (fun ix vx=>match ix with | 5=>(fun vv=>vv=.agg #[agF vv 0,agF vv 1]) vx | _=>True) (fun ix vx=>match ix with | 5=>(fun vv=>[Row 3 1 (agF vv 0) 288 (cellsN PI.fixedL),Row 3 1 (agF vv 1) 32 (cellsN PI.fixedD)]) vx | 10=>(fun _=>[Bk g4 43 [.int .i64 (-1),.int .i64 (es5:Int),.int .i64 (es4:Int)]]) vx | _=>[]) (fun ix=>match ix with | 10=>[Bk g4 43 [.int .i64 0,.int .i64 0,.int .i64 0]] | _=>[]) 11 61
    [some 51,some 52,some 53,some 54,some 55,some 56,some 57,some 58,some 59,some 60,none]
    [[],[],[1],[2],[3],[],[4,5,5],[6],[],[0,7,8],[9,6,0,1,2,3,4,5,6,7,8,9]]
    [[],[],[1],[1,2],[1,2,3],[],[1,2,3,4,5],[1,2,3,4,5,6],[],[0,1,2,3,4,5,6,7,8],[0,1,2,3,4,5,6,7,8,9]]
    [[],[],[],[],[],[],[5],[],[],[],[]] [[],[],[],[],[],[],[],[],[],[],[]] [(0,.pointer (some ⟨g,0,none⟩)),(4,.pointer (some ⟨g4,0,none⟩)),(5,.int .i64 (-1)),(6,.int .i64 (es4:Int))]
    (by kernel_rfl) rfl (by decide) (by rfl) (by decide +kernel) rfl rfl (by simp) (HY.out) ?hstep ?hend
   case hstep =>
    refine ⟨?p0,⟨?p1,⟨?p2,⟨?p3,⟨?p4,⟨?p5,⟨?p6,⟨?p7,⟨?p8,⟨?p9,⟨?p10,trivial⟩⟩⟩⟩⟩⟩⟩⟩⟩⟩⟩
    case p0 | p1 | p2 | p3 | p7 | p8 | p9 =>
     intro x wx A rest hDf hF hS hE H K hK
     replace hK:=Lib.hid hK
     clear hS hE hDf
     repeat (obtain ⟨_,hF⟩:=hF)
     change Oper.wp _ _ A wx K _
     go_step
     exact hK.out _ _ rfl H
    case p4 =>
     intro x wx A rest hDf hF hS hE H K hK0
     replace hDf:=Lib.hid hDf
     have e54:A.tmps[54]?.getD undef=.pointer (some ⟨g,2,none⟩):=((hS 3 (by decide)).2 54 rfl).trans (hS 3 (by decide)).1
     replace H:Sp w0 (rest) wx:=H
     have hK:Hid (∀ (v:Value) (w' : World),v=.slice dv.w p.W.length dv.wc→Sp w0 (rest) w'→K (A.put (some 55) v) w'):=Lib.hid hK0
     clear hK0 hF hS
     have c:=(hE _ HB.out _ _ H).c2
     clear hE
     change Oper.wp _ _ A wx K _
     go_step
     exact hK.out _ _ rfl (H)
    case p5 =>
     intro x wx A rest hDf hF hS hE H K hK0
     replace hDf:=Lib.hid hDf
     replace H:Sp w0 (rest) wx:=H
     have hK:Hid (∀ (v:Value) (w' : World),v=.agg #[agF v 0,agF v 1]→Sp w0 ((Row 3 1 (agF v 0) 288 (cellsN PI.fixedL))::(Row 3 1 (agF v 1) 32 (cellsN PI.fixedD))::rest) w'→K (A.put (some 56) v) w'):=Lib.hid hK0
     clear hK0 hF hS hE
     change Oper.wp _ _ A wx K _
     go_wp2_with fail
     refine (dfixed_ok H).mono ?_
     rintro _ w9 ⟨v0,v1,rfl,H9⟩
     exact hK.out _ _ rfl H9
    case p6 =>
     intro x wx A rest hDf hF hS hE H K hK0
     replace hDf:=Lib.hid hDf
     have e55:A.tmps[55]?.getD undef=.slice dv.w p.W.length dv.wc:=((hS 4 (by decide)).2 55 rfl).trans (hS 4 (by decide)).1
     have q56:(x 5)=.agg #[agF (x 5) 0,agF (x 5) 1]:=(hS 5 (by decide)).1
     have e56:A.tmps[56]?.getD undef=x 5:=(hS 5 (by decide)).2 56 rfl
     replace H:Sp w0 ((Row 3 1 (agF (x 5) 0) 288 (cellsN PI.fixedL))::(Row 3 1 (agF (x 5) 1) 32 (cellsN PI.fixedD))::rest) wx:=H
     have hK:Hid (∀ (v:Value) (w' : World),v=.int .i64 (cX:Int)→Sp w0 (rest) w'→K (A.put (some 57) v) w'):=Lib.hid hK0
     clear hK0 hF hS
     obtain ⟨r0,hr0⟩:∃ r,agF (x 5) 0=r:=⟨_,rfl⟩
     obtain ⟨r1,hr1⟩:∃ r,agF (x 5) 1=r:=⟨_,rfl⟩
     rw [hr0,hr1] at q56 H
     rw [q56] at e56
     clear hr0 hr1 q56
     obtain ⟨A0,c0,rfl,_,_⟩:=Row.form H 0 rfl
     obtain ⟨A1,c1,rfl,_,_⟩:=Row.form H 1 rfl
     have hbr:=Lib.hid (hE _ HB.out)
     have HZ:=Lib.hid H
     clear hE H
     change Oper.wp _ _ A wx K _
     go_wp2_with fail
     refine (dcost_ok dv.w A0 A1 p.W.length dv.wc 288 c0 32 c1 p.W PI.fixedL PI.fixedD HZ.out (fun w0 w h=>(hbr.out w0 w (h.pick 2 [])).w) (fun w0 w h=>rowRd h 0 rfl) (fun w0 w h=>rowRd h 1 rfl) rfl dfixedL_len.symm rfl hWl fl15 fd15 HOKX.out).mono ?_
     rw [HCX.out]
     rintro _ w9 ⟨rfl,H9⟩
     exact hK.out _ _ rfl H9.tail2
    case p10 =>
     intro x wx A rest hDf hF hS hE H K hK0
     replace hDf:=Lib.hid hDf
     have e4:A.tmps[4]?.getD undef=.pointer (some ⟨g4,0,none⟩):=factsE_get hF (4,.pointer (some ⟨g4,0,none⟩)) (by simp) (by rfl)
     have e60:A.tmps[60]?.getD undef=.agg #[.int .i64 (-1),.int .i64 (es5:Int),.int .i64 (es4:Int)]:=((hS 9 (by decide)).2 60 rfl).trans (hS 9 (by decide)).1
     replace H:Sp w0 ((Bk g4 43 [.int .i64 0,.int .i64 0,.int .i64 0])::rest) wx:=H
     have hK:Hid (∀ (v:Value) (w' : World),v=undef→Sp w0 ((Bk g4 43 [.int .i64 (-1),.int .i64 (es5:Int),.int .i64 (es4:Int)])::rest) w'→K (A.put none v) w'):=Lib.hid hK0
     clear hK0 hF hS hE
     have t0:=H.cell 0 rfl 0
     have t1:=H.cell 0 rfl 1
     have t2:=H.cell 0 rfl 2
     have z0:=H.frozen 0 rfl 0
     have z1:=H.frozen 0 rfl 1
     have z2:=H.frozen 0 rfl 2
     change Oper.wp _ _ A wx K _
     go_step
     exact hK.out _ _ rfl (((H.set 0 (.int .i64 (-1))).set 1 (.int .i64 (es5:Int))).set 2 (.int .i64 (es4:Int)))
   case hend =>
    intro x wx A hA hS H
    replace H:Sp w0 ((Bk g4 43 [.int .i64 (-1),.int .i64 (es5:Int),.int .i64 (es4:Int)])::L) wx:=H
    clear hS
    simp only [putAll,Act.put,List.setIfInBounds_toArray,List.set_cons_succ,List.set_cons_zero,Nat.reduceAdd] at hA
    subst hA
    have HQ:=Lib.hid H
    clear H HY
    go_wp2
    have t0:=HQ.out.cell 0 rfl 0
    have t1:=HQ.out.cell 0 rfl 1
    have t2:=HQ.out.cell 0 rfl 2
    simp only [List.getElem?_cons_zero,List.getElem?_cons_succ] at t0 t1 t2
    exact bodyPost_ret (v:=.agg #[.int .i64 (-1),.int .i64 (es5:Int),.int .i64 (es4:Int)]) (by simp [results,go_sem,t0,t1,t2]) rfl ⟨rfl,HQ.out.tail⟩
end Go.Proofs.YtloijdbkikccgaaDoor

