/- A pack of texts: DefL DefN DefRows RepI. -/
import Derived.Test.YtloijdbkikccgaaDoorPk03
import Derived.Test.YtloijdbkikccgaaDoorPk04
import Derived.Test.YtloijdbkikccgaaDoorPk10
import Derived.Test.YtloijdbkikccgaaDoorPk12
import Derived.Test.YtloijdbkikccgaaDoorPk19
import Derived.Test.YtloijdbkikccgaaDoorPk27
import Derived.Test.YtloijdbkikccgaaDoorPk28
import Derived.Test.YtloijdbkikccgaaDoorPk31
import Derived.Test.YtloijdbkikccgaaDoorPk33
import Derived.Test.YtloijdbkikccgaaDoorPk34
namespace Go.Proofs.YtloijdbkikccgaaDoor
set_option linter.unusedVariables false
set_option linter.unusedSimpArgs false
open Go.RowKit
def subZ (A:Option Addr) (c q z:Nat):Option Addr:=if c=q then A else A.map (·.add (q * z))
theorem StAt.take {w:World} {V:Option Addr} {Y:List PM.St} (h:StAt w V Y) (k:Nat):StAt w V (Y.take k):=fun i hi=>by
 rw [List.length_take] at hi
 obtain ⟨ad,e,h0,h1,h2⟩:=h i (by omega)
 refine ⟨ad,e,?_,?_,?_⟩
 ·rw [List.getElem_take]; exact h0
 ·rw [List.getElem_take]; exact h1
 ·rw [List.getElem_take]; exact h2
theorem StAt.drop {w:World} {V:Option Addr} {Y:List PM.St} (h:StAt w V Y) (c k:Nat) (hc:Y.length≤c):StAt w (subZ V c k 3) (Y.drop k):=fun i hi=>by
 rw [List.length_drop] at hi
 obtain ⟨ad,rfl,h0,h1,h2⟩:=h (k+i) (by omega)
 unfold subZ
 rw [if_neg (by omega)]
 refine ⟨ad.add (k * 3),rfl,?_,?_,?_⟩
 ·rw [List.getElem_drop,Go.Addr.add_add,show k * 3+i * 3=(k+i) * 3 by omega]; exact h0
 ·rw [List.getElem_drop,Go.Addr.add_add,show k * 3+i * 3=(k+i) * 3 by omega]; exact h1
 ·rw [List.getElem_drop,Go.Addr.add_add,show k * 3+i * 3=(k+i) * 3 by omega]; exact h2
theorem Byt.dropZ {w:World} {A:Option Addr} {n c:Nat} {l:List UInt8} (h:Byt w (.slice A n c) l) (k:Nat) (hk:k≤n):Byt w (.slice (subZ A c k 1) (n - k) (c - k)) (l.drop k):=by
 unfold subZ
 by_cases e:c=k
 ·rw [if_pos e]; exact h.drop0 k hk e
 ·rw [if_neg e]
  have h2:=h.drop k hk
  rw [Nat.mul_one]; exact h2
def ptrB:Value→Nat
 | .pointer (some a)=>a.block
 | _=>0
theorem Blo.open2 {w0 w:World} {X:Pr} {L:List Pr} {g:Nat} {sv:Value} {BA:Option Addr} {bc:Nat} {p:BP} (H:Sp w0 (X::Blo g sv BA bc p::L) w) (hby:Ent L fun w=>Byt w (.slice BA p.b.length bc) p.b):∃ dv L2,Sp w0 (X::(L2++L)) w∧Ent (L2++L) (DBr g dv p)∧∀ φ,Ent L φ→Ent (L2++L) φ:=by
 obtain ⟨dv,H⟩:=(H.pick 2 [1,0]).unex
 have h5:=H.unstar
 have h4:=(h5.pick 3 [1,0,2]).unstar
 have h3:=(h4.pick 4 [1,0,2,3]).unstar
 have h2:=(h3.pick 5 [1,0,2,3,4]).unstar
 have h1:=(h2.pick 6 [1,0,2,3,4,5]).unstar
 exact ⟨{ dv with b:=BA,bc:=bc },[_,_,_,_,_,_],h1.pick 7 [6,5,4,3,2,0,1],fun w0 w h=>⟨h.cell 0 rfl 1,h.cell 0 rfl 2,h.cell 0 rfl 3,h.cell 0 rfl 4,h.cell 0 rfl 5,h.cell 0 rfl 6,h.cell 0 rfl 7,hby _ _ (h.pick 6 []),rowRd h 1 rfl,rowRd h 2 rfl,rowRd h 3 rfl,rowRd h 4 rfl,rowRd h 5 rfl⟩,fun φ hφ w0 w h=>hφ _ _ (h.pick 6 [])⟩
theorem Blo.rest {w0 w:World} {X:Pr} {L L2:List Pr} (H:Sp w0 (X::(L2++L)) w):Sp w0 (X::L) w:=by
 have h:=H.pick (1+L2.length) [0] ⟨by simp,by intro i hi; simp at hi; omega⟩
 have e:(X::(L2++L)).drop (1+L2.length)=L:=by
  rw [show 1+L2.length=L2.length+1 by omega,List.drop_succ_cons,List.drop_left]
 rw [e] at h
 exact h
namespace PD
theorem layD0_len (Y:List PM.St) (b:List UInt8) (last:Bool) (a:Nat):(layD 0 Y b last a).length=3+pad (a+3)+32+8 * b.length:=by
 unfold layD bodyD PI.storedW
 rw [if_pos rfl]
 simp only [List.length_append,PBits.bitsOf_length,List.length_singleton,List.length_replicate,PBits.ofB_length]
 omega
theorem layD1_len (Y:List PM.St) (b:List UInt8) (last:Bool) (a:Nat):(layD 1 Y b last a).length=fixN Y:=by
 unfold layD bodyD fixN
 rw [if_neg (by decide),if_pos rfl]
 simp only [List.length_append,PBits.bitsOf_length,List.length_singleton]
theorem layD2_len (Y:List PM.St) (b:List UInt8) (last:Bool) (a:Nat):(layD 2 Y b last a).length=dynN Y:=by
 unfold layD bodyD dynN
 rw [if_neg (by decide),if_neg (by decide)]
 simp only [List.length_append,PBits.bitsOf_length,List.length_singleton]
theorem partD_le (Y:List PM.St) (b:List UInt8) (last:Bool) (a:Nat):(partD Y b last a).length≤fixN Y∧(partD Y b last a).length≤dynN Y∧(b.length≤65535→(partD Y b last a).length≤3+pad (a+3)+32+8 * b.length):=by
 unfold partD
 have hk:kind Y b a=pick (sto b.length a) (fixN Y) (dynN Y):=rfl
 have h0:=fun h=>kind_sto (Y:=Y) (b:=b) (a:=a) h
 have l0:=layD0_len Y b last a
 have l1:=layD1_len Y b last a
 have l2:=layD2_len Y b last a
 generalize fixN Y=f at *
 generalize dynN Y=d at *
 have hs:∀ h:b.length≤65535,sto b.length a=((3+pad (a+3)+32+8 * b.length:Nat):Int):=fun h=>by unfold sto; rw [if_pos h]
 have hn:¬ b.length≤65535→sto b.length a = -1:=fun h=>by unfold sto; rw [if_neg h]
 generalize sto b.length a=s at *
 generalize 3+pad (a+3)+32+8 * b.length=q at *
 unfold pick at hk
 by_cases hb:b.length≤65535
 ·have hs:=hs hb
  rw [if_pos (by omega)] at hk
  split at hk
  ·split at hk
   ·rw [hk,l2]; omega
   ·rw [hk,l1]; omega
  ·split at hk
   ·rw [hk,l2]; omega
   ·rw [hk,l0]; omega
 ·have hn:=hn hb
  rw [if_neg (by omega)] at hk
  split at hk
  ·rw [hk,l2]; omega
  ·rw [hk,l1]; omega
theorem fixN_le (Y:List PM.St) (n:Nat) (hY:PM.mays Y n):fixN Y≤3+28 * (2 * Y.length+1):=by
 unfold fixN fixW
 have hX:=words_ok (A:=PI.fixedL) (B:=PI.fixedD) hY (fun s _ hs=>PI.fixed_has s (by omega)) (fun s _ hs=>PI.fixed_hasD s (by omega))
 have h:=layW_le fl15 fd15 (words Y) hX
 rw [lay_words] at h
 have:=words_len Y
 omega
theorem partY_len (Y:List PM.St) (i:Nat):(partY Y i).length≤512:=by unfold partY; rw [List.length_take]; omega
theorem partY_mays (Y:List PM.St) (hY:PM.mays Y 0) (i:Nat):PM.mays (partY Y i) (atB Y i):=by
 have h1:PM.mays (Y.take (512 * i)++(partY Y i++Y.drop (512 * (i+1)))) 0:=by
  rw [← List.append_assoc,← take_parts,List.take_append_drop]; exact hY
 have h2:=((mays_app _ _ _).1 ((mays_app _ _ _).1 h1).2).1
 rw [Nat.zero_add] at h2
 exact h2
theorem stD_le (Y:List PM.St) (b:List UInt8) (hY:PM.mays Y 0) (i:Nat):(stD Y b i).length≤28703 * i:=by
 induction i with
 | zero=>exact Nat.le_refl _
 | succ i ih =>
  rw [stD,List.length_append]
  have h1:=(partD_le (partY Y i) (partB Y b i) (decide (Y.length≤512 * (i+1))) (stD Y b i).length).1
  have h2:=fixN_le _ _ (partY_mays Y hY i)
  have h3:=partY_len Y i
  omega
end PD
theorem stI_size (X:List PM.St) (h:∀ s ∈ X,PD.StOk s):∀ s ∈ X.map toI,s.1≤1000000:=by
 intro s hs
 obtain ⟨t,ht,rfl⟩:=List.mem_map.1 hs
 rcases h t ht with h | h
 ·show (t.1:Int)≤_; omega
 ·show (t.1:Int)≤_; omega
set_option maxRecDepth 100000 in
set_option maxHeartbeats 8000000 in
theorem dstream_ok (V0 BA0:Option Addr) (n0 c0 bn0 bc0:Nat) (Y:List PM.St) (b:List UInt8) {TL TF:Option Addr} {cl cf:Nat} {w0 w:World} {L:List Pr} (H:Sp w0 L w) (hT:Ent L (DTabs TL TF cl cf)) (hn:n0=Y.length) (hnm:n0≤100000) (hc:n0≤c0) (hcm:c0≤maxLen) (h:Ent L fun w=>StAt w V0 Y) (hY:PM.mays Y 0)
  (hb:PM.expand Y []=b) (hbn:bn0=b.length) (hbm:bn0≤10000000) (hbc:bn0≤bc0) (hbcm:bc0≤maxLen) (hby:Ent L fun w=>Byt w (.slice BA0 bn0 bc0) b) :
  Calls Tryd.prog 30 #[.slice V0 n0 c0,.slice BA0 bn0 bc0] w (Ret fun v w'=>Sp w0 (Row 5 1 v (PD.stream Y b).length (cells8 (PD.stream Y b))::L) w'):=by
 have HT:=Lib.hid hT
 have HN:=Lib.hid hn
 have HST0:=Lib.hid h
 have HYM:=Lib.hid hY
 have HB:=Lib.hid hb
 have HBN:=Lib.hid hbn
 have HBY0:=Lib.hid hby
 have hcm9:c0≤9223372036854775807:=hcm
 have hbcm9:bc0≤9223372036854775807:=hbcm
 clear hT hn h hY hb hbn hby hcm hbcm
 go_enter Tryd.func30,Tryd.ntmps30
 go_wp2_with fail
 refine (wb_new H).mono ?_
 rintro _ w1 ⟨_,rfl,gw,rfl,H1⟩
 clear H
 go_wp2_with fail
 go_loopw [0,1] (fun lv bv wr=>∃ (i:Nat) (V BA:Option Addr) (n c bn bc:Nat),lv=.slice V n c∧bv=.slice BA bn bc∧i<PD.many Y∧n=Y.length - 512 * i∧n≤c∧c≤c0∧(Ent L fun w=>StAt w V (Y.drop (512 * i)))∧bn=b.length - PD.atB Y i∧bn≤bc∧bc≤bc0∧(Ent L fun w=>Byt w (.slice BA bn bc) (b.drop (PD.atB Y i)))∧Sp w0 (WB gw (PD.stD Y b i)::L) wr) (fun lv _ _=>match lv with | .slice _ n _=>n | _=>0)
 case atStart =>
  refine ⟨0,V0,BA0,n0,c0,bn0,bc0,rfl,rfl,by unfold PD.many; omega,by rw [HN.out]; rfl,hc,Nat.le_refl _,HST0.out,?_,hbc,Nat.le_refl _,?_,H1⟩
  ·show bn0=b.length - 0; rw [HBN.out]; rfl
  ·exact HBY0.out
 case round =>
  obtain ⟨i,V,BA,n,c,bn,bc,rfl,rfl,him,hnY,hnc,hcc,hst,hbnY,hbb,hbcc,hby,H2⟩:=hrel
  clear H1
  obtain ⟨m,hm⟩:∃ m,min n 512=m:=⟨_,rfl⟩
  obtain ⟨PY,hPY⟩:∃ P,PD.partY Y i=P:=⟨_,rfl⟩
  obtain ⟨PB,hPB⟩:∃ P,PD.partB Y b i=P:=⟨_,rfl⟩
  obtain ⟨z,hz⟩:∃ z,PM.size PY=z:=⟨_,rfl⟩
  obtain ⟨lb,hlb⟩:∃ l,decide (Y.length≤512 * (i+1))=l:=⟨_,rfl⟩
  obtain ⟨B1,hB1⟩:∃ B,PD.stD Y b i=B:=⟨_,rfl⟩
  have hB1l:B1.length≤800000000:=by
   have h1:=PD.stD_le Y b HYM.out i
   have h2:i≤1000:=by unfold PD.many at him; have:=HN.out; omega
   rw [hB1] at h1; omega
  have hPYl:m=PY.length:=by rw [← hPY,← hm]; unfold PD.partY; rw [List.length_take,List.length_drop]; omega
  have hend:=PD.atB_le Y (i+1)
  have hbl:b.length=PM.size Y:=by rw [← HB.out,PM.expand_length,List.length_nil,Nat.zero_add]
  rw [PD.atB_succ,hPY,hz] at hend
  have hzb:z≤bn:=by omega
  have hPBl:z=PB.length:=by rw [← hPB]; unfold PD.partB; rw [hPY,hz,List.length_take,List.length_drop]; omega
  have hmy:=PD.partY_mays Y HYM.out i
  rw [hPY] at hmy
  have hso:=PD.mays_ok PY _ hmy
  have hstp:Ent L fun w=>StAt w V PY:=fun w0 w h=>by
   rw [← hPY]; exact (hst w0 w h).take 512
  have hbz:Ent L fun w=>Byt w (.slice BA PB.length bc) PB:=fun w0 w h=>by
   have h9:=(hby w0 w h).take z (by rw [List.length_drop]; omega)
   rw [← hPBl,← hPB]
   unfold PD.partB
   rw [hPY,hz]
   exact h9
  have hbo:=bp_ok PY PB lb _ hmy (by omega) (by have:=HBN.out; rw [← hPBl]; omega)
  have hstd:PD.stD Y b (i+1)=B1++PD.partD PY PB lb B1.length:=by rw [PD.stD,hPY,hPB,hlb,hB1]
  have kl0:decide (m=n)=lb:=by
   rw [← hlb,decide_eq_decide]
   unfold PD.many at him
   omega
  have kl1:decide ((m:Int)=(n:Int))=lb:=by rw [← kl0,decide_eq_decide]; omega
  have kl2:((m:Int) == (n:Int))=lb:=by rw [← kl1]; rfl
  have kl3:(m == n)=lb:=by rw [← kl0]; rfl
  have HSZ:=Lib.hid (size_ok V m c (PY.map toI) H2 (by rw [List.length_map]; exact hPYl) (by omega) (stI_size PY hso) (fun w0 w h=>(hstp w0 w h.tail).toI))
  rw [sizeI_map,hz,hB1] at HSZ
  have y1:min (n:Int) 512=(m:Int):=by omega
  have y2:(m:Int)≤(c:Int):=by omega
  have y3:(z:Int)≤(bc:Int):=by omega
  have HPY:=Lib.hid hPYl
  have HPB:=Lib.hid hPBl
  have HST:=Lib.hid hstp
  have HBZ:=Lib.hid hbz
  have HSO:=Lib.hid hso
  have HBO:=Lib.hid hbo
  have HSTD:=Lib.hid hstd
  have HDST:=Lib.hid hst
  have HDBY:=Lib.hid hby
  have HM:=Lib.hid hm
  have HLB:=Lib.hid hlb
  have HZ0:=Lib.hid hz
  have HPYE:=Lib.hid hPY
  clear hst hby hPY hPB hB1 hmy hso hstp hbz hbo hstd hm hz hlb H2 hPYl hPBl
  have hm512:m≤512∧m≤n:=by have:=HM.out; omega
  have hn9:n≤100000∧z≤10000000∧bn≤10000000:=by have:=HN.out; have:=HBN.out; omega
  obtain ⟨hn9,hz9,hbn9⟩:=hn9
  have HNY:=Lib.hid hnY
  have HBNY:=Lib.hid hbnY
  have HBL:=Lib.hid hbl
  have HEND:=Lib.hid hend
  have HIM:=Lib.hid him
  clear hnY hbnY hbl hend him
  go_wp2_with fail
  refine HSZ.out.mono ?_
  rintro _ w2 ⟨rfl,H3⟩
  have HX3:=Lib.hid H3
  clear HSZ H3
  go_wp2_with fail
  refine wp_region_sc (L:=L) [some (.slice V n c),some (.int .i64 (m:Int)),some (.slice V m c),some (.slice BA bn bc),some (.int .i64 (z:Int)),some (.slice BA z bc),some (.int .i64 (m:Int)),some (.slice V n c),some (.int .i64 (n:Int)),some (.bool lb),none,some (.pointer (some ⟨gw,0,none⟩)),some (.tuple #[])] (fun ix vx=>match ix with | 10=>(fun vv=>vv=.pointer (some ⟨ptrB vv,0,none⟩)) vx | _=>True) (fun ix vx=>match ix with | 10=>(fun vv=>[Blo (ptrB vv) (.slice V m c) BA bc (BP.of PY PB lb)]) vx | 12=>(fun _=>[WB gw (B1++PD.partD PY PB lb B1.length)]) vx | _=>[]) (fun ix=>match ix with | 12=>[WB gw B1] | _=>[]) 13 40
   [some 16,some 17,some 18,some 19,some 20,some 21,some 22,some 23,some 24,some 25,some 26,some 27,some 28]
   [[],[],[0,1],[],[],[3,4],[],[],[7],[6,8],[2,5,9],[],[10,11,10]]
   [[],[],[0,1],[],[],[3,4],[],[],[7],[6,7,8],[0,1,2,3,4,5,6,7,8,9],[],[0,1,2,3,4,5,6,7,8,9,10,11]]
   [[],[],[],[],[],[],[],[],[],[],[],[],[10]] [[],[],[],[],[],[],[],[],[],[],[],[],[]] [(0,.slice V n c),(1,.slice BA bn bc),(5,.pointer (some ⟨gw,0,none⟩)),(6,.int .i64 (m:Int)),(7,.int .i64 (z:Int))]
   (by kernel_rfl) rfl (by decide) (by rfl) (by decide +kernel) rfl rfl (by simp) (HX3.out) ?hstep ?hend
  case hstep =>
   refine ⟨?p0,⟨?p1,⟨?p2,⟨?p3,⟨?p4,⟨?p5,⟨?p6,⟨?p7,⟨?p8,⟨?p9,⟨?p10,⟨?p11,⟨?p12,trivial⟩⟩⟩⟩⟩⟩⟩⟩⟩⟩⟩⟩⟩
   case p0 | p1 | p2 | p3 | p4 | p5 | p6 | p7 | p8 | p9 | p11 =>
    intro x wx A rest hDf hF hS hE H K hK
    replace hK:=Lib.hid hK
    clear hS hE hDf
    repeat (obtain ⟨_,hF⟩:=hF)
    change Oper.wp _ _ A wx K _
    go_step
    exact hK.out _ _ rfl H
   case p10 =>
    intro x wx A rest hDf hF hS hE H K hK0
    replace hDf:=Lib.hid hDf
    have e18:A.tmps[18]?.getD undef=.slice V m c:=((hS 2 (by decide)).2 18 rfl).trans (hS 2 (by decide)).1
    have e21:A.tmps[21]?.getD undef=.slice BA z bc:=((hS 5 (by decide)).2 21 rfl).trans (hS 5 (by decide)).1
    have e25:A.tmps[25]?.getD undef=.bool lb:=((hS 9 (by decide)).2 25 rfl).trans (hS 9 (by decide)).1
    replace H:Sp w0 (rest) wx:=H
    have hK:Hid (∀ (v:Value) (w' : World),v=.pointer (some ⟨ptrB v,0,none⟩)→Sp w0 ((Blo (ptrB v) (.slice V m c) BA bc (BP.of PY PB lb))::rest) w'→K (A.put (some 26) v) w'):=Lib.hid hK0
    clear hK0 hF hS
    have hst:=Lib.hid (hE _ HST.out)
    have htb:=Lib.hid (hE _ HT.out)
    have HZ:=Lib.hid H
    clear hE H
    change Oper.wp _ _ A wx K _
    go_wp2_with fail
    refine (dmakes_ok V BA m c z bc PY PB lb HZ.out htb.out HPY.out (by omega) hst.out HSO.out HPB.out).mono ?_
    rintro _ w9 ⟨g9,rfl,H9⟩
    exact hK.out _ _ rfl H9
   case p12 =>
    intro x wx A rest hDf hF hS hE H K hK0
    replace hDf:=Lib.hid hDf
    have q26:(x 10)=.pointer (some ⟨ptrB (x 10),0,none⟩):=(hS 10 (by decide)).1
    have e26:A.tmps[26]?.getD undef=x 10:=(hS 10 (by decide)).2 26 rfl
    have e27:A.tmps[27]?.getD undef=.pointer (some ⟨gw,0,none⟩):=((hS 11 (by decide)).2 27 rfl).trans (hS 11 (by decide)).1
    replace H:Sp w0 ((WB gw B1)::(Blo (ptrB (x 10)) (.slice V m c) BA bc (BP.of PY PB lb))::rest) wx:=H
    have hK:Hid (∀ (v:Value) (w' : World),v=.tuple #[]→Sp w0 ((WB gw (B1++PD.partD PY PB lb B1.length))::rest) w'→K (A.put (some 28) v) w'):=Lib.hid hK0
    clear hK0 hF hS
    obtain ⟨g9,hg9⟩:∃ q,ptrB (x 10)=q:=⟨_,rfl⟩
    rw [hg9] at q26 H
    rw [q26] at e26
    clear q26 hg9
    have hby:=Lib.hid (hE _ HBZ.out)
    have htb:=Lib.hid (hE _ HT.out)
    clear hE
    have HP:=H.pick 2 [1]
    obtain ⟨dv,L2,H5,hE5,hL5⟩:=Blo.open2 H hby.out
    have HX5:=Lib.hid H5
    have hdb:=Lib.hid hE5
    have htt:=Lib.hid (hL5 _ htb.out)
    clear H H5 hE5 hL5 HP
    change Oper.wp _ _ A wx K _
    go_wp2_with fail
    refine (dput_ok g9 gw dv _ B1 HX5.out hdb.out htt.out HBO.out hB1l).mono ?_
    rintro _ w9 ⟨rfl,H9⟩
    rw [bp_kind,bp_lay] at H9
    exact hK.out _ _ rfl (Blo.rest H9)
  case hend =>
   intro x wx A hA hS H
   replace H:Sp w0 ((WB gw (B1++PD.partD PY PB lb B1.length))::L) wx:=H
   clear hS
   simp only [putAll,Act.put,List.setIfInBounds_toArray,List.set_cons_succ,List.set_cons_zero,Nat.reduceAdd] at hA
   subst hA
   have HQ:=Lib.hid H
   clear H HX3
   have hX9:Sp w0 (WB gw (PD.stD Y b (i+1))::L) wx:=by rw [HSTD.out]; exact HQ.out
   have HX9:=Lib.hid hX9
   clear hX9 HQ
   by_cases hcm:m=c
   ·subst hcm
    by_cases hbz:z=bc
    ·subst hbz
     have q1:(m:Int)≤(n:Int):=by omega
     have q2:(z:Int)≤(bn:Int):=by omega
     go_wp2_with fail
     go_quiet (fail)
     have HQ:=Lib.hid (HX9.out.drewN nq)
     clear HX9
     cases lb with
     | true =>
      have h0:n - m=0:=by have:=of_decide_eq_true kl0; omega
      have h1:(n:Int) - (m:Int)=0:=by omega
      have hq:i+1=PD.many Y:=by
       have h2:=of_decide_eq_true HLB.out
       have h3:=HIM.out
       unfold PD.many at h3 ⊢
       omega
      have h9:=HQ.out
      rw [hq] at h9
      have h4:PD.many Y≤1000:=by
       unfold PD.many; have:=HN.out; omega
      have h5:=PD.stD_le Y b HYM.out (PD.many Y)
      have HD:=Lib.hid (wb_done gw _ h9 (by omega))
      clear h4 h5
      clear HQ h9 hq
      try rw [h0]
      go_wp2_with fail
      refine HD.out.mono ?_
      rintro _ w5 ⟨v5,rfl,H5⟩
      go_wp2
      go_ret
      exact ⟨_,rfl,H5.pick 2 [0]⟩
     | false =>
      exfalso
      have:=of_decide_eq_false kl0
      omega
    ·have hbz2:¬ (bc:Int)=(z:Int):=by omega
     have q1:(m:Int)≤(n:Int):=by omega
     have q2:(z:Int)≤(bn:Int):=by omega
     go_wp2_with fail
     go_quiet (fail)
     have HQ:=Lib.hid (HX9.out.drewN nq)
     clear HX9
     cases lb with
     | true =>
      have h0:n - m=0:=by have:=of_decide_eq_true kl0; omega
      have h1:(n:Int) - (m:Int)=0:=by omega
      have hq:i+1=PD.many Y:=by
       have h2:=of_decide_eq_true HLB.out
       have h3:=HIM.out
       unfold PD.many at h3 ⊢
       omega
      have h9:=HQ.out
      rw [hq] at h9
      have h4:PD.many Y≤1000:=by
       unfold PD.many; have:=HN.out; omega
      have h5:=PD.stD_le Y b HYM.out (PD.many Y)
      have HD:=Lib.hid (wb_done gw _ h9 (by omega))
      clear h4 h5
      clear HQ h9 hq
      try rw [h0]
      go_wp2_with fail
      refine HD.out.mono ?_
      rintro _ w5 ⟨v5,rfl,H5⟩
      go_wp2
      go_ret
      exact ⟨_,rfl,H5.pick 2 [0]⟩
     | false =>
      exfalso
      have:=of_decide_eq_false kl0
      omega
   ·have hcm2:¬ (c:Int)=(m:Int):=by omega
    by_cases hbz:z=bc
    ·subst hbz
     have q1:(m:Int)≤(n:Int):=by omega
     have q2:(z:Int)≤(bn:Int):=by omega
     go_wp2_with fail
     go_quiet (fail)
     have HQ:=Lib.hid (HX9.out.drewN nq)
     clear HX9
     cases lb with
     | true =>
      have h0:n - m=0:=by have:=of_decide_eq_true kl0; omega
      have h1:(n:Int) - (m:Int)=0:=by omega
      have hq:i+1=PD.many Y:=by
       have h2:=of_decide_eq_true HLB.out
       have h3:=HIM.out
       unfold PD.many at h3 ⊢
       omega
      have h9:=HQ.out
      rw [hq] at h9
      have h4:PD.many Y≤1000:=by
       unfold PD.many; have:=HN.out; omega
      have h5:=PD.stD_le Y b HYM.out (PD.many Y)
      have HD:=Lib.hid (wb_done gw _ h9 (by omega))
      clear h4 h5
      clear HQ h9 hq
      try rw [h0]
      go_wp2_with fail
      refine HD.out.mono ?_
      rintro _ w5 ⟨v5,rfl,H5⟩
      go_wp2
      go_ret
      exact ⟨_,rfl,H5.pick 2 [0]⟩
     | false =>
      have h0:m=512∧512<n:=by have:=of_decide_eq_false kl0; have:=HM.out; omega
      have h1:¬ (n:Int) - (m:Int)=0:=by omega
      have h2:¬ n - m=0:=by omega
      go_wp2_with fail
      go_roundw
      case rel =>
       have hny:=HNY.out
       have hbny:=HBNY.out
       have e1:512 * (i+1)=512 * i+m:=by omega
       have e2:PD.atB Y (i+1)=PD.atB Y i+z:=by rw [PD.atB_succ,HPYE.out,HZ0.out]
       refine ⟨i+1,V.map (fun x=>x.add (m * 3)),BA,n - m,_,0,0,rfl,rfl,?_,by omega,by omega,by omega,fun w0 w h=>?_,by omega,by omega,by omega,fun w0 w h=>?_,HQ.out⟩
       ·have h3:=of_decide_eq_false HLB.out
        unfold PD.many; omega
       ·have h9:=(HDST.out w0 w h).drop c m (by rw [List.length_drop]; omega)
        rw [List.drop_drop,← e1] at h9
        unfold subZ at h9
        rw [if_neg (fun h=>hcm h.symm)] at h9
        exact h9
       ·have h9:=(HDBY.out w0 w h).dropZ z hzb
        rw [List.drop_drop,← e2] at h9
        unfold subZ at h9
        rw [if_pos rfl] at h9
        rw [show bn - z=0 by omega,Nat.sub_self] at h9; exact h9
      case measure=>first | (simp [intOf]; omega) | omega | simp [intOf]
    ·have hbz2:¬ (bc:Int)=(z:Int):=by omega
     have q1:(m:Int)≤(n:Int):=by omega
     have q2:(z:Int)≤(bn:Int):=by omega
     go_wp2_with fail
     go_quiet (fail)
     have HQ:=Lib.hid (HX9.out.drewN nq)
     clear HX9
     cases lb with
     | true =>
      have h0:n - m=0:=by have:=of_decide_eq_true kl0; omega
      have h1:(n:Int) - (m:Int)=0:=by omega
      have hq:i+1=PD.many Y:=by
       have h2:=of_decide_eq_true HLB.out
       have h3:=HIM.out
       unfold PD.many at h3 ⊢
       omega
      have h9:=HQ.out
      rw [hq] at h9
      have h4:PD.many Y≤1000:=by
       unfold PD.many; have:=HN.out; omega
      have h5:=PD.stD_le Y b HYM.out (PD.many Y)
      have HD:=Lib.hid (wb_done gw _ h9 (by omega))
      clear h4 h5
      clear HQ h9 hq
      try rw [h0]
      go_wp2_with fail
      refine HD.out.mono ?_
      rintro _ w5 ⟨v5,rfl,H5⟩
      go_wp2
      go_ret
      exact ⟨_,rfl,H5.pick 2 [0]⟩
     | false =>
      have h0:m=512∧512<n:=by have:=of_decide_eq_false kl0; have:=HM.out; omega
      have h1:¬ (n:Int) - (m:Int)=0:=by omega
      have h2:¬ n - m=0:=by omega
      go_wp2_with fail
      go_roundw
      case rel =>
       have hny:=HNY.out
       have hbny:=HBNY.out
       have e1:512 * (i+1)=512 * i+m:=by omega
       have e2:PD.atB Y (i+1)=PD.atB Y i+z:=by rw [PD.atB_succ,HPYE.out,HZ0.out]
       refine ⟨i+1,V.map (fun x=>x.add (m * 3)),BA.map (fun x=>x.add z),n - m,_,bn - z,_,rfl,rfl,?_,by omega,by omega,by omega,fun w0 w h=>?_,by omega,by omega,by omega,fun w0 w h=>?_,HQ.out⟩
       ·have h3:=of_decide_eq_false HLB.out
        unfold PD.many; omega
       ·have h9:=(HDST.out w0 w h).drop c m (by rw [List.length_drop]; omega)
        rw [List.drop_drop,← e1] at h9
        unfold subZ at h9
        rw [if_neg (fun h=>hcm h.symm)] at h9
        exact h9
       ·have h9:=(HDBY.out w0 w h).dropZ z hzb
        rw [List.drop_drop,← e2] at h9
        unfold subZ at h9
        rw [if_neg (fun h=>hbz h.symm)] at h9
        first | exact h9 | simpa using h9
      case measure=>first | (simp [intOf]; omega) | omega | simp [intOf]
set_option linter.unusedVariables false
set_option linter.unusedSimpArgs false
open Go.RowKit
namespace PD
def defl (b:List UInt8):List UInt8:=stream (PM.Cut b 64) b
theorem defl_mays (b:List UInt8):PM.mays (PM.Cut b 64) 0:=PM.cut_mays b 64 0
theorem defl_exp (b:List UInt8):PM.expand (PM.Cut b 64) []=b:=PM.cut_back0 b 64
theorem defl_size (b:List UInt8):PM.size (PM.Cut b 64)=b.length:=by
 have h:=PM.cut_size b 64 0
 have:max 0 b.length=b.length:=by omega
 rw [this] at h
 show PM.size (PM.cutAt b 64 0)=_
 omega
def deflN (b:List UInt8):Nat:=(bitsD (PM.Cut b 64) b).length
theorem defl_len (b:List UInt8):(defl b).length=(deflN b+7) / 8:=stream_len _ _
theorem defl_le (b:List UInt8) (h:b.length≤100000):(defl b).length≤1000000:=by
 have h1:=stD_le (PM.Cut b 64) b (defl_mays b) (many (PM.Cut b 64))
 have h2:(PM.Cut b 64).length≤b.length:=PM.cut_length b 64 0
 have h3:many (PM.Cut b 64)≤200:=by unfold many; omega
 rw [defl_len]
 unfold deflN bitsD
 omega
theorem defl_behind (b r:List UInt8) (most:Nat) (h:b.length≤most):PI.all (PBits.ofB (defl b++r)) most=.ok (deflN b,b,blksD (PM.Cut b 64) b):=by
 have h1:=stream_behind (PM.Cut b 64) (defl_mays b) r most (by rw [defl_size]; exact h)
 rw [defl_exp] at h1
 exact h1
theorem defl_read (b:List UInt8) (most:Nat) (h:b.length≤most):PI.all (PBits.ofB (defl b)) most=.ok (deflN b,b,blksD (PM.Cut b 64) b):=by
 have:=defl_behind b [] most h
 rwa [List.append_nil] at this
theorem defl_cap (b:List UInt8) (m:Nat) (h:m<b.length):PI.all (PBits.ofB (defl b)) m=.error 22 :=
 PI.Fine.all.cap _ b.length (Nat.zero_le _) (Nat.zero_le _) _ (defl_read b _ (Nat.le_refl _)) m (Nat.zero_le _) h
end PD
set_option maxRecDepth 100000 in
set_option maxHeartbeats 2000000 in
theorem dall_ok (BA:Option Addr) (n c:Nat) (b:List UInt8) {TL TF:Option Addr} {cl cf:Nat} {w0 w:World} {L:List Pr} (H:Sp w0 L w) (hT:Ent L (DTabs TL TF cl cf)) (hn:n=b.length) (hnm:n≤100000) (hc:n≤c) (hcm:c≤maxLen) (hb:Ent L fun w=>Byt w (.slice BA n c) b) :
  Calls Tryd.prog 11 #[.slice BA n c] w fun e w'=>∃ v,e=.returned (.tuple #[v,.int .i64 0])∧Sp w0 (Row 5 1 v (PD.defl b).length (cells8 (PD.defl b))::L) w':=by
 have HT:=Lib.hid hT
 have HN:=Lib.hid hn
 have HB:=Lib.hid hb
 have k1:¬ (n:Int) > 16777216:=by omega
 have hcut:=Cut_ok n 64 BA c b H hn hb (by omega)
 have e64:cutL b 64=PM.Cut b 64:=by unfold cutL; rw [if_pos ⟨by decide,by decide⟩]; rfl
 rw [e64] at hcut
 have e65:cutE 64=0:=rfl
 rw [e65] at hcut
 have hmy:=PD.defl_mays b
 have hxp:=PD.defl_exp b
 have hle:(PM.Cut b 64).length≤b.length:=PM.cut_length b 64 0
 unfold PD.defl
 obtain ⟨Y,hY⟩:∃ Y,PM.Cut b 64=Y:=⟨_,rfl⟩
 rw [hY] at hcut hmy hxp hle ⊢
 obtain ⟨y,hy⟩:∃ y,Y.length=y:=⟨_,rfl⟩
 rw [hy] at hcut hle
 have hy1:y≤100000:=by omega
 have HC:=Lib.hid hcut
 have HM:=Lib.hid hmy
 have HX:=Lib.hid hxp
 have HY:=Lib.hid hy
 clear hT hn hb hcut e64 e65 hmy hxp hY hy hle H
 go_enter Tryd.func11,Tryd.ntmps11
 go_wp2_with fail
 refine HC.out.mono ?_
 rintro _ w1 ⟨v1,rfl,H1⟩
 obtain ⟨V,vc,rfl,hv1,hv2⟩:=Row.form H1 0 rfl
 have HS:=Lib.hid (dstream_ok V BA y vc n c Y b H1 (fun w0 w h=>HT.out w0 w h.tail) HY.out.symm hy1 hv1 hv2 (fun w0 w h=>h.stAt 0 rfl) HM.out HX.out HN.out (by omega) hc hcm (fun w0 w h=>HB.out w0 w h.tail))
 clear HC H1
 go_wp2_with fail
 refine HS.out.mono ?_
 rintro _ w2 ⟨v2,rfl,H2⟩
 have H3:=H2.pick 2 [0]
 clear HS H2
 go_wp2
 go_ret2
 exact ⟨v2,rfl,H3⟩
set_option linter.unusedVariables false
set_option linter.unusedSimpArgs false
namespace PD
set_option maxRecDepth 100000 in
theorem row_nil:stream (PM.Cut [] 64) []=[3,0]:=by decide +kernel
set_option maxRecDepth 100000 in
theorem row_a:stream (PM.Cut [97] 64) [97]=[75,4,0]:=by decide +kernel
end PD
set_option linter.unusedVariables false
set_option linter.unusedSimpArgs false
open Go.RowKit
def RI (g n:Nat) (c:Value) (bp:Nat):Pr:=Ex fun cur:Array Value=>Ex fun (_:cur.size=n∧bp≤n∧cur.toList.take bp=List.replicate bp c)=>Is g (.cells cur 3 (0,0))
theorem RI.rd {w0 w:World} {L:List Pr} {g n bp:Nat} {c:Value} (H:Sp w0 (RI g n c bp::L) w):Rd w (some ⟨g,0,none⟩) ((List.replicate bp c)):=by
 obtain ⟨cur,H⟩:=H.unex
 obtain ⟨⟨h1,h2,h3⟩,H⟩:=H.unex
 have hh:=H.is_ 0 rfl
 refine fun _=>⟨_,rfl,fun j u hu=>?_⟩
 have e1:(Addr.add ⟨g,0,none⟩ j)=⟨g,j,none⟩:=by
  unfold Addr.add; split
  ·rename_i h0; subst h0; rfl
  ·simp
 rw [e1]
 have hj:j<bp:=by
  have:=(List.getElem?_eq_some_iff.1 hu).1
  simpa using this
 rw [← h3,List.getElem?_take_of_lt hj] at hu
 simp [World.cell?,hh]
 simpa using hu
theorem RI.row {w0 w:World} {L:List Pr} {g n:Nat} {c:Value} (H:Sp w0 (RI g n c n::L) w) (hn:n≤maxLen):Sp w0 (Row 3 1 (.slice (some ⟨g,0,none⟩) n n) n (List.replicate n c)::L) w:=by
 obtain ⟨cur,H⟩:=H.unex
 obtain ⟨⟨h1,h2,h3⟩,H⟩:=H.unex
 exact H.imp fun p hp=>⟨by simp,.inr ⟨g,n,cur,rfl,hp,Nat.le_refl _,hn,by rw [h1,Nat.mul_one],by rw [Nat.mul_one,h3]⟩⟩
theorem RI.of_row {w0 w:World} {L:List Pr} {ad:Addr} {n:Nat} {c z:Value} (H:Sp w0 (Row 3 1 (.slice (some ad) n n) n (List.replicate n z)::L) w):∃ g,ad=⟨g,0,none⟩∧Sp w0 (RI g n c 0::L) w:=by
 have h:=H.owns 0 rfl
 rcases h.2 with ⟨hv,_⟩ | ⟨g,cap,cur,hv,hb,hh,h1,h2,h3,h4⟩
 ·cases hv
 ·injection hv with e1 e2 e3
  injection e1 with e1
  subst e1 e3
  refine ⟨g,rfl,H.imp fun p hp=>?_⟩
  rcases hp.2 with ⟨hv,_⟩ | ⟨g',cap',cur',hv,hb',h1',h2',h3',h4'⟩
  ·cases hv
  ·injection hv with e1 e2 e3
   injection e1 with e1
   injection e1 with e1
   subst e1 e3
   exact ⟨cur',⟨by rw [h3',Nat.mul_one],Nat.zero_le _,rfl⟩,hb'⟩
theorem RI.copy {w0 w:World} {L:List Pr} {g n bp k:Nat} {c:Value} (H:Sp w0 (RI g n c bp::L) w) (a:Addr) (sLen sCap dCap:Nat) (ty:TypeId) (hk:k=min sLen (n - bp)) (hc1:c.oneCell'=true)
  (hsrc:∀ j u,((List.replicate k c))[j]?=some u→w.cell? (a.add j)=some u) :
  ∃ w',(Builtin.copy_ #[58,58] ty #[.slice (some ⟨g,bp,none⟩) (n - bp) dCap,.slice (some a) sLen sCap]).run Tryd.prog w=.ok (.int .i64 (k:Int)) w'∧Sp w0 (RI g n c (bp+k)::L) w':=by
 obtain ⟨i0,hi0,hz0,hz1,hz2⟩:=info_parts infoJ
 obtain ⟨cur,H⟩:=H.unex
 obtain ⟨⟨h1,h2,h3⟩,H⟩:=H.unex
 have hg:=H.is_ 0 rfl
 have hl:((List.replicate k c)).length=k:=by simp
 have hr:=run_copy_row (P:=Tryd.prog) w 58 58 ty 3 g bp (n - bp) dCap a sLen sCap cur 3 ((List.replicate k c)) Tryd.underlying58 (by rw [hi0]; simp [hz1]) hg (by rw [hl]; exact hk) hsrc (by rw [hl]; omega) (fun u hu=>by rw [(List.mem_replicate.1 hu).2]; exact hc1)
 rw [hl] at hr
 refine ⟨_,hr,?_⟩
 rw [setRow_put w g cur _ _ _ hg]
 refine Sp.ex _ (Sp.ex ⟨?_,?_,?_⟩ (H.put _))
 ·simp [hl]; omega
 ·omega
 ·show List.take (bp+k) (cur.toList.take bp++(List.replicate k c)++cur.toList.drop (bp+k))=_
  have e1:(cur.toList.take bp++(List.replicate k c)).length=bp+k:=by
   rw [List.length_append,hl,List.length_take]
   simp only [Array.length_toList]
   omega
  rw [List.take_append_of_le_length (by omega),List.take_of_length_le (by omega),h3,← List.replicate_append_replicate]
set_option maxRecDepth 100000 in
set_option maxHeartbeats 1000000 in
theorem repeatI_ok (A:Option Addr) (ca:Nat) (c:Value) (n:Nat) {w0 w:World} {L:List Pr} (H:Sp w0 L w) (hb:Ent L (fun w=>Rd w A [c])) (hc1:c.oneCell'=true) (hn1:1≤n) (hn:n≤4096) :
  Calls Tryd.prog 137 #[.slice A 1 ca,.int .i64 (n:Int)] w fun e w'=>∃ g,e=.returned (.slice (some ⟨g,0,none⟩) n n)∧Sp w0 (Row 3 1 (.slice (some ⟨g,0,none⟩) n n) n (List.replicate n c)::L) w':=by
 obtain ⟨i0,hi0,hz0,hz1,hz2⟩:=info_parts infoJ
 obtain ⟨ad,rfl⟩:∃ ad,A=some ad:=by
  obtain ⟨ad,e,_⟩:=(hb _ _ H) (by simp)
  exact ⟨ad,e⟩
 have HB:=Lib.hid hb
 have k3:¬ (n:Int)<0:=by omega
 have k2:¬ (9223372036854775807:Int)<(n:Int):=by omega
 clear hb
 go_enter Tryd.func137,Tryd.ntmps137
 go_wp2_with fail
 refine (mul_one_ok n (by omega) _).mono ?_
 rintro _ _ ⟨rfl,rfl⟩
 go_wp2_with (at_make; refine wpList_make_sp rfl _ _ _ rfl 3 i0 (.int .i64 0) Tryd.underlying58 hi0 hz0 hz1 rfl n rfl rfl (by rw [hz2]; omega) (by unfold maxLen; omega) H ?_)
 intro a1 w1 H1
 obtain ⟨g,rfl,H2⟩:=RI.of_row (c:=c) H1
 have hsrc:∀ j u,(List.replicate 1 c)[j]?=some u→w1.cell? (ad.add j)=some u:=by
  obtain ⟨ad2,e2,hc⟩:=(HB.out _ _ H2.tail) (by simp)
  injection e2 with e2
  rw [e2]
  exact hc
 obtain ⟨w2,hr1,H3⟩:=RI.copy H2 ad 1 ca n 3 (k:=1) (by omega) hc1 hsrc
 rw [Nat.sub_zero] at hr1
 rw [Nat.zero_add] at H3
 clear H1 H2 hsrc
 go_wp2_with (at_builtin; refine Lib.wpList_copy_run _ rfl _ _ 58 58 rfl _ _ rfl rfl hr1 ?_)
 clear hr1
 go_wp2_with fail
 go_loopw [8] (fun bv wr=>∃ bp:Nat,bv=.int .i64 (bp:Int)∧1≤bp∧bp≤n∧Sp w0 (RI g n c bp::L) wr) (fun bv _=>n - (intOf bv).toNat)
 case atStart=>exact ⟨1,rfl,Nat.le_refl _,hn1,H3⟩
 case round =>
  obtain ⟨bp,rfl,hb1,hbn,H4⟩:=hrel
  by_cases hlt:bp<n
  ·have k6:(bp:Int)<(n:Int):=by omega
   obtain ⟨k,hk⟩:∃ k,k=min bp (n - bp):=⟨_,rfl⟩
   obtain ⟨q,hq⟩:∃ q,bp+k=q:=⟨_,rfl⟩
   have y0:(bp:Int)+(k:Int)=(q:Int):=by omega
   have y1:¬ n=bp:=by omega
   have y2:bp≤n:=by omega
   have y3:¬ bp=0:=by omega
   have y4:q≤n:=by omega
   have HK:=Lib.hid hk
   have HQ:=Lib.hid hq
   have hkq:1≤k:=by omega
   clear hk hq
   go_wp2_with fail
   refine wp_region_sc (L:=L) [some (.int .i64 (bp:Int)),some (.slice (some ⟨g,0,none⟩) n n),some (.int .i64 (bp:Int)),some (.slice (some ⟨g,bp,none⟩) (n - bp) (n - bp)),some (.slice (some ⟨g,0,none⟩) n n),some (.int .i64 (bp:Int)),some (.slice (some ⟨g,0,none⟩) bp n),some (.int .i64 (k:Int)),some (.int .i64 (q:Int)),some (.int .i64 (q:Int))] (fun _ _=>True) (fun ix vx=>match ix with | 7=>(fun _=>[RI g n c (bp+k)]) vx | _=>[]) (fun ix=>match ix with | 7=>[RI g n c bp] | _=>[]) 10 48
    [some 38,some 39,some 40,some 41,some 42,some 43,some 44,some 45,some 46,some 8]
    [[],[],[],[1,2],[],[],[4,5],[3,6],[0,7],[8,7,0,1,2,3,4,5,6,7,8]]
    [[],[],[],[1,2],[],[],[4,5],[1,2,3,4,5,6],[0,1,2,3,4,5,6,7],[0,1,2,3,4,5,6,7,8]]
    [[],[],[],[],[],[],[],[],[],[]] [[],[],[],[],[],[],[],[],[],[]] [(7,.slice (some ⟨g,0,none⟩) n n),(8,.int .i64 (bp:Int))]
    (by kernel_rfl) rfl (by decide) (by rfl) (by decide +kernel) rfl rfl (by simp) (H4) ?hstep ?hend
   case hstep =>
    refine ⟨?p0,⟨?p1,⟨?p2,⟨?p3,⟨?p4,⟨?p5,⟨?p6,⟨?p7,⟨?p8,⟨?p9,trivial⟩⟩⟩⟩⟩⟩⟩⟩⟩⟩
    case p0 | p1 | p2 | p3 | p4 | p5 | p6 | p8 | p9 =>
     intro x wx A rest hDf hF hS hE H K hK
     replace hK:=Lib.hid hK
     clear hS hE hDf
     repeat (obtain ⟨_,hF⟩:=hF)
     change Oper.wp _ _ A wx K _
     go_step
     exact hK.out _ _ rfl H
    case p7 =>
     intro x wx A rest hDf hF hS hE H K hK0
     replace hDf:=Lib.hid hDf
     have e41:A.tmps[41]?.getD undef=.slice (some ⟨g,bp,none⟩) (n - bp) (n - bp):=((hS 3 (by decide)).2 41 rfl).trans (hS 3 (by decide)).1
     have e44:A.tmps[44]?.getD undef=.slice (some ⟨g,0,none⟩) bp n:=((hS 6 (by decide)).2 44 rfl).trans (hS 6 (by decide)).1
     replace H:Sp w0 ((RI g n c bp)::rest) wx:=H
     have hK:Hid (∀ (v:Value) (w' : World),v=.int .i64 (k:Int)→Sp w0 ((RI g n c (bp+k))::rest) w'→K (A.put (some 45) v) w'):=Lib.hid hK0
     clear hK0 hF hS hE
     have hrd:=RI.rd H
     have hsrc:∀ j u,(List.replicate k c)[j]?=some u→wx.cell? ((⟨g,0,none⟩:Addr).add j)=some u:=fun j u hu=>by
      obtain ⟨ad2,e2,hc⟩:=hrd (by intro h0; have:=congrArg List.length h0; simp at this; omega)
      injection e2 with e2
      subst e2
      refine hc j u ?_
      have hj:j<k:=by
       have:=(List.getElem?_eq_some_iff.1 hu).1
       simpa using this
      have:=HK.out
      simp only [List.getElem?_replicate] at hu ⊢
      rw [if_pos hj] at hu
      rw [if_pos (by omega)]
      exact hu
     obtain ⟨w9,hr9,H9⟩:=RI.copy H ⟨g,0,none⟩ bp n (n - bp) 3 HK.out hc1 hsrc
     change Oper.wp _ _ A wx K _
     exact Lib.wp_copy_run wx _ _ 58 58 rfl _ _ (ev e41) (ev e44) hr9 (hK.out _ _ rfl H9)
   case hend =>
    intro x wx A hA hS H
    replace H:Sp w0 ((RI g n c (bp+k))::L) wx:=H
    have y9:x 9=.int .i64 (q:Int):=hS 9 (by decide)
    clear hS
    simp only [putAll,Act.put,List.setIfInBounds_toArray,List.set_cons_succ,List.set_cons_zero,Nat.reduceAdd] at hA
    subst hA
    rw [y9]
    clear y9
    go_wp2
    go_roundw
    case rel=>exact ⟨q,rfl,by have:=HQ.out; omega,y4,by rw [← HQ.out]; exact H⟩
    case measure =>
     have:=HQ.out
     first | (simp [intOf]; omega) | simp [intOf]
  ·have k6:¬ (bp:Int)<(n:Int):=by omega
   obtain rfl:bp=n:=by omega
   go_wp2_with fail
   go_ret
   exact ⟨g,rfl,RI.row H4 (by unfold maxLen; omega)⟩
end Go.Proofs.YtloijdbkikccgaaDoor

