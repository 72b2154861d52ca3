/- A pack of texts: DefL DefN DefRows InfA InfE RepI InfT OpenRows InfOpen InfG InfLen InfZ InfK InfM InfN InfTells InfEnd DefTells DefSgP. -/
import Derived.ChangeSame
import Derived.Deep.CutRange
import Derived.Deep.Fields
import Derived.Deep.Slices
import Derived.Defers
import Derived.Laws.BitsAllLaws
import Derived.OpenShut
import Derived.OwnWalk
import Derived.ProofKit
import Derived.Recover
import Derived.WalkLawsBesides
import Derived.Test.YtloijdbkikccgaaDoorPk01
import Derived.Test.YtloijdbkikccgaaDoorPk02
import Derived.Test.YtloijdbkikccgaaDoorPk03
import Derived.Test.YtloijdbkikccgaaDoorPk08
import Derived.Test.YtloijdbkikccgaaDoorPk09
import Derived.Test.YtloijdbkikccgaaDoorPk10
import Derived.Test.YtloijdbkikccgaaDoorPk11
import Derived.Test.YtloijdbkikccgaaDoorPk13
import Derived.Test.YtloijdbkikccgaaDoorPk14
import Derived.Test.YtloijdbkikccgaaDoorPk20
import Derived.Test.YtloijdbkikccgaaDoorPk22
import Derived.Test.YtloijdbkikccgaaDoorPk24
import Derived.Test.YtloijdbkikccgaaDoorPk25
namespace Go.Proofs.YtloijdbkikccgaaDoor
set_option linter.unusedVariables false
set_option linter.unusedSimpArgs false
open Go.RowKit
def subZ (A:Option Addr) (c q z:Nat):Option Addr:=if c=q then A else A.map (·.add (q * z))
theorem StAt.take {w:World} {V:Option Addr} {Y:List PM.St} (h:StAt w V Y) (k:Nat):StAt w V (Y.take k):=fun i hi=>by
 rw [List.length_take] at hi
 obtain⟨ad,e,h0,h1,h2⟩:=h i (by omega)
 refine⟨ad,e,?_,?_,?_⟩
 ·rw [List.getElem_take]; exact h0
 ·rw [List.getElem_take]; exact h1
 ·rw [List.getElem_take]; exact h2
theorem StAt.drop {w:World} {V:Option Addr} {Y:List PM.St} (h:StAt w V Y) (c k:Nat) (hc:Y.length<=c):StAt w (subZ V c k 3) (Y.drop k):=fun i hi=>by
 rw [List.length_drop] at hi
 obtain⟨ad,rfl,h0,h1,h2⟩:=h (k+i) (by omega)
 unfold subZ
 rw [if_neg (by omega)]
 refine⟨ad.add (k * 3),rfl,?_,?_,?_⟩
 ·rw [List.getElem_drop,Go.Addr.add_add,show k * 3+i * 3=(k+i) * 3 by omega]; exact h0
 ·rw [List.getElem_drop,Go.Addr.add_add,show k * 3+i * 3=(k+i) * 3 by omega]; exact h1
 ·rw [List.getElem_drop,Go.Addr.add_add,show k * 3+i * 3=(k+i) * 3 by omega]; exact h2
theorem Byt.dropZ {w:World} {A:Option Addr} {n c:Nat} {l:List UInt8} (h:Byt w (.slice A n c) l) (k:Nat) (hk:k<=n):Byt w (.slice (subZ A c k 1) (n - k) (c - k)) (l.drop k):=by
 unfold subZ
 by_cases e:c=k
 ·rw [if_pos e]; exact h.drop0 k hk e
 ·rw [if_neg e]
  have h2:=h.drop k hk
  rw [Nat.mul_one]; exact h2
def ptrB:Value->Nat
 | .pointer (some a)=>a.block
 | _=>0
theorem Blo.open2 {w0 w:World} {X:Pr} {L:List Pr} {g:Nat} {sv:Value} {BA:Option Addr} {bc:Nat} {p:BP} (H:Sp w0 (X::Blo g sv BA bc p::L) w) (hby:Ent L fun w=>Byt w (.slice BA p.b.length bc) p.b):∃dv L2,Sp w0 (X::(L2++L)) w/\Ent (L2++L) (DBr g dv p)/\∀φ,Ent L φ->Ent (L2++L) φ:=by
 obtain⟨dv,H⟩:=(H.pick 2 [1,0]).unex
 have h5:=H.unstar
 have h4:=(h5.pick 3 [1,0,2]).unstar
 have h3:=(h4.pick 4 [1,0,2,3]).unstar
 have h2:=(h3.pick 5 [1,0,2,3,4]).unstar
 have h1:=(h2.pick 6 [1,0,2,3,4,5]).unstar
 exact⟨{ dv with b:=BA,bc:=bc },[_,_,_,_,_,_],h1.pick 7 [6,5,4,3,2,0,1],fun w0 w h=>⟨h.cell 0 rfl 1,h.cell 0 rfl 2,h.cell 0 rfl 3,h.cell 0 rfl 4,h.cell 0 rfl 5,h.cell 0 rfl 6,h.cell 0 rfl 7,hby _ _ (h.pick 6 []),rowRd h 1 rfl,rowRd h 2 rfl,rowRd h 3 rfl,rowRd h 4 rfl,rowRd h 5 rfl⟩,fun φ hφ w0 w h=>hφ _ _ (h.pick 6 [])⟩
theorem Blo.rest {w0 w:World} {X:Pr} {L L2:List Pr} (H:Sp w0 (X::(L2++L)) w):Sp w0 (X::L) w:=by
 have h:=H.pick (1+L2.length) [0] ⟨by simp,by intro i hi; simp at hi; omega⟩
 have e:(X::(L2++L)).drop (1+L2.length)=L:=by
  rw [show 1+L2.length=L2.length+1 by omega,List.drop_succ_cons,List.drop_left]
 rw [e] at h
 exact h
namespace PD
theorem layD0_len (Y:List PM.St) (b:List UInt8) (last:Bool) (a:Nat):(layD 0 Y b last a).length=3+pad (a+3)+32+8 * b.length:=by
 unfold layD bodyD PI.storedW
 rw [if_pos rfl]
 simp only [List.length_append,PBits.bitsOf_length,List.length_singleton,List.length_replicate,PBits.ofB_length]
 omega
theorem layD1_len (Y:List PM.St) (b:List UInt8) (last:Bool) (a:Nat):(layD 1 Y b last a).length=fixN Y:=by
 unfold layD bodyD fixN
 rw [if_neg (by decide),if_pos rfl]
 simp only [List.length_append,PBits.bitsOf_length,List.length_singleton]
theorem layD2_len (Y:List PM.St) (b:List UInt8) (last:Bool) (a:Nat):(layD 2 Y b last a).length=dynN Y:=by
 unfold layD bodyD dynN
 rw [if_neg (by decide),if_neg (by decide)]
 simp only [List.length_append,PBits.bitsOf_length,List.length_singleton]
theorem partD_le (Y:List PM.St) (b:List UInt8) (last:Bool) (a:Nat):(partD Y b last a).length<=fixN Y/\(partD Y b last a).length<=dynN Y/\(b.length<=65535->(partD Y b last a).length<=3+pad (a+3)+32+8 * b.length):=by
 unfold partD
 have hk:kind Y b a=pick (sto b.length a) (fixN Y) (dynN Y):=rfl
 have h0:=fun h=>kind_sto (Y:=Y) (b:=b) (a:=a) h
 have l0:=layD0_len Y b last a
 have l1:=layD1_len Y b last a
 have l2:=layD2_len Y b last a
 generalize fixN Y=f at *
 generalize dynN Y=d at *
 have hs:∀h:b.length<=65535,sto b.length a=((3+pad (a+3)+32+8 * b.length:Nat):Int):=fun h=>by unfold sto; rw [if_pos h]
 have hn:¬ b.length<=65535->sto b.length a = -1:=fun h=>by unfold sto; rw [if_neg h]
 generalize sto b.length a=s at *
 generalize 3+pad (a+3)+32+8 * b.length=q at *
 unfold pick at hk
 by_cases hb:b.length<=65535
 ·have hs:=hs hb
  rw [if_pos (by omega)] at hk
  split at hk
  ·split at hk
   ·rw [hk,l2]; omega
   ·rw [hk,l1]; omega
  ·split at hk
   ·rw [hk,l2]; omega
   ·rw [hk,l0]; omega
 ·have hn:=hn hb
  rw [if_neg (by omega)] at hk
  split at hk
  ·rw [hk,l2]; omega
  ·rw [hk,l1]; omega
theorem fixN_le (Y:List PM.St) (n:Nat) (hY:PM.mays Y n):fixN Y<=3+28 * (2 * Y.length+1):=by
 unfold fixN fixW
 have hX:=words_ok (A:=PI.fixedL) (B:=PI.fixedD) hY (fun s _ hs=>PI.fixed_has s (by omega)) (fun s _ hs=>PI.fixed_hasD s (by omega))
 have h:=layW_le fl15 fd15 (words Y) hX
 rw [lay_words] at h
 have:=words_len Y
 omega
theorem partY_len (Y:List PM.St) (i:Nat):(partY Y i).length<=512:=by unfold partY; rw [List.length_take]; omega
theorem partY_mays (Y:List PM.St) (hY:PM.mays Y 0) (i:Nat):PM.mays (partY Y i) (atB Y i):=by
 have h1:PM.mays (Y.take (512 * i)++(partY Y i++Y.drop (512 * (i+1)))) 0:=by
  rw [<- List.append_assoc,<- take_parts,List.take_append_drop]; exact hY
 have h2:=((mays_app _ _ _).1 ((mays_app _ _ _).1 h1).2).1
 rw [Nat.zero_add] at h2
 exact h2
theorem stD_le (Y:List PM.St) (b:List UInt8) (hY:PM.mays Y 0) (i:Nat):(stD Y b i).length<=28703 * i:=by
 induction i with
 | zero=>exact Nat.le_refl _
 | succ i ih =>
  rw [stD,List.length_append]
  have h1:=(partD_le (partY Y i) (partB Y b i) (decide (Y.length<=512 * (i+1))) (stD Y b i).length).1
  have h2:=fixN_le _ _ (partY_mays Y hY i)
  have h3:=partY_len Y i
  omega
end PD
theorem stI_size (X:List PM.St) (h:∀s ∈ X,PD.StOk s):∀s ∈ X.map toI,s.1<=1000000:=by
 intro s hs
 obtain⟨t,ht,rfl⟩:=List.mem_map.1 hs
 rcases h t ht with h | h
 ·show(t.1:Int)<=_; omega
 ·show(t.1:Int)<=_; omega
set_option maxRecDepth 100000 in
set_option maxHeartbeats 8000000 in
theorem dstream_ok (V0 BA0:Option Addr) (n0 c0 bn0 bc0:Nat) (Y:List PM.St) (b:List UInt8) {TL TF:Option Addr} {cl cf:Nat} {w0 w:World} {L:List Pr} (H:Sp w0 L w) (hT:Ent L (DTabs TL TF cl cf)) (hn:n0=Y.length) (hnm:n0<=100000) (hc:n0<=c0) (hcm:c0<=maxLen) (h:Ent L fun w=>StAt w V0 Y) (hY:PM.mays Y 0)
  (hb:PM.expand Y []=b) (hbn:bn0=b.length) (hbm:bn0<=10000000) (hbc:bn0<=bc0) (hbcm:bc0<=maxLen) (hby:Ent L fun w=>Byt w (.slice BA0 bn0 bc0) b) :
  Calls Tryd.prog 30 #[.slice V0 n0 c0,.slice BA0 bn0 bc0] w (Ret fun v w'=>Sp w0 (Row 5 1 v (PD.stream Y b).length (cells8 (PD.stream Y b))::L) w'):=by
 have HT:=Lib.hid hT
 have HN:=Lib.hid hn
 have HST0:=Lib.hid h
 have HYM:=Lib.hid hY
 have HB:=Lib.hid hb
 have HBN:=Lib.hid hbn
 have HBY0:=Lib.hid hby
 have hcm9:c0<=9223372036854775807:=hcm
 have hbcm9:bc0<=9223372036854775807:=hbcm
 clear hT hn h hY hb hbn hby hcm hbcm
 go_enter Tryd.func30,Tryd.ntmps30
 go_wp2_with fail
 refine(wb_new H).mono ?_
 rintro _ w1 ⟨_,rfl,gw,rfl,H1⟩
 clear H
 go_wp2_with fail
 go_loopw [0,1] (fun lv bv wr=>∃(i:Nat) (V BA:Option Addr) (n c bn bc:Nat),lv=.slice V n c/\bv=.slice BA bn bc/\i<PD.many Y/\n=Y.length - 512 * i/\n<=c/\c<=c0/\(Ent L fun w=>StAt w V (Y.drop (512 * i)))/\bn=b.length - PD.atB Y i/\bn<=bc/\bc<=bc0/\(Ent L fun w=>Byt w (.slice BA bn bc) (b.drop (PD.atB Y i)))/\Sp w0 (WB gw (PD.stD Y b i)::L) wr) (fun lv _ _=>match lv with | .slice _ n _=>n | _=>0)
 case atStart =>
  refine⟨0,V0,BA0,n0,c0,bn0,bc0,rfl,rfl,by unfold PD.many; omega,by rw [HN.out]; rfl,hc,Nat.le_refl _,HST0.out,?_,hbc,Nat.le_refl _,?_,H1⟩
  ·show bn0=b.length - 0; rw [HBN.out]; rfl
  ·exact HBY0.out
 case round =>
  obtain⟨i,V,BA,n,c,bn,bc,rfl,rfl,him,hnY,hnc,hcc,hst,hbnY,hbb,hbcc,hby,H2⟩:=hrel
  clear H1
  obtain⟨m,hm⟩:∃m,min n 512=m:=⟨_,rfl⟩
  obtain⟨PY,hPY⟩:∃P,PD.partY Y i=P:=⟨_,rfl⟩
  obtain⟨PB,hPB⟩:∃P,PD.partB Y b i=P:=⟨_,rfl⟩
  obtain⟨z,hz⟩:∃z,PM.size PY=z:=⟨_,rfl⟩
  obtain⟨lb,hlb⟩:∃l,decide (Y.length<=512 * (i+1))=l:=⟨_,rfl⟩
  obtain⟨B1,hB1⟩:∃B,PD.stD Y b i=B:=⟨_,rfl⟩
  have hB1l:B1.length<=800000000:=by
   have h1:=PD.stD_le Y b HYM.out i
   have h2:i<=1000:=by unfold PD.many at him; have:=HN.out; omega
   rw [hB1] at h1; omega
  have hPYl:m=PY.length:=by rw [<- hPY,<- hm]; unfold PD.partY; rw [List.length_take,List.length_drop]; omega
  have hend:=PD.atB_le Y (i+1)
  have hbl:b.length=PM.size Y:=by rw [<- HB.out,PM.expand_length,List.length_nil,Nat.zero_add]
  rw [PD.atB_succ,hPY,hz] at hend
  have hzb:z<=bn:=by omega
  have hPBl:z=PB.length:=by rw [<- hPB]; unfold PD.partB; rw [hPY,hz,List.length_take,List.length_drop]; omega
  have hmy:=PD.partY_mays Y HYM.out i
  rw [hPY] at hmy
  have hso:=PD.mays_ok PY _ hmy
  have hstp:Ent L fun w=>StAt w V PY:=fun w0 w h=>by
   rw [<- hPY]; exact(hst w0 w h).take 512
  have hbz:Ent L fun w=>Byt w (.slice BA PB.length bc) PB:=fun w0 w h=>by
   have h9:=(hby w0 w h).take z (by rw [List.length_drop]; omega)
   rw [<- hPBl,<- hPB]
   unfold PD.partB
   rw [hPY,hz]
   exact h9
  have hbo:=bp_ok PY PB lb _ hmy (by omega) (by have:=HBN.out; rw [<- hPBl]; omega)
  have hstd:PD.stD Y b (i+1)=B1++PD.partD PY PB lb B1.length:=by rw [PD.stD,hPY,hPB,hlb,hB1]
  have kl0:decide (m=n)=lb:=by
   rw [<- hlb,decide_eq_decide]
   unfold PD.many at him
   omega
  have kl1:decide ((m:Int)=(n:Int))=lb:=by rw [<- kl0,decide_eq_decide]; omega
  have kl2:((m:Int) == (n:Int))=lb:=by rw [<- kl1]; rfl
  have kl3:(m == n)=lb:=by rw [<- kl0]; rfl
  have HSZ:=Lib.hid (size_ok V m c (PY.map toI) H2 (by rw [List.length_map]; exact hPYl) (by omega) (stI_size PY hso) (fun w0 w h=>(hstp w0 w h.tail).toI))
  rw [sizeI_map,hz,hB1] at HSZ
  have y1:min (n:Int) 512=(m:Int):=by omega
  have y2:(m:Int)<=(c:Int):=by omega
  have y3:(z:Int)<=(bc:Int):=by omega
  have HPY:=Lib.hid hPYl
  have HPB:=Lib.hid hPBl
  have HST:=Lib.hid hstp
  have HBZ:=Lib.hid hbz
  have HSO:=Lib.hid hso
  have HBO:=Lib.hid hbo
  have HSTD:=Lib.hid hstd
  have HDST:=Lib.hid hst
  have HDBY:=Lib.hid hby
  have HM:=Lib.hid hm
  have HLB:=Lib.hid hlb
  have HZ0:=Lib.hid hz
  have HPYE:=Lib.hid hPY
  clear hst hby hPY hPB hB1 hmy hso hstp hbz hbo hstd hm hz hlb H2 hPYl hPBl
  have hm512:m<=512/\m<=n:=by have:=HM.out; omega
  have hn9:n<=100000/\z<=10000000/\bn<=10000000:=by have:=HN.out; have:=HBN.out; omega
  obtain⟨hn9,hz9,hbn9⟩:=hn9
  have HNY:=Lib.hid hnY
  have HBNY:=Lib.hid hbnY
  have HBL:=Lib.hid hbl
  have HEND:=Lib.hid hend
  have HIM:=Lib.hid him
  clear hnY hbnY hbl hend him
  go_wp2_with fail
  refine HSZ.out.mono ?_
  rintro _ w2 ⟨rfl,H3⟩
  have HX3:=Lib.hid H3
  clear HSZ H3
  go_wp2_with fail
  refine wp_region_sc (L:=L) [some (.slice V n c),some (.int .i64 (m:Int)),some (.slice V m c),some (.slice BA bn bc),some (.int .i64 (z:Int)),some (.slice BA z bc),some (.int .i64 (m:Int)),some (.slice V n c),some (.int .i64 (n:Int)),some (.bool lb),none,some (.pointer (some ⟨gw,0,none⟩)),some (.tuple #[])] (fun ix vx=>match ix with | 10=>(fun vv=>vv=.pointer (some ⟨ptrB vv,0,none⟩)) vx | _=>True) (fun ix vx=>match ix with | 10=>(fun vv=>[Blo (ptrB vv) (.slice V m c) BA bc (BP.of PY PB lb)]) vx | 12=>(fun _=>[WB gw (B1++PD.partD PY PB lb B1.length)]) vx | _=>[]) (fun ix=>match ix with | 12=>[WB gw B1] | _=>[]) 13 40
   [some 16,some 17,some 18,some 19,some 20,some 21,some 22,some 23,some 24,some 25,some 26,some 27,some 28]
   [[],[],[0,1],[],[],[3,4],[],[],[7],[6,8],[2,5,9],[],[10,11,10]]
   [[],[],[0,1],[],[],[3,4],[],[],[7],[6,7,8],[0,1,2,3,4,5,6,7,8,9],[],[0,1,2,3,4,5,6,7,8,9,10,11]]
   [[],[],[],[],[],[],[],[],[],[],[],[],[10]] [[],[],[],[],[],[],[],[],[],[],[],[],[]] [(0,.slice V n c),(1,.slice BA bn bc),(5,.pointer (some ⟨gw,0,none⟩)),(6,.int .i64 (m:Int)),(7,.int .i64 (z:Int))]
   (by kernel_rfl) rfl (by decide) (by rfl) (by decide +kernel) rfl rfl (by simp) (HX3.out) ?hstep ?hend
  case hstep =>
   refine⟨?p0,⟨?p1,⟨?p2,⟨?p3,⟨?p4,⟨?p5,⟨?p6,⟨?p7,⟨?p8,⟨?p9,⟨?p10,⟨?p11,⟨?p12,trivial⟩⟩⟩⟩⟩⟩⟩⟩⟩⟩⟩⟩⟩
   case p0 | p1 | p2 | p3 | p4 | p5 | p6 | p7 | p8 | p9 | p11 =>
    intro x wx A rest hDf hF hS hE H K hK
    replace hK:=Lib.hid hK
    clear hS hE hDf
    repeat (obtain⟨_,hF⟩:=hF)
    change Oper.wp _ _ A wx K _
    go_step
    exact hK.out _ _ rfl H
   case p10 =>
    intro x wx A rest hDf hF hS hE H K hK0
    replace hDf:=Lib.hid hDf
    have e18:A.tmps[18]?.getD undef=.slice V m c:=((hS 2 (by decide)).2 18 rfl).trans (hS 2 (by decide)).1
    have e21:A.tmps[21]?.getD undef=.slice BA z bc:=((hS 5 (by decide)).2 21 rfl).trans (hS 5 (by decide)).1
    have e25:A.tmps[25]?.getD undef=.bool lb:=((hS 9 (by decide)).2 25 rfl).trans (hS 9 (by decide)).1
    replace H:Sp w0 (rest) wx:=H
    have hK:Hid (∀(v:Value) (w' : World),v=.pointer (some ⟨ptrB v,0,none⟩)->Sp w0 ((Blo (ptrB v) (.slice V m c) BA bc (BP.of PY PB lb))::rest) w'->K (A.put (some 26) v) w'):=Lib.hid hK0
    clear hK0 hF hS
    have hst:=Lib.hid (hE _ HST.out)
    have htb:=Lib.hid (hE _ HT.out)
    have HZ:=Lib.hid H
    clear hE H
    change Oper.wp _ _ A wx K _
    go_wp2_with fail
    refine(dmakes_ok V BA m c z bc PY PB lb HZ.out htb.out HPY.out (by omega) hst.out HSO.out HPB.out).mono ?_
    rintro _ w9 ⟨g9,rfl,H9⟩
    exact hK.out _ _ rfl H9
   case p12 =>
    intro x wx A rest hDf hF hS hE H K hK0
    replace hDf:=Lib.hid hDf
    have q26:(x 10)=.pointer (some ⟨ptrB (x 10),0,none⟩):=(hS 10 (by decide)).1
    have e26:A.tmps[26]?.getD undef=x 10:=(hS 10 (by decide)).2 26 rfl
    have e27:A.tmps[27]?.getD undef=.pointer (some ⟨gw,0,none⟩):=((hS 11 (by decide)).2 27 rfl).trans (hS 11 (by decide)).1
    replace H:Sp w0 ((WB gw B1)::(Blo (ptrB (x 10)) (.slice V m c) BA bc (BP.of PY PB lb))::rest) wx:=H
    have hK:Hid (∀(v:Value) (w' : World),v=.tuple #[]->Sp w0 ((WB gw (B1++PD.partD PY PB lb B1.length))::rest) w'->K (A.put (some 28) v) w'):=Lib.hid hK0
    clear hK0 hF hS
    obtain⟨g9,hg9⟩:∃q,ptrB (x 10)=q:=⟨_,rfl⟩
    rw [hg9] at q26 H
    rw [q26] at e26
    clear q26 hg9
    have hby:=Lib.hid (hE _ HBZ.out)
    have htb:=Lib.hid (hE _ HT.out)
    clear hE
    have HP:=H.pick 2 [1]
    obtain⟨dv,L2,H5,hE5,hL5⟩:=Blo.open2 H hby.out
    have HX5:=Lib.hid H5
    have hdb:=Lib.hid hE5
    have htt:=Lib.hid (hL5 _ htb.out)
    clear H H5 hE5 hL5 HP
    change Oper.wp _ _ A wx K _
    go_wp2_with fail
    refine(dput_ok g9 gw dv _ B1 HX5.out hdb.out htt.out HBO.out hB1l).mono ?_
    rintro _ w9 ⟨rfl,H9⟩
    rw [bp_kind,bp_lay] at H9
    exact hK.out _ _ rfl (Blo.rest H9)
  case hend =>
   intro x wx A hA hS H
   replace H:Sp w0 ((WB gw (B1++PD.partD PY PB lb B1.length))::L) wx:=H
   clear hS
   simp only [putAll,Act.put,List.setIfInBounds_toArray,List.set_cons_succ,List.set_cons_zero,Nat.reduceAdd] at hA
   subst hA
   have HQ:=Lib.hid H
   clear H HX3
   have hX9:Sp w0 (WB gw (PD.stD Y b (i+1))::L) wx:=by rw [HSTD.out]; exact HQ.out
   have HX9:=Lib.hid hX9
   clear hX9 HQ
   by_cases hcm:m=c
   ·subst hcm
    by_cases hbz:z=bc
    ·subst hbz
     have q1:(m:Int)<=(n:Int):=by omega
     have q2:(z:Int)<=(bn:Int):=by omega
     go_wp2_with fail
     go_quiet (fail)
     have HQ:=Lib.hid (HX9.out.drewN nq)
     clear HX9
     cases lb with
     | true =>
      have h0:n - m=0:=by have:=of_decide_eq_true kl0; omega
      have h1:(n:Int) - (m:Int)=0:=by omega
      have hq:i+1=PD.many Y:=by
       have h2:=of_decide_eq_true HLB.out
       have h3:=HIM.out
       unfold PD.many at h3 ⊢
       omega
      have h9:=HQ.out
      rw [hq] at h9
      have h4:PD.many Y<=1000:=by
       unfold PD.many; have:=HN.out; omega
      have h5:=PD.stD_le Y b HYM.out (PD.many Y)
      have HD:=Lib.hid (wb_done gw _ h9 (by omega))
      clear h4 h5
      clear HQ h9 hq
      try rw [h0]
      go_wp2_with fail
      refine HD.out.mono ?_
      rintro _ w5 ⟨v5,rfl,H5⟩
      go_wp2
      go_ret
      exact⟨_,rfl,H5.pick 2 [0]⟩
     | false =>
      exfalso
      have:=of_decide_eq_false kl0
      omega
    ·have hbz2:¬ (bc:Int)=(z:Int):=by omega
     have q1:(m:Int)<=(n:Int):=by omega
     have q2:(z:Int)<=(bn:Int):=by omega
     go_wp2_with fail
     go_quiet (fail)
     have HQ:=Lib.hid (HX9.out.drewN nq)
     clear HX9
     cases lb with
     | true =>
      have h0:n - m=0:=by have:=of_decide_eq_true kl0; omega
      have h1:(n:Int) - (m:Int)=0:=by omega
      have hq:i+1=PD.many Y:=by
       have h2:=of_decide_eq_true HLB.out
       have h3:=HIM.out
       unfold PD.many at h3 ⊢
       omega
      have h9:=HQ.out
      rw [hq] at h9
      have h4:PD.many Y<=1000:=by
       unfold PD.many; have:=HN.out; omega
      have h5:=PD.stD_le Y b HYM.out (PD.many Y)
      have HD:=Lib.hid (wb_done gw _ h9 (by omega))
      clear h4 h5
      clear HQ h9 hq
      try rw [h0]
      go_wp2_with fail
      refine HD.out.mono ?_
      rintro _ w5 ⟨v5,rfl,H5⟩
      go_wp2
      go_ret
      exact⟨_,rfl,H5.pick 2 [0]⟩
     | false =>
      exfalso
      have:=of_decide_eq_false kl0
      omega
   ·have hcm2:¬ (c:Int)=(m:Int):=by omega
    by_cases hbz:z=bc
    ·subst hbz
     have q1:(m:Int)<=(n:Int):=by omega
     have q2:(z:Int)<=(bn:Int):=by omega
     go_wp2_with fail
     go_quiet (fail)
     have HQ:=Lib.hid (HX9.out.drewN nq)
     clear HX9
     cases lb with
     | true =>
      have h0:n - m=0:=by have:=of_decide_eq_true kl0; omega
      have h1:(n:Int) - (m:Int)=0:=by omega
      have hq:i+1=PD.many Y:=by
       have h2:=of_decide_eq_true HLB.out
       have h3:=HIM.out
       unfold PD.many at h3 ⊢
       omega
      have h9:=HQ.out
      rw [hq] at h9
      have h4:PD.many Y<=1000:=by
       unfold PD.many; have:=HN.out; omega
      have h5:=PD.stD_le Y b HYM.out (PD.many Y)
      have HD:=Lib.hid (wb_done gw _ h9 (by omega))
      clear h4 h5
      clear HQ h9 hq
      try rw [h0]
      go_wp2_with fail
      refine HD.out.mono ?_
      rintro _ w5 ⟨v5,rfl,H5⟩
      go_wp2
      go_ret
      exact⟨_,rfl,H5.pick 2 [0]⟩
     | false =>
      have h0:m=512/\512<n:=by have:=of_decide_eq_false kl0; have:=HM.out; omega
      have h1:¬ (n:Int) - (m:Int)=0:=by omega
      have h2:¬ n - m=0:=by omega
      go_wp2_with fail
      go_roundw
      case rel =>
       have hny:=HNY.out
       have hbny:=HBNY.out
       have e1:512 * (i+1)=512 * i+m:=by omega
       have e2:PD.atB Y (i+1)=PD.atB Y i+z:=by rw [PD.atB_succ,HPYE.out,HZ0.out]
       refine⟨i+1,V.map (fun x=>x.add (m * 3)),BA,n - m,_,0,0,rfl,rfl,?_,by omega,by omega,by omega,fun w0 w h=>?_,by omega,by omega,by omega,fun w0 w h=>?_,HQ.out⟩
       ·have h3:=of_decide_eq_false HLB.out
        unfold PD.many; omega
       ·have h9:=(HDST.out w0 w h).drop c m (by rw [List.length_drop]; omega)
        rw [List.drop_drop,<- e1] at h9
        unfold subZ at h9
        rw [if_neg (fun h=>hcm h.symm)] at h9
        exact h9
       ·have h9:=(HDBY.out w0 w h).dropZ z hzb
        rw [List.drop_drop,<- e2] at h9
        unfold subZ at h9
        rw [if_pos rfl] at h9
        rw [show bn - z=0 by omega,Nat.sub_self] at h9; exact h9
      case measure=>first | (simp [intOf]; omega) | omega | simp [intOf]
    ·have hbz2:¬ (bc:Int)=(z:Int):=by omega
     have q1:(m:Int)<=(n:Int):=by omega
     have q2:(z:Int)<=(bn:Int):=by omega
     go_wp2_with fail
     go_quiet (fail)
     have HQ:=Lib.hid (HX9.out.drewN nq)
     clear HX9
     cases lb with
     | true =>
      have h0:n - m=0:=by have:=of_decide_eq_true kl0; omega
      have h1:(n:Int) - (m:Int)=0:=by omega
      have hq:i+1=PD.many Y:=by
       have h2:=of_decide_eq_true HLB.out
       have h3:=HIM.out
       unfold PD.many at h3 ⊢
       omega
      have h9:=HQ.out
      rw [hq] at h9
      have h4:PD.many Y<=1000:=by
       unfold PD.many; have:=HN.out; omega
      have h5:=PD.stD_le Y b HYM.out (PD.many Y)
      have HD:=Lib.hid (wb_done gw _ h9 (by omega))
      clear h4 h5
      clear HQ h9 hq
      try rw [h0]
      go_wp2_with fail
      refine HD.out.mono ?_
      rintro _ w5 ⟨v5,rfl,H5⟩
      go_wp2
      go_ret
      exact⟨_,rfl,H5.pick 2 [0]⟩
     | false =>
      have h0:m=512/\512<n:=by have:=of_decide_eq_false kl0; have:=HM.out; omega
      have h1:¬ (n:Int) - (m:Int)=0:=by omega
      have h2:¬ n - m=0:=by omega
      go_wp2_with fail
      go_roundw
      case rel =>
       have hny:=HNY.out
       have hbny:=HBNY.out
       have e1:512 * (i+1)=512 * i+m:=by omega
       have e2:PD.atB Y (i+1)=PD.atB Y i+z:=by rw [PD.atB_succ,HPYE.out,HZ0.out]
       refine⟨i+1,V.map (fun x=>x.add (m * 3)),BA.map (fun x=>x.add z),n - m,_,bn - z,_,rfl,rfl,?_,by omega,by omega,by omega,fun w0 w h=>?_,by omega,by omega,by omega,fun w0 w h=>?_,HQ.out⟩
       ·have h3:=of_decide_eq_false HLB.out
        unfold PD.many; omega
       ·have h9:=(HDST.out w0 w h).drop c m (by rw [List.length_drop]; omega)
        rw [List.drop_drop,<- e1] at h9
        unfold subZ at h9
        rw [if_neg (fun h=>hcm h.symm)] at h9
        exact h9
       ·have h9:=(HDBY.out w0 w h).dropZ z hzb
        rw [List.drop_drop,<- e2] at h9
        unfold subZ at h9
        rw [if_neg (fun h=>hbz h.symm)] at h9
        first | exact h9 | simpa using h9
      case measure=>first | (simp [intOf]; omega) | omega | simp [intOf]
namespace PD
def defl (b:List UInt8):List UInt8:=stream (PM.Cut b 64) b
theorem defl_mays (b:List UInt8):PM.mays (PM.Cut b 64) 0:=PM.cut_mays b 64 0
theorem defl_exp (b:List UInt8):PM.expand (PM.Cut b 64) []=b:=PM.cut_back0 b 64
end PD
set_option maxRecDepth 100000 in
set_option maxHeartbeats 2000000 in
theorem dall_ok (BA:Option Addr) (n c:Nat) (b:List UInt8) {TL TF:Option Addr} {cl cf:Nat} {w0 w:World} {L:List Pr} (H:Sp w0 L w) (hT:Ent L (DTabs TL TF cl cf)) (hn:n=b.length) (hnm:n<=100000) (hc:n<=c) (hcm:c<=maxLen) (hb:Ent L fun w=>Byt w (.slice BA n c) b) :
  Calls Tryd.prog 11 #[.slice BA n c] w fun e w'=>∃v,e=.returned (.tuple #[v,.int .i64 0])/\Sp w0 (Row 5 1 v (PD.defl b).length (cells8 (PD.defl b))::L) w':=by
 have HT:=Lib.hid hT
 have HN:=Lib.hid hn
 have HB:=Lib.hid hb
 have k1:¬ (n:Int) > 16777216:=by omega
 have hcut:=Cut_ok n 64 BA c b H hn hb (by omega)
 have e64:cutL b 64=PM.Cut b 64:=by unfold cutL; rw [if_pos ⟨by decide,by decide⟩]; rfl
 rw [e64] at hcut
 have e65:cutE 64=0:=rfl
 rw [e65] at hcut
 have hmy:=PD.defl_mays b
 have hxp:=PD.defl_exp b
 have hle:(PM.Cut b 64).length<=b.length:=PM.cut_length b 64 0
 unfold PD.defl
 obtain⟨Y,hY⟩:∃Y,PM.Cut b 64=Y:=⟨_,rfl⟩
 rw [hY] at hcut hmy hxp hle ⊢
 obtain⟨y,hy⟩:∃y,Y.length=y:=⟨_,rfl⟩
 rw [hy] at hcut hle
 have hy1:y<=100000:=by omega
 have HC:=Lib.hid hcut
 have HM:=Lib.hid hmy
 have HX:=Lib.hid hxp
 have HY:=Lib.hid hy
 clear hT hn hb hcut e64 e65 hmy hxp hY hy hle H
 go_enter Tryd.func11,Tryd.ntmps11
 go_wp2_with fail
 refine HC.out.mono ?_
 rintro _ w1 ⟨v1,rfl,H1⟩
 obtain⟨V,vc,rfl,hv1,hv2⟩:=Row.form H1 0 rfl
 have HS:=Lib.hid (dstream_ok V BA y vc n c Y b H1 (fun w0 w h=>HT.out w0 w h.tail) HY.out.symm hy1 hv1 hv2 (fun w0 w h=>h.stAt 0 rfl) HM.out HX.out HN.out (by omega) hc hcm (fun w0 w h=>HB.out w0 w h.tail))
 clear HC H1
 go_wp2_with fail
 refine HS.out.mono ?_
 rintro _ w2 ⟨v2,rfl,H2⟩
 have H3:=H2.pick 2 [0]
 clear HS H2
 go_wp2
 go_ret2
 exact⟨v2,rfl,H3⟩
namespace PD
set_option maxRecDepth 100000 in
theorem row_nil:stream (PM.Cut [] 64) []=[3,0]:=by decide +kernel
set_option maxRecDepth 100000 in
theorem row_a:stream (PM.Cut [97] 64) [97]=[75,4,0]:=by decide +kernel
end PD
def pan (e:Nat):List PanicEntry:=[{ v:=.iface 33 (.int .i64 (e:Int)),recovered:=false }]
def XpB (gx gr:Nat) (vo:Value) (most:Nat) (vb:Value):Pr:=Bk gx 95 [.pointer (some ⟨gr,0,none⟩),vo,.int .i64 (most:Int),vb]
namespace PI
end PI
structure Tabs (TL TA:Option Addr) (cl ca:Nat) (w:World):Prop where
 long:w.cell? ⟨5,0,none⟩=some (.slice TL 28 cl)
 longs:Rd w TL (cellsP PI.lengthsT)
 far:w.cell? ⟨3,0,none⟩=some (.slice TA 30 ca)
 fars:Rd w TA (cellsP PI.awayT)
 order:∀i,i<19->w.cell? ⟨4,i,none⟩=some (.int .i64 (PI.orderT.getD i 0:Nat))
theorem Tabs.heap {TL TA:Option Addr} {cl ca:Nat} {W w:World} (h:Tabs TL TA cl ca W) (hs:∀b,b<W.heap.size->w.heap[b]?=W.heap[b]?):Tabs TL TA cl ca w:=by
 have hc:∀(p:Addr) u,W.cell? p=some u->w.cell? p=some u:=fun p u hp=>by
  rw [<- hp]; exact World.cell?_of_block (hs p.block (cell_lt hp))
 exact⟨hc _ _ h.long,h.longs.keep fun p u _ hp=>by rw [hp]; exact hc _ _ hp,hc _ _ h.far,h.fars.keep fun p u _ hp=>by rw [hp]; exact hc _ _ hp,fun i hi=>hc _ _ (h.order i hi)⟩
def RI (g n:Nat) (c:Value) (bp:Nat):Pr:=Ex fun cur:Array Value=>Ex fun(_:cur.size=n/\bp<=n/\cur.toList.take bp=List.replicate bp c)=>Is g (.cells cur 3 (0,0))
theorem RI.rd {w0 w:World} {L:List Pr} {g n bp:Nat} {c:Value} (H:Sp w0 (RI g n c bp::L) w):Rd w (some ⟨g,0,none⟩) ((List.replicate bp c)):=by
 obtain⟨cur,H⟩:=H.unex
 obtain⟨⟨h1,h2,h3⟩,H⟩:=H.unex
 have hh:=H.is_ 0 rfl
 refine fun _=>⟨_,rfl,fun j u hu=>?_⟩
 have e1:(Addr.add ⟨g,0,none⟩ j)=⟨g,j,none⟩:=by
  unfold Addr.add; split
  ·rename_i h0; subst h0; rfl
  ·simp
 rw [e1]
 have hj:j<bp:=by
  have:=(List.getElem?_eq_some_iff.1 hu).1
  simpa using this
 rw [<- h3,List.getElem?_take_of_lt hj] at hu
 simp [World.cell?,hh]
 simpa using hu
theorem RI.row {w0 w:World} {L:List Pr} {g n:Nat} {c:Value} (H:Sp w0 (RI g n c n::L) w) (hn:n<=maxLen):Sp w0 (Row 3 1 (.slice (some ⟨g,0,none⟩) n n) n (List.replicate n c)::L) w:=by
 obtain⟨cur,H⟩:=H.unex
 obtain⟨⟨h1,h2,h3⟩,H⟩:=H.unex
 exact H.imp fun p hp=>⟨by simp,.inr ⟨g,n,cur,rfl,hp,Nat.le_refl _,hn,by rw [h1,Nat.mul_one],by rw [Nat.mul_one,h3]⟩⟩
theorem RI.copy {w0 w:World} {L:List Pr} {g n bp k:Nat} {c:Value} (H:Sp w0 (RI g n c bp::L) w) (a:Addr) (sLen sCap dCap:Nat) (ty:TypeId) (hk:k=min sLen (n - bp)) (hc1:c.oneCell'=true)
  (hsrc:∀j u,((List.replicate k c))[j]?=some u->w.cell? (a.add j)=some u) :
  ∃w',(Builtin.copy_ #[58,58] ty #[.slice (some ⟨g,bp,none⟩) (n - bp) dCap,.slice (some a) sLen sCap]).run Tryd.prog w=.ok (.int .i64 (k:Int)) w'/\Sp w0 (RI g n c (bp+k)::L) w':=by
 obtain⟨i0,hi0,hz0,hz1,hz2⟩:=info_parts infoJ
 obtain⟨cur,H⟩:=H.unex
 obtain⟨⟨h1,h2,h3⟩,H⟩:=H.unex
 have hg:=H.is_ 0 rfl
 have hl:((List.replicate k c)).length=k:=by simp
 have hr:=run_copy_row (P:=Tryd.prog) w 58 58 ty 3 g bp (n - bp) dCap a sLen sCap cur 3 ((List.replicate k c)) Tryd.underlying58 (by rw [hi0]; simp [hz1]) hg (by rw [hl]; exact hk) hsrc (by rw [hl]; omega) (fun u hu=>by rw [(List.mem_replicate.1 hu).2]; exact hc1)
 rw [hl] at hr
 refine⟨_,hr,?_⟩
 rw [setRow_put w g cur _ _ _ hg]
 refine Sp.ex _ (Sp.ex ⟨?_,?_,?_⟩ (H.put _))
 ·simp [hl]; omega
 ·omega
 ·show List.take (bp+k) (cur.toList.take bp++(List.replicate k c)++cur.toList.drop (bp+k))=_
  have e1:(cur.toList.take bp++(List.replicate k c)).length=bp+k:=by
   rw [List.length_append,hl,List.length_take]
   simp only [Array.length_toList]
   omega
  rw [List.take_append_of_le_length (by omega),List.take_of_length_le (by omega),h3,<- List.replicate_append_replicate]
def f5 (_:Nat):Nat:=5
open Go.ChangeShapes Go.WideShapes Go.ChangeAt Go.RowKit Go.Deep
section
variable {H:Type} {enc:TypeId × Value->H} {P:Program} {w:World} {base:Nat} {spare:Nat->Bool} {held:Bool}
end
theorem Rd.same {W:World} {A:Option Addr} {xs:List Value} (h:Rd W A xs) {L:List Pr} (k:Nat) (hk:L[k]?=some (Same W)):Ent L (fun w=>Rd w A xs) :=
 Ent.of_same k hk fun _ hs=>h.keep fun p _ _ hp=>World.cell?_of_block (hs p.block (cell_lt hp))
open Go.ChangeShapes Go.WideShapes Go.ChangeAt Go.RowKit Go.Deep
structure PartV where
 p:PI.WPart
 bv:Value
 cv:Value
instance:Inhabited PartV:=⟨⟨⟨0,[],[]⟩,undef,undef⟩⟩
def cellsPr (l:List (Nat × Nat)):List Value:=l.flatMap fun c=>[.int .u16 (c.1:Int),.int .u16 (c.2:Int)]
def PartV.cells (x:PartV):List Value:=[.int .u8 (x.p.kind:Int),x.bv,x.cv]
def PartV.Ok (w:World) (x:PartV):Prop:=x.p.kind<256/\Byt w x.bv x.p.bytes/\(∃A c,x.cv=.slice A x.p.copies.length c/\Rd w A (cellsPr x.p.copies)/\x.p.copies.length<=c/\c<=maxLen)/\∀c ∈ x.p.copies,c.1<65536/\c.2<65536
section
variable {H:Type} {enc:TypeId × Value->H} {P:Program} {w:World} {base:Nat} {spare:Nat->Bool} {held:Bool}
end
theorem PartV.Ok.keep {w w' : World} {x:PartV} (h:x.Ok w) (hs:∀b,b<w.heap.size->w'.heap[b]?=w.heap[b]?):x.Ok w':=by
 obtain⟨h1,h2,⟨A,c,h3,h4,h5⟩,h6⟩:=h
 exact⟨h1,h2.keep fun p _ hp=>World.cell?_of_block (hs p.block (cell_lt hp)),⟨A,c,h3,h4.keep fun p _ _ hp=>World.cell?_of_block (hs p.block (cell_lt hp)),h5⟩,h6⟩
def XPost {α:Type} (w0:World) (L:List Pr) (T:Except Nat α) (okp:α->Ending->World->Prop) (e:Ending) (w' : World):Prop :=
 match T with
 | .error c=>e=.panicked (pan c)/\Sp w0 L w'
 | .ok r=>okp r e w'
theorem XPost.no {α:Type} {w0:World} {L:List Pr} {T:Except Nat α} {okp:α->Ending->World->Prop} {c:Nat} {w' : World} (h:T=.error c) (H:Sp w0 L w'):XPost w0 L T okp (.panicked (pan c)) w':=by
 subst h; exact⟨rfl,H⟩
namespace PI
section
variable {B:List Bool} {m:List Nat} {many a a1 a2 c n:Nat} {acc:List Nat}
end
end PI
namespace PI
theorem firstsW_len (FF l:List Nat):(firstsW FF l).length=3 * l.length:=by
 unfold firstsW
 induction l with
 | nil=>rfl
 | cons x l ih=>rw [List.flatMap_cons,List.length_append,ih,PBits.bitsOf_length,List.length_cons]; omega
end PI
theorem PI.cnts_le (n:Nat) (l:List Nat):∀x ∈ PI.cnts n l,x<=l.length:=fun x hx=>by
 obtain⟨q,hq,rfl⟩:=List.mem_map.1 hx
 exact List.count_le_length
def cellsB (l:List PI.Blk):List Value:=l.flatMap fun b=>[.int .i64 (b.kind:Int),.bool b.last,.int .i64 (b.from_:Int),.int .i64 (b.to_:Int)]
namespace PI
end PI
namespace PI
end PI
def Xd (gx:Nat) (l:List UInt8) (most:Nat) (r:Nat × List UInt8 × List PI.Blk):Pr:=Ex fun gr:Nat=>Ex fun vo:Value=>Ex fun vb:Value=>Star (Rr gr l r.1) (Star (XpB gx gr vo most vb) (Star (Row 5 1 vo r.2.1.length (cells8 r.2.1)) (Row 76 4 vb r.2.2.length (cellsB r.2.2))))
def XEnd (w0:World) (L:List Pr) (l:List UInt8) (most:Nat) (T:Except Nat (Nat × List UInt8 × List PI.Blk)) (e:Ending) (w' : World):Prop :=
 match T with
 | .error c=>e=.returned (.tuple #[.pointer none,.int .i64 (c:Int)])/\Sp w0 L w'
 | .ok r=>∃gx,e=.returned (.tuple #[.pointer (some ⟨gx,0,none⟩),.int .i64 0])/\Sp w0 (Xd gx l most r::L) w'
theorem XEnd.no {w0:World} {L:List Pr} {l:List UInt8} {most:Nat} {T:Except Nat (Nat × List UInt8 × List PI.Blk)} {w' : World} {c:Nat} (h:T=.error c) (H:Sp w0 L w'):XEnd w0 L l most T (.returned (.tuple #[.pointer none,.int .i64 (c:Int)])) w':=by
 subst h; exact⟨rfl,H⟩
def AEnd (w0:World) (L:List Pr) (T:Except Nat (Nat × List UInt8 × List PI.Blk)) (e:Ending) (w' : World):Prop :=
 match T with
 | .error c=>e=.returned (.tuple #[.slice none 0 0,.int .i64 0,.int .i64 (c:Int)])/\Sp w0 L w'
 | .ok r=>∃vo,e=.returned (.tuple #[vo,.int .i64 (((r.1+7) / 8:Nat):Int),.int .i64 0])/\Sp w0 (Row 5 1 vo r.2.1.length (cells8 r.2.1)::L) w'
def BEnd (w0:World) (L:List Pr) (T:Except Nat (Nat × List UInt8 × List PI.Blk)) (e:Ending) (w' : World):Prop :=
 match T with
 | .error c=>e=.returned (.tuple #[.slice none 0 0,.int .i64 (c:Int)])/\Sp w0 L w'
 | .ok r=>∃vb,e=.returned (.tuple #[vb,.int .i64 0])/\Sp w0 (Row 76 4 vb r.2.2.length (cellsB r.2.2)::L) w'
theorem AEnd.no {w0:World} {L:List Pr} {T:Except Nat (Nat × List UInt8 × List PI.Blk)} {w' : World} {c:Nat} (h:T=.error c) (H:Sp w0 L w'):AEnd w0 L T (.returned (.tuple #[.slice none 0 0,.int .i64 0,.int .i64 (c:Int)])) w':=by
 subst h; exact⟨rfl,H⟩
theorem BEnd.no {w0:World} {L:List Pr} {T:Except Nat (Nat × List UInt8 × List PI.Blk)} {w' : World} {c:Nat} (h:T=.error c) (H:Sp w0 L w'):BEnd w0 L T (.returned (.tuple #[.slice none 0 0,.int .i64 (c:Int)])) w':=by
 subst h; exact⟨rfl,H⟩
namespace PI
set_option maxRecDepth 100000 in
theorem row_a:(all (PBits.ofB [3,0]) 0).toOption.map (fun r=>((r.1+7) / 8,r.2.1))=some (2,[]):=by decide +kernel
end PI
theorem AEnd.row {w0:World} {L:List Pr} {T:Except Nat (Nat × List UInt8 × List PI.Blk)} {n:Nat} {o:List UInt8} (h:T.toOption.map (fun r=>((r.1+7) / 8,r.2.1))=some (n,o)) {e:Ending} {w' : World} (k:AEnd w0 L T e w') :
  ∃A c,e=.returned (.tuple #[.slice A o.length c,.int .i64 (n:Int),.int .i64 0])/\Sp w0 (Row 5 1 (.slice A o.length c) o.length (cells8 o)::L) w':=by
 cases T with
 | error c=>cases h
 | ok r =>
  have h2:((r.1+7) / 8,r.2.1)=(n,o):=Option.some.inj h
  injection h2 with h3 h4
  obtain⟨vo,rfl,H⟩:=k
  rw [h4] at H
  obtain⟨A,c,rfl,_,_⟩:=Row.form H 0 rfl
  exact⟨A,c,by rw [h3],H⟩
theorem AEnd.bad {w0:World} {L:List Pr} {T:Except Nat (Nat × List UInt8 × List PI.Blk)} {c:Nat} (h:T=.error c) {e:Ending} {w' : World} (k:AEnd w0 L T e w') :
  e=.returned (.tuple #[.slice none 0 0,.int .i64 0,.int .i64 (c:Int)])/\Sp w0 L w':=by
 subst h; exact k
theorem byt_row {w0 w:World} {M:List Pr} {A:Option Addr} {n c:Nat} {e:TypeId} {l:List UInt8} (H:Sp w0 M w) (k:Nat) (hk:M[k]?=some (Row e 1 (.slice A n c) n (cells8 l))) (hn:n=l.length):Byt w (.slice A n c) l:=by
 subst hn
 exact H.row_byt k hk
set_option maxRecDepth 100000 in
set_option maxHeartbeats 4000000 in
theorem dtells_ok (TL TF:Option Addr) (cl cf:Nat) {w0 w:World} {L:List Pr} (H:Sp w0 L w) (hT:Ent L (DTabs TL TF cl cf)) :
  Calls Tryd.prog 14 #[] w fun e w'=>e=.returned (.bool true)/\Sp w0 L w':=by
 have hA:=dall_ok none 0 0 [] H hT rfl (by decide) (Nat.le_refl _) (by decide) (fun _ w _=>Byt.nil w)
 have e1:PD.defl []=[3,0]:=PD.row_nil
 have e2:PD.defl [97]=[75,4,0]:=PD.row_a
 have e3:PD.longI 258=(285,0,0):=by decide +kernel
 rw [e1] at hA
 have HA:=Lib.hid hA
 have HT:=Lib.hid hT
 have E2:=Lib.hid e2
 have E3:=Lib.hid e3
 clear hA hT e1 e2 e3 H
 go_enter Tryd.func14,Tryd.ntmps14
 go_wp2_with fail
 refine HA.out.mono ?_
 rintro _ w1 ⟨v1,rfl,H1⟩
 obtain⟨V1,c1,rfl,_,_⟩:=Row.form H1 0 rfl
 obtain⟨u2,hc2,G2⟩:=lit_ok H1 [97]
 have hv2:Sem.run Tryd.prog (convert 25 25 (.slice (some ⟨w1.heap.size,0,none⟩) 1 1)) (w1.alloc (.cells #[.int .u8 97] 5))=.ok (.slice (some ⟨w1.heap.size,0,none⟩) 1 1) u2:=hc2 1 rfl
 clear hc2 HA H1
 go_wp2_with fail
 clear hv2
 generalize w1.heap.size=g1 at G2 ⊢
 have hB:=dall_ok (some ⟨g1,0,none⟩) 1 1 [97] G2 (fun w0 w h=>HT.out w0 w (h.pick 2 [])) rfl (by decide) (Nat.le_refl _) (by decide) (fun _ _ H=>H.lit 0 rfl (by decide))
 rw [E2.out] at hB
 refine hB.mono ?_
 rintro _ w2 ⟨v2,rfl,H2⟩
 obtain⟨V2,c2,rfl,_,_⟩:=Row.form H2 0 rfl
 clear hB G2 E2
 have hL:=dlong_ok 258 H2 (fun w0 w h=>HT.out w0 w (h.pick 3 []))
 rw [E3.out] at hL
 have HL:=Lib.hid hL
 clear hL H2
 go_wp2_with fail
 refine HL.out.mono ?_
 rintro _ w3 ⟨rfl,H3⟩
 clear HL
 have H4:=H3.newBk (cells8 [3,0]) 5
 have HE:=Lib.hid (equal_ok (l:=[3,0]) (m:=[3,0]) (byt_row H4 3 rfl rfl) (Byt.of_blk [3,0] (H4.blk 0 rfl) (by decide)))
 rw [show(([3,0]:List UInt8) == [3,0])=true by decide] at HE
 clear H3
 go_wp2_with fail
 refine HE.out.mono ?_
 rintro _ _ ⟨rfl,rfl⟩
 clear HE
 generalize w3.alloc _=w4 at H4 ⊢
 have H5:=H4.newBk (cells8 [75,4,0]) 5
 have HE:=Lib.hid (equal_ok (l:=[75,4,0]) (m:=[75,4,0]) (byt_row H5 2 rfl rfl) (Byt.of_blk [75,4,0] (H5.blk 0 rfl) (by decide)))
 rw [show(([75,4,0]:List UInt8) == [75,4,0])=true by decide] at HE
 have H6:=Lib.hid (H5.pick 5 [])
 clear H4 H5
 go_wp2_with fail
 refine HE.out.mono ?_
 rintro _ _ ⟨rfl,rfl⟩
 clear HE
 go_wp2_with fail
 go_ret
 exact⟨rfl,H6.out⟩
namespace PD
theorem findT_mono (t:List (Nat × Nat)) {x y:Nat} (h:x<=y) (k:Nat):PI.findT t x k<=PI.findT t y k:=by
 induction k with
 | zero=>exact Nat.le_refl _
 | succ k ih =>
  have hle:PI.findT t x k<=k:=by
   clear ih
   induction k with
   | zero=>exact Nat.le_refl _
   | succ k ih=>unfold PI.findT; split <;> omega
  unfold PI.findT
  split <;> split <;> omega
structure SgOk (F:Int->Nat × Nat × Nat):Prop where
 bits:∀x,(F x).2.1<=13
 more:∀x,(F x).2.2<2 ^ (F x).2.1
 inj:∀x y,x≠y->F x=F y->(F x).1=0
 mono:∀x y,x<y->0<(F y).1->(F x).1<=(F y).1
 none:∀x,(F x).1=0->(F x).2.1=0/\(F x).2.2=0
 sign:∀x,(F x).1<=285
theorem longI_back {x:Int} (h:3<=x) (h2:x<=258):x.toNat=(longT.getD ((longI x).1 - 257) (0,0)).1+(longI x).2.2/\(longI x).1=257+PI.findT longT x.toNat 28:=by
 obtain⟨f1,f2,f3,f4⟩:=longT_find x.toNat (by omega) (by omega)
 have e:longI x=(257+(PI.longS x.toNat).1,(PI.longS x.toNat).2.1,(PI.longS x.toNat).2.2):=by unfold longI; rw [if_pos ⟨h,h2⟩]
 rw [e]
 refine⟨?_,by show 257+(PI.longS x.toNat).1=_; rw [f1]⟩
 show x.toNat=(longT.getD (257+(PI.longS x.toNat).1 - 257) (0,0)).1+(PI.longS x.toNat).2.2
 rw [Nat.add_sub_cancel_left,<- f3,<- f1]
 omega
theorem longI_no {x:Int} (h:¬ (3<=x/\x<=258)):longI x=(0,0,0):=by unfold longI; rw [if_neg h]
theorem farI_no {x:Int} (h:¬ (1<=x/\x<=32768)):farI x=(0,0,0):=by unfold farI; rw [if_neg h]
theorem farI_back {x:Int} (h:1<=x) (h2:x<=32768):x.toNat=(PI.awayT.getD (farI x).1 (0,0)).1+(farI x).2.2/\(farI x).1=PI.findT PI.awayT x.toNat 29:=by
 obtain⟨g1,g2,g3⟩:=PI.findT_spec PI.awayT x.toNat 29 (by show 1<=x.toNat; omega)
 have e:farI x=((PI.farS x.toNat).1,(PI.farS x.toNat).2.1,(PI.farS x.toNat).2.2):=by unfold farI; rw [if_pos ⟨h,h2⟩]
 rw [e]
 unfold PI.farS
 refine⟨?_,rfl⟩
 show x.toNat=(PI.awayT.getD (PI.findT PI.awayT x.toNat 29) (0,0)).1+(x.toNat - (PI.awayT.getD (PI.findT PI.awayT x.toNat 29) (0,0)).1)
 omega
theorem long_range {x:Int} (h:3<=x) (h2:x<=258):257<=(longI x).1/\(longI x).1<=285/\(longI x).2.1<=5/\(longI x).2.2<2 ^ (longI x).2.1:=by
 obtain⟨a1,a2,a3⟩:=PI.longS_lt x.toNat (by omega) (by omega)
 have e:longI x=(257+(PI.longS x.toNat).1,(PI.longS x.toNat).2.1,(PI.longS x.toNat).2.2):=by unfold longI; rw [if_pos ⟨h,h2⟩]
 rw [e]
 exact⟨by show 257<=257+(PI.longS x.toNat).1; omega,by show 257+(PI.longS x.toNat).1<=285; omega,a3,a2⟩
theorem far_range {x:Int} (h:1<=x) (h2:x<=32768):(farI x).1<=29/\(farI x).2.1<=13/\(farI x).2.2<2 ^ (farI x).2.1:=by
 obtain⟨a1,a2,a3⟩:=PI.farS_lt x.toNat (by omega) (by omega)
 have e:farI x=((PI.farS x.toNat).1,(PI.farS x.toNat).2.1,(PI.farS x.toNat).2.2):=by unfold farI; rw [if_pos ⟨h,h2⟩]
 rw [e]
 exact⟨a1,a3,a2⟩
theorem long_sg:SgOk longI:=by
 refine⟨fun x=>?_,fun x=>?_,fun x y hne he=>?_,fun x y hlt hp=>?_,fun x h0=>?_,fun x=>?_⟩
 ·by_cases h:3<=x/\x<=258
  ·have:=long_range h.1 h.2; omega
  ·rw [longI_no h]; decide
 ·by_cases h:3<=x/\x<=258
  ·exact(long_range h.1 h.2).2.2.2
  ·rw [longI_no h]; decide
 ·by_cases h:3<=x/\x<=258
  ·by_cases h' : 3<=y/\y<=258
   ·have h1:=(longI_back h.1 h.2).1
    have h2:=(longI_back h'.1 h'.2).1
    rw [he] at h1
    omega
   ·rw [he,longI_no h']
  ·rw [longI_no h]
 ·by_cases h' : 3<=y/\y<=258
  ·by_cases h:3<=x/\x<=258
   ·rw [(longI_back h.1 h.2).2,(longI_back h'.1 h'.2).2]
    have:=findT_mono longT (show x.toNat<=y.toNat by omega) 28
    omega
   ·rw [longI_no h]; exact Nat.zero_le _
  ·rw [longI_no h'] at hp; exact absurd hp (by decide)
 ·by_cases h:3<=x/\x<=258
  ·have:=(long_range h.1 h.2).1; omega
  ·rw [longI_no h]; exact⟨rfl,rfl⟩
 ·by_cases h:3<=x/\x<=258
  ·exact(long_range h.1 h.2).2.1
  ·rw [longI_no h]; decide
theorem far_sg:SgOk farI:=by
 refine⟨fun x=>?_,fun x=>?_,fun x y hne he=>?_,fun x y hlt hp=>?_,fun x h0=>?_,fun x=>?_⟩
 ·by_cases h:1<=x/\x<=32768
  ·exact(far_range h.1 h.2).2.1
  ·rw [farI_no h]; decide
 ·by_cases h:1<=x/\x<=32768
  ·exact(far_range h.1 h.2).2.2
  ·rw [farI_no h]; decide
 ·by_cases h:1<=x/\x<=32768
  ·by_cases h' : 1<=y/\y<=32768
   ·have h1:=(farI_back h.1 h.2).1
    have h2:=(farI_back h'.1 h'.2).1
    rw [he] at h1
    omega
   ·rw [he,farI_no h']
  ·rw [farI_no h]
 ·by_cases h' : 1<=y/\y<=32768
  ·by_cases h:1<=x/\x<=32768
   ·rw [(farI_back h.1 h.2).2,(farI_back h'.1 h'.2).2]
    exact findT_mono PI.awayT (show x.toNat<=y.toNat by omega) 29
   ·rw [farI_no h]; exact Nat.zero_le _
  ·rw [farI_no h'] at hp; exact absurd hp (by decide)
 ·by_cases h:1<=x/\x<=32768
  ·have e:farI x=((PI.farS x.toNat).1,(PI.farS x.toNat).2.1,(PI.farS x.toNat).2.2):=by unfold farI; rw [if_pos h]
   have hb:=far_range h.1 h.2
   rw [e] at h0 hb ⊢
   have h1:PI.findT PI.awayT x.toNat 29=0:=h0
   have h2:(PI.farS x.toNat).2.1=0:=by unfold PI.farS; rw [h1]; rfl
   refine⟨h2,?_⟩
   have h3:(PI.farS x.toNat).2.2<2 ^ (PI.farS x.toNat).2.1:=hb.2.2
   rw [h2] at h3
   show(PI.farS x.toNat).2.2=0
   omega
  ·rw [farI_no h]; exact⟨rfl,rfl⟩
 ·by_cases h:1<=x/\x<=32768
  ·have:=(far_range h.1 h.2).1; omega
  ·rw [farI_no h]; decide
end PD
end Go.Proofs.YtloijdbkikccgaaDoor

