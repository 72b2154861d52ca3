/- A pack of texts: DefL DefN InfA InfB InfC InfD. -/
import Derived.Recover
import Derived.WalkLawsBesides
import Derived.Test.YtloijdbkikccgaaGreatDoorPk12
import Derived.Test.YtloijdbkikccgaaGreatDoorPk21
import Derived.Test.YtloijdbkikccgaaGreatDoorPk22
import Derived.Test.YtloijdbkikccgaaGreatDoorPk25
import Derived.Test.YtloijdbkikccgaaGreatDoorPk26
namespace Go.Proofs.YtloijdbkikccgaaGreatDoor
set_option linter.unusedVariables false
set_option linter.unusedSimpArgs false
open Go.RowKit
def subZ (A:Option Addr) (c q z:Nat):Option Addr:=if c=q then A else A.map (·.add (q * z))
theorem StAt.take {w:World} {V:Option Addr} {Y:List PM.St} (h:StAt w V Y) (k:Nat):StAt w V (Y.take k):=fun i hi=>by
 rw [List.length_take] at hi
 obtain⟨ad,e,h0,h1,h2⟩:=h i (by omega)
 refine⟨ad,e,?_,?_,?_⟩
 ·rw [List.getElem_take]; exact h0
 ·rw [List.getElem_take]; exact h1
 ·rw [List.getElem_take]; exact h2
theorem StAt.drop {w:World} {V:Option Addr} {Y:List PM.St} (h:StAt w V Y) (c k:Nat) (hc:Y.length<=c):StAt w (subZ V c k 3) (Y.drop k):=fun i hi=>by
 rw [List.length_drop] at hi
 obtain⟨ad,rfl,h0,h1,h2⟩:=h (k+i) (by omega)
 unfold subZ
 rw [if_neg (by omega)]
 refine⟨ad.add (k * 3),rfl,?_,?_,?_⟩
 ·rw [List.getElem_drop,Go.Addr.add_add,show k * 3+i * 3=(k+i) * 3 by omega]; exact h0
 ·rw [List.getElem_drop,Go.Addr.add_add,show k * 3+i * 3=(k+i) * 3 by omega]; exact h1
 ·rw [List.getElem_drop,Go.Addr.add_add,show k * 3+i * 3=(k+i) * 3 by omega]; exact h2
theorem Byt.dropZ {w:World} {A:Option Addr} {n c:Nat} {l:List UInt8} (h:Byt w (.slice A n c) l) (k:Nat) (hk:k<=n):Byt w (.slice (subZ A c k 1) (n - k) (c - k)) (l.drop k):=by
 unfold subZ
 by_cases e:c=k
 ·rw [if_pos e]; exact h.drop0 k hk e
 ·rw [if_neg e]
  have h2:=h.drop k hk
  rw [Nat.mul_one]; exact h2
def ptrB:Value->Nat
 | .pointer (some a)=>a.block
 | _=>0
theorem Blo.open2 {w0 w:World} {X:Pr} {L:List Pr} {g:Nat} {sv:Value} {BA:Option Addr} {bc:Nat} {p:BP} (H:Sp w0 (X::Blo g sv BA bc p::L) w) (hby:Ent L fun w=>Byt w (.slice BA p.b.length bc) p.b):∃dv L2,Sp w0 (X::(L2++L)) w/\Ent (L2++L) (DBr g dv p)/\∀φ,Ent L φ->Ent (L2++L) φ:=by
 obtain⟨dv,H⟩:=(H.pick 2 [1,0]).unex
 have h5:=H.unstar
 have h4:=(h5.pick 3 [1,0,2]).unstar
 have h3:=(h4.pick 4 [1,0,2,3]).unstar
 have h2:=(h3.pick 5 [1,0,2,3,4]).unstar
 have h1:=(h2.pick 6 [1,0,2,3,4,5]).unstar
 exact⟨{ dv with b:=BA,bc:=bc },[_,_,_,_,_,_],h1.pick 7 [6,5,4,3,2,0,1],fun w0 w h=>⟨h.cell 0 rfl 1,h.cell 0 rfl 2,h.cell 0 rfl 3,h.cell 0 rfl 4,h.cell 0 rfl 5,h.cell 0 rfl 6,h.cell 0 rfl 7,hby _ _ (h.pick 6 []),rowRd h 1 rfl,rowRd h 2 rfl,rowRd h 3 rfl,rowRd h 4 rfl,rowRd h 5 rfl⟩,fun φ hφ w0 w h=>hφ _ _ (h.pick 6 [])⟩
theorem Blo.rest {w0 w:World} {X:Pr} {L L2:List Pr} (H:Sp w0 (X::(L2++L)) w):Sp w0 (X::L) w:=by
 have h:=H.pick (1+L2.length) [0] ⟨by simp,by intro i hi; simp at hi; omega⟩
 have e:(X::(L2++L)).drop (1+L2.length)=L:=by
  rw [show 1+L2.length=L2.length+1 by omega,List.drop_succ_cons,List.drop_left]
 rw [e] at h
 exact h
namespace PD
theorem layD0_len (Y:List PM.St) (b:List UInt8) (last:Bool) (a:Nat):(layD 0 Y b last a).length=3+pad (a+3)+32+8 * b.length:=by
 unfold layD bodyD PI.storedW
 rw [if_pos rfl]
 simp only [List.length_append,PBits.bitsOf_length,List.length_singleton,List.length_replicate,PBits.ofB_length]
 omega
theorem layD1_len (Y:List PM.St) (b:List UInt8) (last:Bool) (a:Nat):(layD 1 Y b last a).length=fixN Y:=by
 unfold layD bodyD fixN
 rw [if_neg (by decide),if_pos rfl]
 simp only [List.length_append,PBits.bitsOf_length,List.length_singleton]
theorem layD2_len (Y:List PM.St) (b:List UInt8) (last:Bool) (a:Nat):(layD 2 Y b last a).length=dynN Y:=by
 unfold layD bodyD dynN
 rw [if_neg (by decide),if_neg (by decide)]
 simp only [List.length_append,PBits.bitsOf_length,List.length_singleton]
theorem partD_le (Y:List PM.St) (b:List UInt8) (last:Bool) (a:Nat):(partD Y b last a).length<=fixN Y/\(partD Y b last a).length<=dynN Y/\(b.length<=65535->(partD Y b last a).length<=3+pad (a+3)+32+8 * b.length):=by
 unfold partD
 have hk:kind Y b a=pick (sto b.length a) (fixN Y) (dynN Y):=rfl
 have h0:=fun h=>kind_sto (Y:=Y) (b:=b) (a:=a) h
 have l0:=layD0_len Y b last a
 have l1:=layD1_len Y b last a
 have l2:=layD2_len Y b last a
 generalize fixN Y=f at *
 generalize dynN Y=d at *
 have hs:∀h:b.length<=65535,sto b.length a=((3+pad (a+3)+32+8 * b.length:Nat):Int):=fun h=>by unfold sto; rw [if_pos h]
 have hn:¬ b.length<=65535->sto b.length a = -1:=fun h=>by unfold sto; rw [if_neg h]
 generalize sto b.length a=s at *
 generalize 3+pad (a+3)+32+8 * b.length=q at *
 unfold pick at hk
 by_cases hb:b.length<=65535
 ·have hs:=hs hb
  rw [if_pos (by omega)] at hk
  split at hk
  ·split at hk
   ·rw [hk,l2]; omega
   ·rw [hk,l1]; omega
  ·split at hk
   ·rw [hk,l2]; omega
   ·rw [hk,l0]; omega
 ·have hn:=hn hb
  rw [if_neg (by omega)] at hk
  split at hk
  ·rw [hk,l2]; omega
  ·rw [hk,l1]; omega
theorem fixN_le (Y:List PM.St) (n:Nat) (hY:PM.mays Y n):fixN Y<=3+28 * (2 * Y.length+1):=by
 unfold fixN fixW
 have hX:=words_ok (A:=PI.fixedL) (B:=PI.fixedD) hY (fun s _ hs=>PI.fixed_has s (by omega)) (fun s _ hs=>PI.fixed_hasD s (by omega))
 have h:=layW_le fl15 fd15 (words Y) hX
 rw [lay_words] at h
 have:=words_len Y
 omega
theorem partY_len (Y:List PM.St) (i:Nat):(partY Y i).length<=512:=by unfold partY; rw [List.length_take]; omega
theorem partY_mays (Y:List PM.St) (hY:PM.mays Y 0) (i:Nat):PM.mays (partY Y i) (atB Y i):=by
 have h1:PM.mays (Y.take (512 * i)++(partY Y i++Y.drop (512 * (i+1)))) 0:=by
  rw [<- List.append_assoc,<- take_parts,List.take_append_drop]; exact hY
 have h2:=((mays_app _ _ _).1 ((mays_app _ _ _).1 h1).2).1
 rw [Nat.zero_add] at h2
 exact h2
theorem stD_le (Y:List PM.St) (b:List UInt8) (hY:PM.mays Y 0) (i:Nat):(stD Y b i).length<=28703 * i:=by
 induction i with
 | zero=>exact Nat.le_refl _
 | succ i ih =>
  rw [stD,List.length_append]
  have h1:=(partD_le (partY Y i) (partB Y b i) (decide (Y.length<=512 * (i+1))) (stD Y b i).length).1
  have h2:=fixN_le _ _ (partY_mays Y hY i)
  have h3:=partY_len Y i
  omega
end PD
theorem stI_size (X:List PM.St) (h:∀s ∈ X,PD.StOk s):∀s ∈ X.map toI,s.1<=1000000:=by
 intro s hs
 obtain⟨t,ht,rfl⟩:=List.mem_map.1 hs
 rcases h t ht with h | h
 ·show(t.1:Int)<=_; omega
 ·show(t.1:Int)<=_; omega
set_option maxRecDepth 100000 in
set_option maxHeartbeats 8000000 in
theorem dstream_ok (V0 BA0:Option Addr) (n0 c0 bn0 bc0:Nat) (Y:List PM.St) (b:List UInt8) {TL TF:Option Addr} {cl cf:Nat} {w0 w:World} {L:List Pr} (H:Sp w0 L w) (hT:Ent L (DTabs TL TF cl cf)) (hn:n0=Y.length) (hnm:n0<=100000) (hc:n0<=c0) (hcm:c0<=maxLen) (h:Ent L fun w=>StAt w V0 Y) (hY:PM.mays Y 0)
  (hb:PM.expand Y []=b) (hbn:bn0=b.length) (hbm:bn0<=10000000) (hbc:bn0<=bc0) (hbcm:bc0<=maxLen) (hby:Ent L fun w=>Byt w (.slice BA0 bn0 bc0) b) :
  Calls Tryz.prog 52 #[.slice V0 n0 c0,.slice BA0 bn0 bc0] w (Ret fun v w'=>Sp w0 (Row 5 1 v (PD.stream Y b).length (cells8 (PD.stream Y b))::L) w'):=by
 have HT:=Lib.hid hT
 have HN:=Lib.hid hn
 have HST0:=Lib.hid h
 have HYM:=Lib.hid hY
 have HB:=Lib.hid hb
 have HBN:=Lib.hid hbn
 have HBY0:=Lib.hid hby
 have hcm9:c0<=9223372036854775807:=hcm
 have hbcm9:bc0<=9223372036854775807:=hbcm
 clear hT hn h hY hb hbn hby hcm hbcm
 go_enter Tryz.func52,Tryz.ntmps52
 go_wp2_with fail
 refine(wb_new H).mono ?_
 rintro _ w1 ⟨_,rfl,gw,rfl,H1⟩
 clear H
 go_wp2_with fail
 go_loopw [0,1] (fun lv bv wr=>∃(i:Nat) (V BA:Option Addr) (n c bn bc:Nat),lv=.slice V n c/\bv=.slice BA bn bc/\i<PD.many Y/\n=Y.length - 512 * i/\n<=c/\c<=c0/\(Ent L fun w=>StAt w V (Y.drop (512 * i)))/\bn=b.length - PD.atB Y i/\bn<=bc/\bc<=bc0/\(Ent L fun w=>Byt w (.slice BA bn bc) (b.drop (PD.atB Y i)))/\Sp w0 (WB gw (PD.stD Y b i)::L) wr) (fun lv _ _=>match lv with | .slice _ n _=>n | _=>0)
 case atStart =>
  refine⟨0,V0,BA0,n0,c0,bn0,bc0,rfl,rfl,by unfold PD.many; omega,by rw [HN.out]; rfl,hc,Nat.le_refl _,HST0.out,?_,hbc,Nat.le_refl _,?_,H1⟩
  ·show bn0=b.length - 0; rw [HBN.out]; rfl
  ·exact HBY0.out
 case round =>
  obtain⟨i,V,BA,n,c,bn,bc,rfl,rfl,him,hnY,hnc,hcc,hst,hbnY,hbb,hbcc,hby,H2⟩:=hrel
  clear H1
  obtain⟨m,hm⟩:∃m,min n 512=m:=⟨_,rfl⟩
  obtain⟨PY,hPY⟩:∃P,PD.partY Y i=P:=⟨_,rfl⟩
  obtain⟨PB,hPB⟩:∃P,PD.partB Y b i=P:=⟨_,rfl⟩
  obtain⟨z,hz⟩:∃z,PM.size PY=z:=⟨_,rfl⟩
  obtain⟨lb,hlb⟩:∃l,decide (Y.length<=512 * (i+1))=l:=⟨_,rfl⟩
  obtain⟨B1,hB1⟩:∃B,PD.stD Y b i=B:=⟨_,rfl⟩
  have hB1l:B1.length<=800000000:=by
   have h1:=PD.stD_le Y b HYM.out i
   have h2:i<=1000:=by unfold PD.many at him; have:=HN.out; omega
   rw [hB1] at h1; omega
  have hPYl:m=PY.length:=by rw [<- hPY,<- hm]; unfold PD.partY; rw [List.length_take,List.length_drop]; omega
  have hend:=PD.atB_le Y (i+1)
  have hbl:b.length=PM.size Y:=by rw [<- HB.out,PM.expand_length,List.length_nil,Nat.zero_add]
  rw [PD.atB_succ,hPY,hz] at hend
  have hzb:z<=bn:=by omega
  have hPBl:z=PB.length:=by rw [<- hPB]; unfold PD.partB; rw [hPY,hz,List.length_take,List.length_drop]; omega
  have hmy:=PD.partY_mays Y HYM.out i
  rw [hPY] at hmy
  have hso:=PD.mays_ok PY _ hmy
  have hstp:Ent L fun w=>StAt w V PY:=fun w0 w h=>by
   rw [<- hPY]; exact(hst w0 w h).take 512
  have hbz:Ent L fun w=>Byt w (.slice BA PB.length bc) PB:=fun w0 w h=>by
   have h9:=(hby w0 w h).take z (by rw [List.length_drop]; omega)
   rw [<- hPBl,<- hPB]
   unfold PD.partB
   rw [hPY,hz]
   exact h9
  have hbo:=bp_ok PY PB lb _ hmy (by omega) (by have:=HBN.out; rw [<- hPBl]; omega)
  have hstd:PD.stD Y b (i+1)=B1++PD.partD PY PB lb B1.length:=by rw [PD.stD,hPY,hPB,hlb,hB1]
  have kl0:decide (m=n)=lb:=by
   rw [<- hlb,decide_eq_decide]
   unfold PD.many at him
   omega
  have kl1:decide ((m:Int)=(n:Int))=lb:=by rw [<- kl0,decide_eq_decide]; omega
  have kl2:((m:Int) == (n:Int))=lb:=by rw [<- kl1]; rfl
  have kl3:(m == n)=lb:=by rw [<- kl0]; rfl
  have HSZ:=Lib.hid (size_ok V m c (PY.map toI) H2 (by rw [List.length_map]; exact hPYl) (by omega) (stI_size PY hso) (fun w0 w h=>(hstp w0 w h.tail).toI))
  rw [sizeI_map,hz,hB1] at HSZ
  have y1:min (n:Int) 512=(m:Int):=by omega
  have y2:(m:Int)<=(c:Int):=by omega
  have y3:(z:Int)<=(bc:Int):=by omega
  have HPY:=Lib.hid hPYl
  have HPB:=Lib.hid hPBl
  have HST:=Lib.hid hstp
  have HBZ:=Lib.hid hbz
  have HSO:=Lib.hid hso
  have HBO:=Lib.hid hbo
  have HSTD:=Lib.hid hstd
  have HDST:=Lib.hid hst
  have HDBY:=Lib.hid hby
  have HM:=Lib.hid hm
  have HLB:=Lib.hid hlb
  have HZ0:=Lib.hid hz
  have HPYE:=Lib.hid hPY
  clear hst hby hPY hPB hB1 hmy hso hstp hbz hbo hstd hm hz hlb H2 hPYl hPBl
  have hm512:m<=512/\m<=n:=by have:=HM.out; omega
  have hn9:n<=100000/\z<=10000000/\bn<=10000000:=by have:=HN.out; have:=HBN.out; omega
  obtain⟨hn9,hz9,hbn9⟩:=hn9
  have HNY:=Lib.hid hnY
  have HBNY:=Lib.hid hbnY
  have HBL:=Lib.hid hbl
  have HEND:=Lib.hid hend
  have HIM:=Lib.hid him
  clear hnY hbnY hbl hend him
  go_wp2_with fail
  refine HSZ.out.mono ?_
  rintro _ w2 ⟨rfl,H3⟩
  have HX3:=Lib.hid H3
  clear HSZ H3
  go_wp2_with fail
  refine wp_region_sc (L:=L) [some (.slice V n c),some (.int .i64 (m:Int)),some (.slice V m c),some (.slice BA bn bc),some (.int .i64 (z:Int)),some (.slice BA z bc),some (.int .i64 (m:Int)),some (.slice V n c),some (.int .i64 (n:Int)),some (.bool lb),none,some (.pointer (some ⟨gw,0,none⟩)),some (.tuple #[])] (fun ix vx=>match ix with | 10=>(fun vv=>vv=.pointer (some ⟨ptrB vv,0,none⟩)) vx | _=>True) (fun ix vx=>match ix with | 10=>(fun vv=>[Blo (ptrB vv) (.slice V m c) BA bc (BP.of PY PB lb)]) vx | 12=>(fun _=>[WB gw (B1++PD.partD PY PB lb B1.length)]) vx | _=>[]) (fun ix=>match ix with | 12=>[WB gw B1] | _=>[]) 13 40
   [some 16,some 17,some 18,some 19,some 20,some 21,some 22,some 23,some 24,some 25,some 26,some 27,some 28]
   [[],[],[0,1],[],[],[3,4],[],[],[7],[6,8],[2,5,9],[],[10,11,10]]
   [[],[],[0,1],[],[],[3,4],[],[],[7],[6,7,8],[0,1,2,3,4,5,6,7,8,9],[],[0,1,2,3,4,5,6,7,8,9,10,11]]
   [[],[],[],[],[],[],[],[],[],[],[],[],[10]] [[],[],[],[],[],[],[],[],[],[],[],[],[]] [(0,.slice V n c),(1,.slice BA bn bc),(5,.pointer (some ⟨gw,0,none⟩)),(6,.int .i64 (m:Int)),(7,.int .i64 (z:Int))]
   (by kernel_rfl) rfl (by decide) (by rfl) (by decide +kernel) rfl rfl (by simp) (HX3.out) ?hstep ?hend
  case hstep =>
   refine⟨?p0,⟨?p1,⟨?p2,⟨?p3,⟨?p4,⟨?p5,⟨?p6,⟨?p7,⟨?p8,⟨?p9,⟨?p10,⟨?p11,⟨?p12,trivial⟩⟩⟩⟩⟩⟩⟩⟩⟩⟩⟩⟩⟩
   case p0 | p1 | p2 | p3 | p4 | p5 | p6 | p7 | p8 | p9 | p11 =>
    intro x wx A rest hDf hF hS hE H K hK
    replace hK:=Lib.hid hK
    clear hS hE hDf
    repeat (obtain⟨_,hF⟩:=hF)
    change Oper.wp _ _ A wx K _
    go_step
    exact hK.out _ _ rfl H
   case p10 =>
    intro x wx A rest hDf hF hS hE H K hK0
    replace hDf:=Lib.hid hDf
    have e18:A.tmps[18]?.getD undef=.slice V m c:=((hS 2 (by decide)).2 18 rfl).trans (hS 2 (by decide)).1
    have e21:A.tmps[21]?.getD undef=.slice BA z bc:=((hS 5 (by decide)).2 21 rfl).trans (hS 5 (by decide)).1
    have e25:A.tmps[25]?.getD undef=.bool lb:=((hS 9 (by decide)).2 25 rfl).trans (hS 9 (by decide)).1
    replace H:Sp w0 (rest) wx:=H
    have hK:Hid (∀(v:Value) (w' : World),v=.pointer (some ⟨ptrB v,0,none⟩)->Sp w0 ((Blo (ptrB v) (.slice V m c) BA bc (BP.of PY PB lb))::rest) w'->K (A.put (some 26) v) w'):=Lib.hid hK0
    clear hK0 hF hS
    have hst:=Lib.hid (hE _ HST.out)
    have htb:=Lib.hid (hE _ HT.out)
    have HZ:=Lib.hid H
    clear hE H
    change Oper.wp _ _ A wx K _
    go_wp2_with fail
    refine(dmakes_ok V BA m c z bc PY PB lb HZ.out htb.out HPY.out (by omega) hst.out HSO.out HPB.out).mono ?_
    rintro _ w9 ⟨g9,rfl,H9⟩
    exact hK.out _ _ rfl H9
   case p12 =>
    intro x wx A rest hDf hF hS hE H K hK0
    replace hDf:=Lib.hid hDf
    have q26:(x 10)=.pointer (some ⟨ptrB (x 10),0,none⟩):=(hS 10 (by decide)).1
    have e26:A.tmps[26]?.getD undef=x 10:=(hS 10 (by decide)).2 26 rfl
    have e27:A.tmps[27]?.getD undef=.pointer (some ⟨gw,0,none⟩):=((hS 11 (by decide)).2 27 rfl).trans (hS 11 (by decide)).1
    replace H:Sp w0 ((WB gw B1)::(Blo (ptrB (x 10)) (.slice V m c) BA bc (BP.of PY PB lb))::rest) wx:=H
    have hK:Hid (∀(v:Value) (w' : World),v=.tuple #[]->Sp w0 ((WB gw (B1++PD.partD PY PB lb B1.length))::rest) w'->K (A.put (some 28) v) w'):=Lib.hid hK0
    clear hK0 hF hS
    obtain⟨g9,hg9⟩:∃q,ptrB (x 10)=q:=⟨_,rfl⟩
    rw [hg9] at q26 H
    rw [q26] at e26
    clear q26 hg9
    have hby:=Lib.hid (hE _ HBZ.out)
    have htb:=Lib.hid (hE _ HT.out)
    clear hE
    have HP:=H.pick 2 [1]
    obtain⟨dv,L2,H5,hE5,hL5⟩:=Blo.open2 H hby.out
    have HX5:=Lib.hid H5
    have hdb:=Lib.hid hE5
    have htt:=Lib.hid (hL5 _ htb.out)
    clear H H5 hE5 hL5 HP
    change Oper.wp _ _ A wx K _
    go_wp2_with fail
    refine(dput_ok g9 gw dv _ B1 HX5.out hdb.out htt.out HBO.out hB1l).mono ?_
    rintro _ w9 ⟨rfl,H9⟩
    rw [bp_kind,bp_lay] at H9
    exact hK.out _ _ rfl (Blo.rest H9)
  case hend =>
   intro x wx A hA hS H
   replace H:Sp w0 ((WB gw (B1++PD.partD PY PB lb B1.length))::L) wx:=H
   clear hS
   simp only [putAll,Act.put,List.setIfInBounds_toArray,List.set_cons_succ,List.set_cons_zero,Nat.reduceAdd] at hA
   subst hA
   have HQ:=Lib.hid H
   clear H HX3
   have hX9:Sp w0 (WB gw (PD.stD Y b (i+1))::L) wx:=by rw [HSTD.out]; exact HQ.out
   have HX9:=Lib.hid hX9
   clear hX9 HQ
   by_cases hcm:m=c
   ·subst hcm
    by_cases hbz:z=bc
    ·subst hbz
     have q1:(m:Int)<=(n:Int):=by omega
     have q2:(z:Int)<=(bn:Int):=by omega
     go_wp2_with fail
     go_quiet (fail)
     have HQ:=Lib.hid (HX9.out.drewN nq)
     clear HX9
     cases lb with
     | true =>
      have h0:n - m=0:=by have:=of_decide_eq_true kl0; omega
      have h1:(n:Int) - (m:Int)=0:=by omega
      have hq:i+1=PD.many Y:=by
       have h2:=of_decide_eq_true HLB.out
       have h3:=HIM.out
       unfold PD.many at h3 ⊢
       omega
      have h9:=HQ.out
      rw [hq] at h9
      have h4:PD.many Y<=1000:=by
       unfold PD.many; have:=HN.out; omega
      have h5:=PD.stD_le Y b HYM.out (PD.many Y)
      have HD:=Lib.hid (wb_done gw _ h9 (by omega))
      clear h4 h5
      clear HQ h9 hq
      try rw [h0]
      go_wp2_with fail
      refine HD.out.mono ?_
      rintro _ w5 ⟨v5,rfl,H5⟩
      go_wp2
      go_ret
      exact⟨_,rfl,H5.pick 2 [0]⟩
     | false =>
      exfalso
      have:=of_decide_eq_false kl0
      omega
    ·have hbz2:¬ (bc:Int)=(z:Int):=by omega
     have q1:(m:Int)<=(n:Int):=by omega
     have q2:(z:Int)<=(bn:Int):=by omega
     go_wp2_with fail
     go_quiet (fail)
     have HQ:=Lib.hid (HX9.out.drewN nq)
     clear HX9
     cases lb with
     | true =>
      have h0:n - m=0:=by have:=of_decide_eq_true kl0; omega
      have h1:(n:Int) - (m:Int)=0:=by omega
      have hq:i+1=PD.many Y:=by
       have h2:=of_decide_eq_true HLB.out
       have h3:=HIM.out
       unfold PD.many at h3 ⊢
       omega
      have h9:=HQ.out
      rw [hq] at h9
      have h4:PD.many Y<=1000:=by
       unfold PD.many; have:=HN.out; omega
      have h5:=PD.stD_le Y b HYM.out (PD.many Y)
      have HD:=Lib.hid (wb_done gw _ h9 (by omega))
      clear h4 h5
      clear HQ h9 hq
      try rw [h0]
      go_wp2_with fail
      refine HD.out.mono ?_
      rintro _ w5 ⟨v5,rfl,H5⟩
      go_wp2
      go_ret
      exact⟨_,rfl,H5.pick 2 [0]⟩
     | false =>
      exfalso
      have:=of_decide_eq_false kl0
      omega
   ·have hcm2:¬ (c:Int)=(m:Int):=by omega
    by_cases hbz:z=bc
    ·subst hbz
     have q1:(m:Int)<=(n:Int):=by omega
     have q2:(z:Int)<=(bn:Int):=by omega
     go_wp2_with fail
     go_quiet (fail)
     have HQ:=Lib.hid (HX9.out.drewN nq)
     clear HX9
     cases lb with
     | true =>
      have h0:n - m=0:=by have:=of_decide_eq_true kl0; omega
      have h1:(n:Int) - (m:Int)=0:=by omega
      have hq:i+1=PD.many Y:=by
       have h2:=of_decide_eq_true HLB.out
       have h3:=HIM.out
       unfold PD.many at h3 ⊢
       omega
      have h9:=HQ.out
      rw [hq] at h9
      have h4:PD.many Y<=1000:=by
       unfold PD.many; have:=HN.out; omega
      have h5:=PD.stD_le Y b HYM.out (PD.many Y)
      have HD:=Lib.hid (wb_done gw _ h9 (by omega))
      clear h4 h5
      clear HQ h9 hq
      try rw [h0]
      go_wp2_with fail
      refine HD.out.mono ?_
      rintro _ w5 ⟨v5,rfl,H5⟩
      go_wp2
      go_ret
      exact⟨_,rfl,H5.pick 2 [0]⟩
     | false =>
      have h0:m=512/\512<n:=by have:=of_decide_eq_false kl0; have:=HM.out; omega
      have h1:¬ (n:Int) - (m:Int)=0:=by omega
      have h2:¬ n - m=0:=by omega
      go_wp2_with fail
      go_roundw
      case rel =>
       have hny:=HNY.out
       have hbny:=HBNY.out
       have e1:512 * (i+1)=512 * i+m:=by omega
       have e2:PD.atB Y (i+1)=PD.atB Y i+z:=by rw [PD.atB_succ,HPYE.out,HZ0.out]
       refine⟨i+1,V.map (fun x=>x.add (m * 3)),BA,n - m,_,0,0,rfl,rfl,?_,by omega,by omega,by omega,fun w0 w h=>?_,by omega,by omega,by omega,fun w0 w h=>?_,HQ.out⟩
       ·have h3:=of_decide_eq_false HLB.out
        unfold PD.many; omega
       ·have h9:=(HDST.out w0 w h).drop c m (by rw [List.length_drop]; omega)
        rw [List.drop_drop,<- e1] at h9
        unfold subZ at h9
        rw [if_neg (fun h=>hcm h.symm)] at h9
        exact h9
       ·have h9:=(HDBY.out w0 w h).dropZ z hzb
        rw [List.drop_drop,<- e2] at h9
        unfold subZ at h9
        rw [if_pos rfl] at h9
        rw [show bn - z=0 by omega,Nat.sub_self] at h9; exact h9
      case measure=>first | (simp [intOf]; omega) | omega | simp [intOf]
    ·have hbz2:¬ (bc:Int)=(z:Int):=by omega
     have q1:(m:Int)<=(n:Int):=by omega
     have q2:(z:Int)<=(bn:Int):=by omega
     go_wp2_with fail
     go_quiet (fail)
     have HQ:=Lib.hid (HX9.out.drewN nq)
     clear HX9
     cases lb with
     | true =>
      have h0:n - m=0:=by have:=of_decide_eq_true kl0; omega
      have h1:(n:Int) - (m:Int)=0:=by omega
      have hq:i+1=PD.many Y:=by
       have h2:=of_decide_eq_true HLB.out
       have h3:=HIM.out
       unfold PD.many at h3 ⊢
       omega
      have h9:=HQ.out
      rw [hq] at h9
      have h4:PD.many Y<=1000:=by
       unfold PD.many; have:=HN.out; omega
      have h5:=PD.stD_le Y b HYM.out (PD.many Y)
      have HD:=Lib.hid (wb_done gw _ h9 (by omega))
      clear h4 h5
      clear HQ h9 hq
      try rw [h0]
      go_wp2_with fail
      refine HD.out.mono ?_
      rintro _ w5 ⟨v5,rfl,H5⟩
      go_wp2
      go_ret
      exact⟨_,rfl,H5.pick 2 [0]⟩
     | false =>
      have h0:m=512/\512<n:=by have:=of_decide_eq_false kl0; have:=HM.out; omega
      have h1:¬ (n:Int) - (m:Int)=0:=by omega
      have h2:¬ n - m=0:=by omega
      go_wp2_with fail
      go_roundw
      case rel =>
       have hny:=HNY.out
       have hbny:=HBNY.out
       have e1:512 * (i+1)=512 * i+m:=by omega
       have e2:PD.atB Y (i+1)=PD.atB Y i+z:=by rw [PD.atB_succ,HPYE.out,HZ0.out]
       refine⟨i+1,V.map (fun x=>x.add (m * 3)),BA.map (fun x=>x.add z),n - m,_,bn - z,_,rfl,rfl,?_,by omega,by omega,by omega,fun w0 w h=>?_,by omega,by omega,by omega,fun w0 w h=>?_,HQ.out⟩
       ·have h3:=of_decide_eq_false HLB.out
        unfold PD.many; omega
       ·have h9:=(HDST.out w0 w h).drop c m (by rw [List.length_drop]; omega)
        rw [List.drop_drop,<- e1] at h9
        unfold subZ at h9
        rw [if_neg (fun h=>hcm h.symm)] at h9
        exact h9
       ·have h9:=(HDBY.out w0 w h).dropZ z hzb
        rw [List.drop_drop,<- e2] at h9
        unfold subZ at h9
        rw [if_neg (fun h=>hbz h.symm)] at h9
        first | exact h9 | simpa using h9
      case measure=>first | (simp [intOf]; omega) | omega | simp [intOf]
namespace PD
def defl (b:List UInt8):List UInt8:=stream (PM.Cut b 64) b
theorem defl_mays (b:List UInt8):PM.mays (PM.Cut b 64) 0:=PM.cut_mays b 64 0
theorem defl_exp (b:List UInt8):PM.expand (PM.Cut b 64) []=b:=PM.cut_back0 b 64
end PD
set_option maxRecDepth 100000 in
set_option maxHeartbeats 2000000 in
theorem dall_ok (BA:Option Addr) (n c:Nat) (b:List UInt8) {TL TF:Option Addr} {cl cf:Nat} {w0 w:World} {L:List Pr} (H:Sp w0 L w) (hT:Ent L (DTabs TL TF cl cf)) (hn:n=b.length) (hnm:n<=100000) (hc:n<=c) (hcm:c<=maxLen) (hb:Ent L fun w=>Byt w (.slice BA n c) b) :
  Calls Tryz.prog 34 #[.slice BA n c] w fun e w'=>∃v,e=.returned (.tuple #[v,.int .i64 0])/\Sp w0 (Row 5 1 v (PD.defl b).length (cells8 (PD.defl b))::L) w':=by
 have HT:=Lib.hid hT
 have HN:=Lib.hid hn
 have HB:=Lib.hid hb
 have k1:¬ (n:Int) > 16777216:=by omega
 have hcut:=Cut_ok n 64 BA c b H hn hb (by omega)
 have e64:cutL b 64=PM.Cut b 64:=by unfold cutL; rw [if_pos ⟨by decide,by decide⟩]; rfl
 rw [e64] at hcut
 have e65:cutE 64=0:=rfl
 rw [e65] at hcut
 have hmy:=PD.defl_mays b
 have hxp:=PD.defl_exp b
 have hle:(PM.Cut b 64).length<=b.length:=PM.cut_length b 64 0
 unfold PD.defl
 obtain⟨Y,hY⟩:∃Y,PM.Cut b 64=Y:=⟨_,rfl⟩
 rw [hY] at hcut hmy hxp hle ⊢
 obtain⟨y,hy⟩:∃y,Y.length=y:=⟨_,rfl⟩
 rw [hy] at hcut hle
 have hy1:y<=100000:=by omega
 have HC:=Lib.hid hcut
 have HM:=Lib.hid hmy
 have HX:=Lib.hid hxp
 have HY:=Lib.hid hy
 clear hT hn hb hcut e64 e65 hmy hxp hY hy hle H
 go_enter Tryz.func34,Tryz.ntmps34
 go_wp2_with fail
 refine HC.out.mono ?_
 rintro _ w1 ⟨v1,rfl,H1⟩
 obtain⟨V,vc,rfl,hv1,hv2⟩:=Row.form H1 0 rfl
 have HS:=Lib.hid (dstream_ok V BA y vc n c Y b H1 (fun w0 w h=>HT.out w0 w h.tail) HY.out.symm hy1 hv1 hv2 (fun w0 w h=>h.stAt 0 rfl) HM.out HX.out HN.out (by omega) hc hcm (fun w0 w h=>HB.out w0 w h.tail))
 clear HC H1
 go_wp2_with fail
 refine HS.out.mono ?_
 rintro _ w2 ⟨v2,rfl,H2⟩
 have H3:=H2.pick 2 [0]
 clear HS H2
 go_wp2
 go_ret2
 exact⟨v2,rfl,H3⟩
def pan (e:Nat):List PanicEntry:=[{ v:=.iface 32 (.int .i64 (e:Int)),recovered:=false }]
def XpB (gx gr:Nat) (vo:Value) (most:Nat) (vb:Value):Pr:=Bk gx 119 [.pointer (some ⟨gr,0,none⟩),vo,.int .i64 (most:Int),vb]
namespace PI
theorem numAt_peek (l:List UInt8) (a k:Nat) (h:a+k<=8 * l.length):numAt (PBits.ofB l) a k=PBits.peek l a k:=by
 unfold numAt PBits.peek
 rw [PBits.num_mid _ _ _ (by rw [PBits.ofB_length]; exact h),PBits.num_ofB]
theorem numAt_small (B:List Bool) (a k K:Nat) (h:k<=K):numAt B a k<2 ^ K:=Nat.lt_of_lt_of_le (numAt_lt B a k) (Nat.pow_le_pow_right (by omega) h)
end PI
theorem fail_ok (w:World):Calls Tryz.prog 158 #[.int .i64 0] w fun e w'=>e=.returned (.tuple #[])/\w=w':=by
 go_enter Tryz.func158,Tryz.ntmps158
 go_wp2
 go_end0
 exact⟨rfl,rfl⟩
theorem fail_no (c:Nat) (hc:c≠0) (w:World):Calls Tryz.prog 158 #[.int .i64 (c:Int)] w fun e w'=>e=.panicked (pan c)/\w=w':=by
 have h:¬ (c:Int)=0:=by omega
 have h2:((c:Int) != 0)=true:=by simpa using hc
 go_enter Tryz.func158,Tryz.ntmps158
 go_wp2
 exact⟨rfl,rfl,rfl⟩
set_option maxRecDepth 100000 in
theorem xnum_ok (gx gr:Nat) (l:List UInt8) (most at_ k:Nat) (vo vb:Value) {w0 w:World} {L:List Pr} (H:Sp w0 (Rr gr l at_::XpB gx gr vo most vb::L) w) (ha:at_<=8 * l.length) (hk:k<=57) (hl:l.length<=100000000) :
  Calls Tryz.prog 131 #[.pointer (some ⟨gx,0,none⟩),.int .i64 (k:Int)] w fun e w' =>
   match PI.number (PBits.ofB l) at_ k with
   | .error c=>e=.panicked (pan c)/\Sp w0 L w'
   | .ok r=>e=.returned (.int .i64 (r.2:Int))/\Sp w0 (Rr gr l r.1::XpB gx gr vo most vb::L) w':=by
 have c0:w.cell? ⟨gx,0,none⟩=some (.pointer (some ⟨gr,0,none⟩)):=H.cell 1 rfl 0
 cases hr:PI.number (PBits.ofB l) at_ k with
 | error c =>
  obtain⟨rfl,hlt⟩:=PI.number_err hr
  rw [PBits.ofB_length] at hlt
  show Calls _ _ _ _ fun e w'=>e=.panicked (pan 4)/\Sp w0 L w'
  go_enter Tryz.func131,Tryz.ntmps131
  go_wp2_with fail
  refine(get_short gr l at_ k H ha hlt hk (by omega)).mono ?_
  rintro _ w1 ⟨rfl,hK⟩
  have H1:=hK.sep H
  go_wp2_with fail
  refine(fail_no 4 (by decide) w1).mono ?_
  rintro _ w2 ⟨rfl,rfl⟩
  go_wp2
  exact⟨rfl,rfl,H1.tail2⟩
 | ok r =>
  obtain⟨rfl,hle⟩:=PI.number_ok hr
  rw [PBits.ofB_length] at hle
  show Calls _ _ _ _ fun e w'=>e=.returned (.int .i64 (PI.numAt (PBits.ofB l) at_ k:Nat))/\Sp w0 (Rr gr l (at_+k)::XpB gx gr vo most vb::L) w'
  rw [PI.numAt_peek l at_ k hle]
  have hlt:=PI.numAt_small (PBits.ofB l) at_ k 57 hk
  rw [PI.numAt_peek l at_ k hle] at hlt
  obtain⟨v,hv⟩:∃v,PBits.peek l at_ k=v:=⟨_,rfl⟩
  rw [hv] at hlt ⊢
  have HV:=Lib.hid hv
  clear hv hr
  go_enter Tryz.func131,Tryz.ntmps131
  go_wp2_with fail
  refine(get_ok gr l at_ k H hle hk (by omega)).mono ?_
  rintro _ w1 ⟨rfl,H1⟩
  rw [HV.out]
  go_wp2_with fail
  refine(fail_ok w1).mono ?_
  rintro _ w2 ⟨rfl,rfl⟩
  go_wp2
  go_ret
  exact⟨rfl,H1⟩
set_option maxRecDepth 100000 in
theorem xroom_ok (gx gr most n c many:Nat) (A:Option Addr) (vb:Value) {w0 w:World} {L:List Pr} (H:Sp w0 (XpB gx gr (.slice A n c) most vb::L) w) (hn:n<=most) (hm:most<=4611686018427387904) (hk:many<=4611686018427387904) :
  Calls Tryz.prog 161 #[.pointer (some ⟨gx,0,none⟩),.int .i64 (many:Int)] w fun e w'=>(e=if most - n<many then .panicked (pan 22) else .returned (.tuple #[]))/\Keep w w':=by
 have c1:w.cell? ⟨gx,1,none⟩=some (.slice A n c):=H.cell 0 rfl 1
 have c2:w.cell? ⟨gx,2,none⟩=some (.int .i64 (most:Int)):=H.cell 0 rfl 2
 clear H
 by_cases h:most - n<many
 ·rw [if_pos h]
  have h2:(many:Int) > (most:Int) - (n:Int):=by omega
  have n1:decide (most - n<many)=true:=by simpa using h
  go_enter Tryz.func161,Tryz.ntmps161
  go_wp2
  go_quiet (fail)
  go_wp2
  exact⟨rfl,rfl,Keep.drewN _ _⟩
 ·rw [if_neg h]
  have h2:¬ (many:Int) > (most:Int) - (n:Int):=by omega
  have n1:decide (most - n<many)=false:=by simpa using h
  go_enter Tryz.func161,Tryz.ntmps161
  go_wp2
  go_quiet (fail)
  go_wp2
  go_end0
  exact⟨rfl,Keep.drewN _ _⟩
def FeedX (gv gx gr:Nat) (l:List UInt8) (vo vb:Value) (most at_:Nat):Pr:=Star (Rr gr l at_) (Star (XpB gx gr vo most vb) (Bk gv 114 [.pointer (some ⟨gx,0,none⟩)]))
theorem feedX_open {w0 w:World} {L:List Pr} {gv gx gr:Nat} {l:List UInt8} {vo vb:Value} {most at_:Nat} (H:Sp w0 (FeedX gv gx gr l vo vb most at_::L) w) :
  Sp w0 (Rr gr l at_::XpB gx gr vo most vb::Bk gv 114 [.pointer (some ⟨gx,0,none⟩)]::L) w:=by
 have H1:=H.unstar.swap.unstar
 exact H1.pick 3 [2,0,1]
theorem feedX_shut {w0 w:World} {L:List Pr} {gv gx gr:Nat} {l:List UInt8} {vo vb:Value} {most at_:Nat} (H:Sp w0 (Rr gr l at_::XpB gx gr vo most vb::Bk gv 114 [.pointer (some ⟨gx,0,none⟩)]::L) w) :
  Sp w0 (FeedX gv gx gr l vo vb most at_::L) w:=(Sp.star (H.pick 3 [1,2,0])).swap.star
theorem PI.bit_num {B:List Bool} {a:Nat} {b:Bool} (h:B[a]?=some b):PI.number B a 1=.ok (a+1,bitV b):=by
 obtain⟨h1,h2⟩:=List.getElem?_eq_some_iff.1 h
 unfold PI.number PI.numAt
 rw [if_pos (by omega)]
 congr 2
 rw [List.drop_eq_getElem_cons h1,h2]
 cases b <;> simp [PBits.num,bitV]
set_option maxRecDepth 100000 in
theorem xbit_on (gv gx gr:Nat) (l:List UInt8) (vo vb:Value) (most at_:Nat) (b:Bool) {w0 w:World} {L:List Pr} (H:Sp w0 (FeedX gv gx gr l vo vb most at_::L) w) (hl:l.length<=100000000) (h:(PBits.ofB l)[at_]?=some b) :
  Calls Tryz.prog 179 #[.pointer (some ⟨gv,0,none⟩)] w fun e w'=>e=.returned (.tuple #[.int .u32 (bitV b:Int),.int .i64 0])/\Sp w0 (FeedX gv gx gr l vo vb most (at_+1)::L) w':=by
 have H1:=feedX_open H
 have c0:w.cell? ⟨gv,0,none⟩=some (.pointer (some ⟨gx,0,none⟩)):=H1.cell 2 rfl 0
 have c1:w.cell? ⟨gx,0,none⟩=some (.pointer (some ⟨gr,0,none⟩)):=H1.cell 1 rfl 0
 have hr:=PI.bit_num h
 obtain⟨e1,hle⟩:=PI.number_ok hr
 rw [PBits.ofB_length] at hle
 have e2:PBits.peek l at_ 1=bitV b:=by
  rw [<- PI.numAt_peek l at_ 1 hle]
  exact(congrArg Prod.snd e1).symm
 have E2:=Lib.hid e2
 have hb:bitV b<=1:=by unfold bitV; split <;> omega
 clear e1 e2 hr h H
 go_enter Tryz.func179,Tryz.ntmps179
 go_wp2_with fail
 refine(get_ok gr l at_ 1 H1 hle (by omega) (by omega)).mono ?_
 rintro _ w1 ⟨rfl,H2⟩
 rw [E2.out]
 go_wp2_with fail
 go_ret2
 exact⟨rfl,feedX_shut H2⟩
set_option maxRecDepth 100000 in
theorem xbit_end (gv gx gr:Nat) (l:List UInt8) (vo vb:Value) (most at_:Nat) {w0 w:World} {L:List Pr} (H:Sp w0 (FeedX gv gx gr l vo vb most at_::L) w) (hl:l.length<=100000000) (h:at_=8 * l.length) :
  Calls Tryz.prog 179 #[.pointer (some ⟨gv,0,none⟩)] w fun e w'=>e=.returned (.tuple #[.int .u32 0,.int .i64 4])/\Sp w0 (FeedX gv gx gr l vo vb most at_::L) w':=by
 have H1:=feedX_open H
 have c0:w.cell? ⟨gv,0,none⟩=some (.pointer (some ⟨gx,0,none⟩)):=H1.cell 2 rfl 0
 have c1:w.cell? ⟨gx,0,none⟩=some (.pointer (some ⟨gr,0,none⟩)):=H1.cell 1 rfl 0
 clear H
 go_enter Tryz.func179,Tryz.ntmps179
 go_wp2_with fail
 refine(get_short gr l at_ 1 H1 (by omega) (by omega) (by omega) (by omega)).mono ?_
 rintro _ w1 ⟨rfl,hK⟩
 have H2:=hK.sep H1
 go_wp2_with fail
 go_ret2
 exact⟨rfl,feedX_shut H2⟩
set_option maxRecDepth 100000 in
set_option maxHeartbeats 4000000 in
theorem xnext_ok (gb gv gx gr:Nat) (by_:List UInt8) (vo vb:Value) (most:Nat) (vr:Value) (m:List Nat) (mo:Nat) (n at_:Nat) (l:List Bool) {w0 w:World} {L:List Pr} (H:Sp w0 (FeedX gv gx gr by_ vo vb most at_::Row 3 1 vr (PH.rows m).length (cellsN (PH.rows m))::BkB gb m vr (mo:Int)::L) w) (hn:n=l.length) (hb:l=PBits.ofB by_) (hl:n<=800000000) (ha:at_<=n) (hmo:mo<=15) (hs:PH.sum m<=32768) (hm:m.length<=1024) :
  Calls Tryz.prog 180 #[.pointer (some ⟨gb,0,none⟩),.func (.func 179) #[] #[.pointer (some ⟨gv,0,none⟩)]] w fun e w' =>
   e=.returned (.tuple #[.int .i64 ((PH.nextFrom m (l.drop at_) mo 0).2.2:Int),.int .i64 (PH.nextFrom m (l.drop at_) mo 0).2.1])/\Sp w0 (FeedX gv gx gr by_ vo vb most (at_+(PH.nextFrom m (l.drop at_) mo 0).1)::Row 3 1 vr (PH.rows m).length (cellsN (PH.rows m))::BkB gb m vr (mo:Int)::L) w':=by
 obtain⟨T,hT⟩:∃T,PH.nextFrom m (l.drop at_) mo 0=T:=⟨_,rfl⟩
 rw [hT]
 have HT:=Lib.hid hT
 have HN:=Lib.hid hn
 have HB:=Lib.hid hb
 have HS:=Lib.hid hs
 clear hT hn hb hs
 go_enter Tryz.func180,Tryz.ntmps180
 go_wp2_with fail
 go_loopw [6,7,8,9] (fun c6 c7 c8 c9 wr=>∃i:Nat,c6=.int .i64 (PH.numb ((l.drop at_).take i):Int)/\c7=.int .i64 ((PH.fst m i+PH.tal m i:Nat):Int)/\c8=.int .i64 ((PH.rowsB m i).length:Int)/\c9=.int .i64 ((i+1:Nat):Int)/\i<=mo/\at_+i<=n/\PH.fst m i+PH.tal m i<=PH.numb ((l.drop at_).take i)/\PH.nextFrom m (l.drop at_) (mo - i) i=T/\Sp w0 (FeedX gv gx gr by_ vo vb most (at_+i)::Row 3 1 vr (PH.rows m).length (cellsN (PH.rows m))::BkB gb m vr (mo:Int)::L) wr) (fun _ _ _ c9 _=>mo+1 - (intOf c9).toNat)
 case atStart=>exact⟨0,rfl,rfl,rfl,rfl,Nat.zero_le _,ha,Nat.zero_le _,HT.out,H⟩
 case round =>
  obtain⟨i,rfl,rfl,rfl,rfl,hi,hai,hfc,hnx,H1⟩:=hrel
  obtain⟨C,hC⟩:∃C,PH.numb ((l.drop at_).take i)=C:=⟨_,rfl⟩
  obtain⟨F,hF⟩:∃F,PH.fst m i+PH.tal m i=F:=⟨_,rfl⟩
  obtain⟨R,hR⟩:∃R,(PH.rowsB m i).length=R:=⟨_,rfl⟩
  obtain⟨P,hP⟩:∃P,(PH.rows m).length=P:=⟨_,rfl⟩
  have hCl:C<32768:=by
   have:=PH.numb_lt ((l.drop at_).take i)
   have h2:2 ^ ((l.drop at_).take i).length<=2 ^ 15:=Nat.pow_le_pow_right (by omega) (by rw [List.length_take]; omega)
   omega
  rw [hC,hF] at hfc
  rw [hC,hF,hR]
  obtain⟨VR,cR,rfl,_,_⟩:=Row.form H1 1 rfl
  rw [hP] at H1
  rw [hP] at ⊢
  obtain⟨c16,c17,_,_,ctal⟩:=BkB.get H1 2 rfl
  have e1:((i+1:Nat):Int)=(i:Int)+1:=by omega
  rw [e1]
  by_cases him:i<mo
  ·have k1:(i:Int)+1<=(mo:Int):=by omega
   by_cases hat:at_+i<n
   ·have hg:∃b,l[at_+i]?=some b:=⟨l[at_+i]'(by rw [<- HN.out]; exact hat),List.getElem?_eq_getElem _⟩
    obtain⟨b,hbi⟩:=hg
    have HBI:=Lib.hid hbi
    have HNX:=Lib.hid hnx
    have HC:=Lib.hid hC
    have HF:=Lib.hid hF
    have HR:=Lib.hid hR
    have HP:=Lib.hid hP
    have ct:=Lib.hid (ctal (i+1) (by omega))
    clear hbi hnx hC hF hR hP ctal H HT
    go_wp2_with fail
    refine(xbit_on gv gx gr by_ vo vb most (at_+i) b H1 (by have:=HN.out; rw [HB.out,PBits.ofB_length] at this; omega) (by rw [<- HB.out]; exact HBI.out)).mono ?_
    rintro _ w1 ⟨rfl,H2⟩
    obtain⟨c16,c17,_,_,ctal⟩:=BkB.get H2 2 rfl
    have ct:=ctal (i+1) (by omega)
    obtain⟨t,ht⟩:∃t,PH.tal m (i+1)=t:=⟨_,rfl⟩
    rw [ht] at ct
    have HTT:=Lib.hid ht
    have ht2:t<=1024:=by rw [<- ht]; exact Nat.le_trans (PH.tal_le m _) hm
    have hR2:R<=15360:=by
     rw [<- HR.out]
     exact Nat.le_trans (PH.rowsB_len m i) (Nat.mul_le_mul (by omega:i<=15) hm)
    have HST:=PH.next_on m l at_ i (mo - (i+1)) C F b HBI.out HC.out HF.out
    rw [show mo - (i+1)+1=mo - i by omega,HNX.out,ht,HR.out] at HST
    have HNB:=Lib.hid (PH.numb_take l at_ i b HBI.out)
    have hrt:R+t<=(PH.rows m).length:=by
     rw [<- HR.out,<- ht,<- PH.rowsB_tal]
     exact PH.rowsB_mono m (i+1) 15 (by omega)
    have HRT:=Lib.hid hrt
    rw [HC.out] at HNB
    have hrr:∀q,q<(PH.rows m).length->∃ad,VR=some ad/\w1.cell? (ad.add q)=some (.int .i64 ((PH.rows m).getD q 0:Int)):=by
     intro q hq
     obtain⟨A9,c9,e9,hrd,_,_⟩:=H2.row_rd 1 rfl
     injection e9 with e9
     subst e9
     obtain⟨ad,ea,hc⟩:=hrd.at_ (k:=q) (by simpa [cellsN] using hq)
     refine⟨ad,ea,?_⟩
     rw [hc]
     simp [cellsN,List.getD_eq_getElem?_getD,List.getElem?_eq_getElem hq]
    have HRR:=Lib.hid hrr
    have hz:=or_zero C (by omega)
    have ho:=or_one2 C (by omega)
    clear ctal ht hrt hrr
    have q1:bits .and .u32 1 1=1:=by decide +kernel
    have q2:bits .and .u32 0 1=0:=by decide +kernel
    cases b
    ·rw [show bitV false=0 from rfl] at HST
     rw [show((bitV false:Nat):Int)=0 from rfl]
     by_cases hit:2 * C+0<2 * F+t
     ·rw [if_pos hit] at HST
      obtain⟨kk,hkk⟩:∃kk,2 * C+0 - 2 * F=kk:=⟨_,rfl⟩
      rw [hkk] at HST
      have kv:(C:Int) * 2 - (F:Int) * 2=(kk:Int):=by omega
      obtain⟨q,hq0⟩:∃q,R+kk=q:=⟨_,rfl⟩
      rw [hq0] at HST
      have kq:(R:Int)+(kk:Int)=(q:Int):=by omega
      have hq:q<(PH.rows m).length:=by have:=HRT.out; omega
      have hr2:=HRR.out q hq
      have k4:(kk:Int)<(t:Int):=by omega
      have k6:(q:Int)<(P:Int):=by rw [<- HP.out]; omega
      obtain⟨y,hy⟩:∃y,(PH.rows m).getD q 0=y:=⟨_,rfl⟩
      obtain⟨ad,rfl,hcell⟩:=hr2
      rw [hy] at hcell HST
      have HTT2:=Lib.hid HST
      clear HST
      clear hy hkk hq0 hq HRR HRT
      go_wp2_with fail
      rw [HTT2.out]
      go_ret2
      exact⟨rfl,by rw [HP.out]; exact H2⟩
     ·rw [if_neg hit] at HST
      have HTT2:=Lib.hid HST
      clear HST
      obtain⟨kk,hkk⟩:∃kk,2 * C+0 - 2 * F=kk:=⟨_,rfl⟩
      have kv:(C:Int) * 2 - (F:Int) * 2=(kk:Int):=by omega
      have k4:¬ (kk:Int)<(t:Int):=by omega
      have HIT:=Lib.hid hit
      clear hit hkk HRR HRT
      go_wp2_with fail
      have hit:=HIT.out
      clear HIT
      go_roundw
      case rel =>
       refine⟨i+1,?_,?_,?_,by go_num,by omega,by omega,?_,HTT2.out.symm,H2⟩
       ·rw [HNB.out]; exact congrArg (Value.int .i64) (by simp [bitV]; omega)
       ·rw [PH.fst_next,HF.out,HTT.out]; exact congrArg (Value.int .i64) (by omega)
       ·rw [PH.rowsB_tal,HR.out,HTT.out]; exact congrArg (Value.int .i64) (by omega)
       ·rw [PH.fst_next,HF.out,HTT.out,HNB.out]; have hbf:bitV false=0:=rfl; have hbt:bitV true=1:=rfl; omega
      case measure=>first | (simp [intOf]; omega) | simp [intOf]
    ·rw [show bitV true=1 from rfl] at HST
     rw [show((bitV true:Nat):Int)=1 from rfl]
     by_cases hit:2 * C+1<2 * F+t
     ·rw [if_pos hit] at HST
      obtain⟨kk,hkk⟩:∃kk,2 * C+1 - 2 * F=kk:=⟨_,rfl⟩
      rw [hkk] at HST
      have kv:(C:Int) * 2+1 - (F:Int) * 2=(kk:Int):=by omega
      obtain⟨q,hq0⟩:∃q,R+kk=q:=⟨_,rfl⟩
      rw [hq0] at HST
      have kq:(R:Int)+(kk:Int)=(q:Int):=by omega
      have hq:q<(PH.rows m).length:=by have:=HRT.out; omega
      have hr2:=HRR.out q hq
      have k4:(kk:Int)<(t:Int):=by omega
      have k6:(q:Int)<(P:Int):=by rw [<- HP.out]; omega
      obtain⟨y,hy⟩:∃y,(PH.rows m).getD q 0=y:=⟨_,rfl⟩
      obtain⟨ad,rfl,hcell⟩:=hr2
      rw [hy] at hcell HST
      have HTT2:=Lib.hid HST
      clear HST
      clear hy hkk hq0 hq HRR HRT
      go_wp2_with fail
      rw [HTT2.out]
      go_ret2
      exact⟨rfl,by rw [HP.out]; exact H2⟩
     ·rw [if_neg hit] at HST
      have HTT2:=Lib.hid HST
      clear HST
      obtain⟨kk,hkk⟩:∃kk,2 * C+1 - 2 * F=kk:=⟨_,rfl⟩
      have kv:(C:Int) * 2+1 - (F:Int) * 2=(kk:Int):=by omega
      have k4:¬ (kk:Int)<(t:Int):=by omega
      have HIT:=Lib.hid hit
      clear hit hkk HRR HRT
      go_wp2_with fail
      have hit:=HIT.out
      clear HIT
      go_roundw
      case rel =>
       refine⟨i+1,?_,?_,?_,by go_num,by omega,by omega,?_,HTT2.out.symm,H2⟩
       ·rw [HNB.out]; exact congrArg (Value.int .i64) (by simp [bitV]; omega)
       ·rw [PH.fst_next,HF.out,HTT.out]; exact congrArg (Value.int .i64) (by omega)
       ·rw [PH.rowsB_tal,HR.out,HTT.out]; exact congrArg (Value.int .i64) (by omega)
       ·rw [PH.fst_next,HF.out,HTT.out,HNB.out]; have hbf:bitV false=0:=rfl; have hbt:bitV true=1:=rfl; omega
      case measure=>first | (simp [intOf]; omega) | simp [intOf]
   ·have hnx2:T=(i,4,0):=by
     rw [<- hnx,show mo - i=mo - (i+1)+1 by omega,PH.nextFrom,if_pos (by rw [List.length_drop,<- HN.out]; omega)]
    have HTT2:=Lib.hid hnx2
    have HP:=Lib.hid hP
    have hend:at_+i=n:=by omega
    have HE:=Lib.hid hend
    clear hnx hnx2 hC hF hR hP ctal H HT hend
    go_wp2_with fail
    refine(xbit_end gv gx gr by_ vo vb most (at_+i) H1 (by have:=HN.out; rw [HB.out,PBits.ofB_length] at this; omega) (by have:=HN.out; rw [HB.out,PBits.ofB_length] at this; have:=HE.out; omega)).mono ?_
    rintro _ w1 ⟨rfl,H2⟩
    go_wp2_with fail
    rw [HTT2.out]
    go_ret2
    exact⟨rfl,by rw [HP.out]; exact H2⟩
  ·have k1:¬ (i:Int)+1<=(mo:Int):=by omega
   have hnx2:T=(i,20,0):=by rw [<- hnx,show mo - i=0 by omega]; rfl
   have HTT2:=Lib.hid hnx2
   have HP:=Lib.hid hP
   clear hnx hnx2 hC hF hR hP ctal H HT
   go_wp2_with fail
   rw [HTT2.out]
   go_ret2
   exact⟨rfl,by rw [HP.out]; exact H1⟩
def Bok (gb:Nat) (m:List Nat):Pr:=Ex fun vr:Value=>Star (Row 3 1 vr (PH.rows m).length (cellsN (PH.rows m))) (BkB gb m vr (PI.mostN m:Int))
set_option maxRecDepth 100000 in
theorem xsign_ok (gx gr gb:Nat) (l:List UInt8) (most at_:Nat) (vo vb:Value) (m:List Nat) {w0 w:World} {L:List Pr} (H:Sp w0 (Rr gr l at_::XpB gx gr vo most vb::Bok gb m::L) w) (ha:at_<=8 * l.length) (hl:l.length<=100000000) (hs:PH.sum m<=32768) (hm:m.length<=1024) :
  Calls Tryz.prog 163 #[.pointer (some ⟨gx,0,none⟩),.pointer (some ⟨gb,0,none⟩)] w fun e w' =>
   match PI.sign (PBits.ofB l) m at_ with
   | .error c=>e=.panicked (pan c)/\Sp w0 L w'
   | .ok r=>e=.returned (.int .i64 (r.2:Int))/\Sp w0 (Rr gr l r.1::XpB gx gr vo most vb::Bok gb m::L) w':=by
 have hmf:∀(fn:Fn) (first cap:Array Value) (w:World),(Instr.makeFunc fn first cap).run Tryz.prog w=.ok (.func fn first cap) w:=fun _ _ _ _=>rfl
 have h7:=PI.next_facts m ((PBits.ofB l).drop at_) (PI.mostN m) (PI.mostN_le m)
 obtain⟨T,hT⟩:∃T,PH.nextFrom m ((PBits.ofB l).drop at_) (PI.mostN m) 0=T:=⟨_,rfl⟩
 rw [hT] at h7
 have hq:PI.sign (PBits.ofB l) m at_=if T.2.1=0 then .ok (at_+T.1,T.2.2) else .error T.2.1.toNat:=by unfold PI.sign; rw [hT]
 rw [hq]
 have HT:=Lib.hid hT
 have H7:=Lib.hid h7.2
 obtain⟨vr,H⟩:=(H.pick 3 [2,0,1]).unex
 replace H:=H.unstar.pick 4 [2,3,0,1]
 have H1:=feedX_shut ((H.newBk [.pointer (some ⟨gx,0,none⟩)] 114).pick 5 [1,2,0,3,4])
 clear hT h7 hq
 have HL:=Lib.hid hl
 have HA:=Lib.hid ha
 by_cases h0:T.2.1=0
 ·rw [if_pos h0]
  show Calls _ _ _ _ fun e w'=>e=.returned (.int .i64 (T.2.2:Int))/\Sp w0 (Rr gr l (at_+T.1)::XpB gx gr vo most vb::Bok gb m::L) w'
  have h1:=xnext_ok gb w.heap.size gx gr l vo vb most vr m (PI.mostN m) (8 * l.length) at_ (PBits.ofB l) H1 (PBits.ofB_length l).symm rfl (by have:=HL.out; omega) HA.out (PI.mostN_le m) hs hm
  rw [HT.out,h0] at h1
  obtain⟨t,ht⟩:∃t,T.2.2=t:=⟨_,rfl⟩
  obtain⟨q,hq⟩:∃q,at_+T.1=q:=⟨_,rfl⟩
  rw [ht,hq] at h1
  rw [ht,hq]
  clear h0 ht hq HT H7
  have HN:=Lib.hid h1
  clear h1
  go_enter Tryz.func163,Tryz.ntmps163
  go_wp2_with fail
  refine HN.out.mono ?_
  rintro _ w1 ⟨rfl,H2⟩
  have H3:=(feedX_open H2).pick 5 [0,1,3,4]
  go_wp2_with fail
  refine(fail_ok w1).mono ?_
  rintro _ w2 ⟨rfl,rfl⟩
  go_wp2
  go_ret
  have H5:Sp w0 (Bok gb m::Rr gr l q::XpB gx gr vo most vb::L) w1:=Sp.ex vr (H3.pick 4 [2,3,0,1]).star
  exact⟨rfl,H5.pick 3 [1,2,0]⟩
 ·rw [if_neg h0]
  have hc:∃c:Nat,T.2.1=(c:Int)/\c≠0:=by
   rcases H7.out with h | h | h
   ·exact absurd h.1 h0
   ·exact⟨4,h,by decide⟩
   ·exact⟨20,h,by decide⟩
  obtain⟨c,hc,hc0⟩:=hc
  have h1:=xnext_ok gb w.heap.size gx gr l vo vb most vr m (PI.mostN m) (8 * l.length) at_ (PBits.ofB l) H1 (PBits.ofB_length l).symm rfl (by have:=HL.out; omega) HA.out (PI.mostN_le m) hs hm
  rw [HT.out,hc] at h1
  rw [hc,show((c:Int)).toNat=c from rfl]
  show Calls _ _ _ _ fun e w'=>e=.panicked (pan c)/\Sp w0 L w'
  obtain⟨t,ht⟩:∃t,T.2.2=t:=⟨_,rfl⟩
  obtain⟨q,hq⟩:∃q,at_+T.1=q:=⟨_,rfl⟩
  rw [ht,hq] at h1
  clear hc h0 HT H7 ht hq
  have HN:=Lib.hid h1
  clear h1
  go_enter Tryz.func163,Tryz.ntmps163
  go_wp2_with fail
  refine HN.out.mono ?_
  rintro _ w1 ⟨rfl,H2⟩
  have H3:=(feedX_open H2).pick 5 [0,1,3,4]
  go_wp2_with fail
  refine(fail_no c hc0 w1).mono ?_
  rintro _ w2 ⟨rfl,rfl⟩
  go_wp2
  exact⟨rfl,rfl,H3.pick 4 []⟩
end Go.Proofs.YtloijdbkikccgaaGreatDoor

