/- A pack. -/
import Derived.Test.YtnjpnmpemhldcaaGreatDoorPk06
import Derived.Test.YtnjpnmpemhldcaaGreatDoorPk34
import Derived.Test.YtnjpnmpemhldcaaGreatDoorPk35
set_option linter.all false
set_option maxRecDepth 100000
set_option maxHeartbeats 8000000
namespace Go.Proofs.YtnjpnmpemhldcaaGreatDoor
variable {w0 w:World} {L:List Pr}
open Go.RowKit
def subZ (A:Option Addr) (c q z:Nat):Option Addr:=if c=q then A else A.map (·.add (q * z))
theorem StAt.take {w:World} {V:Option Addr} {Y:List PM.St} (h:StAt w V Y) (k:Nat):StAt w V (Y.take k):=fun i hi=>by
 rw [List.length_take] at hi;obtain⟨a,e,b,c,d⟩:=h i (by omega);refine⟨a,e,?_,?_,?_⟩
 ·rw [List.getElem_take]; exact b
 ·rw [List.getElem_take]; exact c
 ·rw [List.getElem_take]; exact d
theorem StAt.drop {w:World} {V:Option Addr} {Y:List PM.St} (h:StAt w V Y) (c k:Nat) (hc:Y.length<=c):StAt w (subZ V c k 3) (Y.drop k):=fun i hi=>by
 rw [List.length_drop] at hi;obtain⟨a,rfl,b,d,e⟩:=h (k+i) (by omega);unfold subZ;rw [if_neg (by omega)];refine⟨a.add (k * 3),rfl,?_,?_,?_⟩
 ·rw [List.getElem_drop,Go.Addr.add_add,show k * 3+i * 3=(k+i) * 3 by omega]; exact b
 ·rw [List.getElem_drop,Go.Addr.add_add,show k * 3+i * 3=(k+i) * 3 by omega]; exact d
 ·rw [List.getElem_drop,Go.Addr.add_add,show k * 3+i * 3=(k+i) * 3 by omega]; exact e
theorem Byt.dropZ {w:World} {A:Option Addr} {n c:Nat} {l:List UInt8} (h:Byt w (.slice A n c) l) (k:Nat) (hk:k<=n):Byt w (.slice (subZ A c k 1) (n - k) (c - k)) (l.drop k):=by
 unfold subZ;by_cases e:c=k
 ·rw [if_pos e]; exact h.drop0 k hk e
 ·rw [if_neg e];have a:=h.drop k hk;rw [Nat.mul_one]; exact a
def ptrB:Value->Nat
 | .pointer (some a)=>a.block
 | _=>0
theorem Blo.open2 {X:Pr} {g:Nat} {sv:Value} {BA:Option Addr} {bc:Nat} {p:BP} (H:Sp w0 (X::Blo g sv BA bc p::L) w) (hby:Ent L fun w=>Byt w (.slice BA p.b.length bc) p.b):∃dv L2,Sp w0 (X::(L2++L)) w/\Ent (L2++L) (DBr g dv p)/\∀φ,Ent L φ->Ent (L2++L) φ:=by
 obtain⟨dv,H⟩:=(H.pick 2 [1,0]).unex;have a:=H.unstar;have c:=(a.pick 3 [1,0,2]).unstar;have d:=(c.pick 4 [1,0,2,3]).unstar;have e:=(d.pick 5 [1,0,2,3,4]).unstar;have f:=(e.pick 6 [1,0,2,3,4,5]).unstar;exact⟨{ dv with b:=BA,bc:=bc },[_,_,_,_,_,_],f.pick 7 [6,5,4,3,2,0,1],fun w0 w h=>⟨h.cell 0 rfl 1,h.cell 0 rfl 2,h.cell 0 rfl 3,h.cell 0 rfl 4,h.cell 0 rfl 5,h.cell 0 rfl 6,h.cell 0 rfl 7,hby _ _ (h.pick 6 []),rowRd h 1 rfl,rowRd h 2 rfl,rowRd h 3 rfl,rowRd h 4 rfl,rowRd h 5 rfl⟩,fun φ hφ w0 w h=>hφ _ _ (h.pick 6 [])⟩
theorem Blo.rest {X:Pr} {L L2:List Pr} (H:Sp w0 (X::(L2++L)) w):Sp w0 (X::L) w:=by
 have h:=H.pick (1+L2.length) [0] ⟨by simp,by intro i a; simp at a; omega⟩;have e:(X::(L2++L)).drop (1+L2.length)=L:=by
  rw [show 1+L2.length=L2.length+1 by omega,List.drop_succ_cons,List.drop_left]
 rw [e] at h;exact h
namespace PD
theorem layD0_len (Y:List PM.St) (b:List UInt8) (last:Bool) (a:Nat):(layD 0 Y b last a).length=3+pad (a+3)+32+8 * b.length:=by
 unfold layD bodyD PI.storedW;rw [if_pos rfl];simp only [List.length_append,PBits.bitsOf_length,List.length_singleton,List.length_replicate,PBits.ofB_length];omega
theorem layD1_len (Y:List PM.St) (b:List UInt8) (last:Bool) (a:Nat):(layD 1 Y b last a).length=fixN Y:=by
 unfold layD bodyD fixN;rw [if_neg (by decide),if_pos rfl];simp only [List.length_append,PBits.bitsOf_length,List.length_singleton]
theorem layD2_len (Y:List PM.St) (b:List UInt8) (last:Bool) (a:Nat):(layD 2 Y b last a).length=dynN Y:=by
 unfold layD bodyD dynN;rw [if_neg (by decide),if_neg (by decide)];simp only [List.length_append,PBits.bitsOf_length,List.length_singleton]
theorem partD_le (Y:List PM.St) (b:List UInt8) (last:Bool) (a:Nat):(partD Y b last a).length<=fixN Y/\(partD Y b last a).length<=dynN Y/\(b.length<=65535->(partD Y b last a).length<=3+pad (a+3)+32+8 * b.length):=by
 unfold partD;have c:kind Y b a=pick (sto b.length a) (fixN Y) (dynN Y):=rfl;have m:=fun h=>kind_sto (Y:=Y) (b:=b) (a:=a) h;have l:=layD0_len Y b last a;have g:=layD1_len Y b last a;have e:=layD2_len Y b last a;generalize fixN Y=f at *;generalize dynN Y=d at *;have i:∀h:b.length<=65535,sto b.length a=((3+pad (a+3)+32+8 * b.length:Nat):Int):=fun h=>by unfold sto; rw [if_pos h]
 have j:¬ b.length<=65535->sto b.length a = -1:=fun h=>by unfold sto; rw [if_neg h]
 generalize sto b.length a=s at *;generalize 3+pad (a+3)+32+8 * b.length=q at *;unfold pick at c;by_cases k:b.length<=65535
 ·have i:=i k;rw [if_pos (by omega)] at c;split at c
  ·split at c
   ·rw [c,e]; omega
   ·rw [c,g]; omega
  ·split at c
   ·rw [c,e]; omega
   ·rw [c,l]; omega
 ·have j:=j k;rw [if_neg (by omega)] at c;split at c
  ·rw [c,e]; omega
  ·rw [c,g]; omega
theorem fixN_le (Y:List PM.St) (n:Nat) (hY:PM.mays Y n):fixN Y<=3+28 * (2 * Y.length+1):=by
 unfold fixN fixW;have a:=words_ok (A:=PI.fixedL) (B:=PI.fixedD) hY (fun s _ hs=>PI.fixed_has s (by omega)) (fun s _ hs=>PI.fixed_hasD s (by omega));have h:=Ya fl15 fd15 (words Y) a;rw [lay_words] at h;have:=words_len Y;omega
theorem partY_len (Y:List PM.St) (i:Nat):(partY Y i).length<=512:=by unfold partY; rw [List.length_take]; omega
theorem partY_mays (Y:List PM.St) (hY:PM.mays Y 0) (i:Nat):PM.mays (partY Y i) (atB Y i):=by
 have b:PM.mays (Y.take (512 * i)++(partY Y i++Y.drop (512 * (i+1)))) 0:=by
  rw [<- List.append_assoc,<- take_parts,List.take_append_drop]; exact hY
 have a:=((mays_app _ _ _).1 ((mays_app _ _ _).1 b).2).1;rw [Nat.zero_add] at a;exact a
theorem stD_le (Y:List PM.St) (b:List UInt8) (hY:PM.mays Y 0) (i:Nat):(stD Y b i).length<=28703 * i:=by
 induction i with
 | zero=>exact Nat.le_refl _
 | succ i ih =>
  rw [stD,List.length_append];have a:=(partD_le (partY Y i) (partB Y b i) (decide (Y.length<=512 * (i+1))) (stD Y b i).length).1;have c:=fixN_le _ _ (partY_mays Y hY i);have d:=partY_len Y i;omega
end PD
theorem UE (X:List PM.St) (h:∀s ∈ X,PD.StOk s):∀s ∈ X.map toI,s.1<=1000000:=by
 intro s a;obtain⟨t,b,rfl⟩:=List.mem_map.1 a;rcases h t b with h | h
 ·show(t.1:Int)<=_; omega
 ·show(t.1:Int)<=_; omega
theorem WV (V0 BA0:Option Addr) (n0 c0 bn0 bc0:Nat) (Y:List PM.St) (b:List UInt8) {TL TF:Option Addr} {cl cf:Nat} (H:Sp w0 L w) (hT:Ent L (DTabs TL TF cl cf)) (hn:n0=Y.length) (hnm:n0<=100000) (hc:n0<=c0) (hcm:c0<=maxLen) (h:Ent L fun w=>StAt w V0 Y) (hY:PM.mays Y 0)
  (hb:PM.expand Y []=b) (hbn:bn0=b.length) (hbm:bn0<=10000000) (hbc:bn0<=bc0) (hbcm:bc0<=maxLen) (hby:Ent L fun w=>Byt w (.slice BA0 bn0 bc0) b) :
  Calls Tryz.prog 45 #[.slice V0 n0 c0,.slice BA0 bn0 bc0] w (Ret fun v w'=>Sp w0 (Row 5 1 v (PD.stream Y b).length (cells8 (PD.stream Y b))::L) w'):=by
 have HT:=hid hT;have HN:=hid hn;have a8:=hid h;have p:=hid hY;have HB:=hid hb;have a3:=hid hbn;have a9:=hid hby
 have e3:c0<=9223372036854775807:=hcm;have c7:bc0<=9223372036854775807:=hbcm;clear hT hn h hY hb hbn hby hcm hbcm;go_enter Tryz.func45,Tryz.ntmps45
 go_wp2_with fail
 refine(T0 H).mono ?_;rintro _ w1 ⟨_,rfl,k,rfl,H1⟩;clear H;go_wp2_with fail
 go_loopw [0,1] (fun lv bv wr=>∃(i:Nat) (V BA:Option Addr) (n c bn bc:Nat),lv=.slice V n c/\bv=.slice BA bn bc/\i<PD.many Y/\n=Y.length - 512 * i/\n<=c/\c<=c0/\(Ent L fun w=>StAt w V (Y.drop (512 * i)))/\bn=b.length - PD.atB Y i/\bn<=bc/\bc<=bc0/\(Ent L fun w=>Byt w (.slice BA bn bc) (b.drop (PD.atB Y i)))/\Sp w0 (WB k (PD.stD Y b i)::L) wr) (fun lv _ _=>match lv with | .slice _ n _=>n | _=>0)
 case atStart =>
  refine⟨0,V0,BA0,n0,c0,bn0,bc0,rfl,rfl,by unfold PD.many; omega,by rw [HN.out]; rfl,hc,Nat.le_refl _,a8.out,?_,hbc,Nat.le_refl _,?_,H1⟩
  ·show bn0=b.length - 0; rw [a3.out]; rfl
  ·exact a9.out
 case round =>
  obtain⟨i,V,BA,n,c,bn,bc,rfl,rfl,J,b0,e8,e9,t,W,f0,e4,hby,H2⟩:=hrel;clear H1;obtain⟨m,hm⟩:∃m,min n 512=m:=⟨_,rfl⟩;obtain⟨PY,e⟩:∃P,PD.partY Y i=P:=⟨_,rfl⟩;obtain⟨PB,M⟩:∃P,PD.partB Y b i=P:=⟨_,rfl⟩;obtain⟨z,hz⟩:∃z,PM.size PY=z:=⟨_,rfl⟩;obtain⟨lb,N⟩:∃l,decide (Y.length<=512 * (i+1))=l:=⟨_,rfl⟩;obtain⟨G,O⟩:∃B,PD.stD Y b i=B:=⟨_,rfl⟩;have b1:G.length<=800000000:=by
   have h1:=PD.stD_le Y b p.out i;have h2:i<=1000:=by unfold PD.many at J; have:=HN.out; omega
   rw [O] at h1; omega
  have u:m=PY.length:=by rw [<- e,<- hm]; unfold PD.partY; rw [List.length_take,List.length_drop]; omega
  have hend:=PD.atB_le Y (i+1);have b2:b.length=PM.size Y:=by rw [<- HB.out,PM.expand_length,List.length_nil,Nat.zero_add]
  rw [PD.atB_succ,e,hz] at hend;have b3:z<=bn:=by omega
  have o:z=PB.length:=by rw [<- M]; unfold PD.partB; rw [e,hz,List.length_take,List.length_drop]; omega
  have Q:=PD.partY_mays Y p.out i;rw [e] at Q;have a4:=PD.mays_ok PY _ Q;have y:Ent L fun w=>StAt w V PY:=fun w0 w h=>by
   rw [<- e]; exact(t w0 w h).take 512
  have j:Ent L fun w=>Byt w (.slice BA PB.length bc) PB:=fun w0 w h=>by
   have a:=(hby w0 w h).take z (by rw [List.length_drop]; omega);rw [<- o,<- M];unfold PD.partB;rw [e,hz];exact a
  have b4:=Sa PY PB lb _ Q (by omega) (by have:=a3.out; rw [<- o]; omega);have X:PD.stD Y b (i+1)=G++PD.partD PY PB lb G.length:=by rw [PD.stD,e,M,N,O]
  have d:decide (m=n)=lb:=by
   rw [<- N,decide_eq_decide];unfold PD.many at J;omega
  have c8:decide ((m:Int)=(n:Int))=lb:=by rw [<- d,decide_eq_decide]; omega
  have f1:((m:Int) == (n:Int))=lb:=by rw [<- c8]; rfl
  have f2:(m == n)=lb:=by rw [<- d]; rfl
  have a5:=hid (Tx V m c (PY.map toI) H2 (by rw [List.length_map]; exact u) (by omega) (UE PY a4) (fun w0 w h=>(y w0 w h.tail).toI));rw [VM,hz,O] at a5;have y1:min (n:Int) 512=(m:Int):=by omega
  have y2:(m:Int)<=(c:Int):=by omega
  have y3:(z:Int)<=(bc:Int):=by omega
  have c9:=hid u;have d0:=hid o;have d1:=hid y;have d2:=hid j;have d3:=hid a4;have d4:=hid b4;have b5:=hid X;have Z:=hid t;have a0:=hid hby
  have HM:=hid hm;have r:=hid N;have b6:=hid hz;have a1:=hid e;clear t hby e M O Q a4 y j b4 X hm hz N H2 u o;have d5:m<=512/\m<=n:=by have:=HM.out; omega
  have b7:n<=100000/\z<=10000000/\bn<=10000000:=by have:=HN.out; have:=a3.out; omega
  obtain⟨b7,f3,e5⟩:=b7;have b8:=hid b0;have a2:=hid W;have f4:=hid b2;have e6:=hid hend;have R:=hid J;clear b0 W b2 hend J;go_wp2_with fail
  refine a5.out.mono ?_;rintro _ w2 ⟨rfl,H3⟩;have b9:=hid H3;clear a5 H3;go_wp2_with fail
  refine Zb (L:=L) [some (.slice V n c),some (.int .i64 m),some (.slice V m c),some (.slice BA bn bc),some (.int .i64 z),some (.slice BA z bc),some (.int .i64 m),some (.slice V n c),some (.int .i64 n),some (.bool lb),none,some (.pointer (some ⟨k,0,none⟩)),some (.tuple #[])] (fun ix vx=>match ix with | 10=>(fun vv=>vv=.pointer (some ⟨ptrB vv,0,none⟩)) vx | _=>True) (fun ix vx=>match ix with | 10=>(fun vv=>[Blo (ptrB vv) (.slice V m c) BA bc (BP.of PY PB lb)]) vx | 12=>(fun _=>[WB k (G++PD.partD PY PB lb G.length)]) vx | _=>[]) (fun ix=>match ix with | 12=>[WB k G] | _=>[]) 13 40
   [some 16,some 17,some 18,some 19,some 20,some 21,some 22,some 23,some 24,some 25,some 26,some 27,some 28]
   [[],[],[0,1],[],[],[3,4],[],[],[7],[6,8],[2,5,9],[],[10,11,10]]
   [[],[],[0,1],[],[],[3,4],[],[],[7],[6,7,8],[0,1,2,3,4,5,6,7,8,9],[],[0,1,2,3,4,5,6,7,8,9,10,11]]
   [[],[],[],[],[],[],[],[],[],[],[],[],[10]] [[],[],[],[],[],[],[],[],[],[],[],[],[]] [(0,.slice V n c),(1,.slice BA bn bc),(5,.pointer (some ⟨k,0,none⟩)),(6,.int .i64 m),(7,.int .i64 z)]
   (by kernel_rfl) rfl (by decide) (by rfl) (by decide +kernel) rfl rfl (by simp) (b9.out) ?hstep ?hend
  case hstep =>
   refine⟨?p0,⟨?p1,⟨?p2,⟨?p3,⟨?p4,⟨?p5,⟨?p6,⟨?p7,⟨?p8,⟨?p9,⟨?p10,⟨?p11,⟨?p12,trivial⟩⟩⟩⟩⟩⟩⟩⟩⟩⟩⟩⟩⟩
   case p0 | p1 | p2 | p3 | p4 | p5 | p6 | p7 | p8 | p9 | p11 =>
    intro x wx A C D hF s S H K hK;replace hK:=hid hK;clear s S D;repeat (obtain⟨_,hF⟩:=hF)
    refine so ?_;go_step;exact hK.out _ _ rfl H
   case p10 =>
    intro x wx A C D hF s S H K E;have f5:A.tmps[18]?.getD undef=.slice V m c:=tq s 2;have f6:A.tmps[21]?.getD undef=.slice BA z bc:=tq s 5;have f7:A.tmps[25]?.getD undef=.bool lb:=tq s 9;have hK:=hid E;clear E hF s D;have t:=hid (S _ d1.out);have a6:=hid (S _ HT.out);have HZ:=hid H;clear S H;refine so ?_;go_wp2_with fail
    refine(VT V BA m c z bc PY PB lb HZ.out a6.out c9.out (by omega) t.out d3.out d0.out).mono ?_;rintro _ w9 ⟨g9,rfl,H9⟩;exact hK.out _ _ rfl H9
   case p12 =>
    intro x wx A C D hF s S H K E;have a7:(x 10)=.pointer (some ⟨ptrB (x 10),0,none⟩):=(s 10 (by decide)).1;have d6:A.tmps[26]?.getD undef=x 10:=(s 10 (by decide)).2 26 rfl;have f8:A.tmps[27]?.getD undef=.pointer (some ⟨k,0,none⟩):=tq s 11;replace H:Sp w0 ((WB k G)::(Blo (ptrB (x 10)) (.slice V m c) BA bc (BP.of PY PB lb))::C) wx:=H;have hK:=hid E;clear E hF s D;obtain⟨g9,c1⟩:∃q,ptrB (x 10)=q:=⟨_,rfl⟩;rw [c1] at a7 H;rw [a7] at d6;clear a7 c1;have hby:=hid (S _ d2.out);have a6:=hid (S _ HT.out);clear S;have HP:=H.pick 2 [1];obtain⟨dv,L2,I,c2,c3⟩:=Blo.open2 H hby.out;have d7:=hid I;have d8:=hid c2;have d9:=hid (c3 _ a6.out);clear H I c2 c3 HP;refine so ?_;go_wp2_with fail
    refine(Tz g9 k dv _ G d7.out d8.out d9.out d4.out b1).mono ?_;rintro _ w9 ⟨rfl,H9⟩;rw [TB,T5] at H9;exact hK.out _ _ rfl (Blo.rest H9)
  case hend =>
   intro x wx A hA s H;replace H:Sp w0 ((WB k (G++PD.partD PY PB lb G.length))::L) wx:=H;clear s;simp only [putAll,Act.put,List.setIfInBounds_toArray,List.set_cons_succ,List.set_cons_zero,Nat.reduceAdd] at hA;subst hA;have g:=hid H;clear H b9;have c4:Sp w0 (WB k (PD.stD Y b (i+1))::L) wx:=by rw [b5.out]; exact g.out
   have f:=hid c4;clear c4 g;by_cases hcm:m=c
   ·subst hcm;by_cases j:z=bc
    ·subst j;have q1:(m:Int)<=(n:Int):=by omega
     have q2:(z:Int)<=(bn:Int):=by omega
     go_wp2_with fail
     go_quiet (fail)
     have g:=hid (f.out.drewN nq);clear f;cases lb with
     | true =>
      have T:n - m=0:=by have:=of_decide_eq_true d; omega
      have h1:(n:Int) - (m:Int)=0:=by omega
      have F:i+1=PD.many Y:=by
       have h2:=of_decide_eq_true r.out;have U:=R.out;unfold PD.many at U ⊢;omega
      have a:=g.out;rw [F] at a;have h4:PD.many Y<=1000:=by
       unfold PD.many; have:=HN.out; omega
      have h5:=PD.stD_le Y b p.out (PD.many Y);have HD:=hid (Xq k _ a (by omega));clear h4 h5;clear g a F
      try rw [T]
      go_wp2_with fail
      refine HD.out.mono ?_;rintro _ w5 ⟨v5,rfl,I⟩;go_wp2;go_ret;exact⟨_,rfl,I.pick 2 [0]⟩
     | false =>
      exfalso;have:=of_decide_eq_false d;omega
    ·have c5:¬ (bc:Int)=(z:Int):=by omega
     have q1:(m:Int)<=(n:Int):=by omega
     have q2:(z:Int)<=(bn:Int):=by omega
     go_wp2_with fail
     go_quiet (fail)
     have g:=hid (f.out.drewN nq);clear f;cases lb with
     | true =>
      have T:n - m=0:=by have:=of_decide_eq_true d; omega
      have h1:(n:Int) - (m:Int)=0:=by omega
      have F:i+1=PD.many Y:=by
       have h2:=of_decide_eq_true r.out;have U:=R.out;unfold PD.many at U ⊢;omega
      have a:=g.out;rw [F] at a;have h4:PD.many Y<=1000:=by
       unfold PD.many; have:=HN.out; omega
      have h5:=PD.stD_le Y b p.out (PD.many Y);have HD:=hid (Xq k _ a (by omega));clear h4 h5;clear g a F
      try rw [T]
      go_wp2_with fail
      refine HD.out.mono ?_;rintro _ w5 ⟨v5,rfl,I⟩;go_wp2;go_ret;exact⟨_,rfl,I.pick 2 [0]⟩
     | false =>
      exfalso;have:=of_decide_eq_false d;omega
   ·have e7:¬ (c:Int)=(m:Int):=by omega
    by_cases j:z=bc
    ·subst j;have q1:(m:Int)<=(n:Int):=by omega
     have q2:(z:Int)<=(bn:Int):=by omega
     go_wp2_with fail
     go_quiet (fail)
     have g:=hid (f.out.drewN nq);clear f;cases lb with
     | true =>
      have T:n - m=0:=by have:=of_decide_eq_true d; omega
      have h1:(n:Int) - (m:Int)=0:=by omega
      have F:i+1=PD.many Y:=by
       have h2:=of_decide_eq_true r.out;have U:=R.out;unfold PD.many at U ⊢;omega
      have a:=g.out;rw [F] at a;have h4:PD.many Y<=1000:=by
       unfold PD.many; have:=HN.out; omega
      have h5:=PD.stD_le Y b p.out (PD.many Y);have HD:=hid (Xq k _ a (by omega));clear h4 h5;clear g a F
      try rw [T]
      go_wp2_with fail
      refine HD.out.mono ?_;rintro _ w5 ⟨v5,rfl,I⟩;go_wp2;go_ret;exact⟨_,rfl,I.pick 2 [0]⟩
     | false =>
      have T:m=512/\512<n:=by have:=of_decide_eq_false d; have:=HM.out; omega
      have h1:¬ (n:Int) - (m:Int)=0:=by omega
      have h2:¬ n - m=0:=by omega
      go_wp2_with fail
      go_roundw
      case rel =>
       have e0:=b8.out;have c6:=a2.out;have e1:512 * (i+1)=512 * i+m:=by omega
       have e2:PD.atB Y (i+1)=PD.atB Y i+z:=by rw [PD.atB_succ,a1.out,b6.out]
       refine⟨i+1,V.map (fun x=>x.add (m * 3)),BA,n - m,_,0,0,rfl,rfl,?_,by omega,by omega,by omega,fun w0 w h=>?_,by omega,by omega,by omega,fun w0 w h=>?_,g.out⟩
       ·have U:=of_decide_eq_false r.out;unfold PD.many; omega
       ·have a:=(Z.out w0 w h).drop c m (by rw [List.length_drop]; omega);rw [List.drop_drop,<- e1] at a;unfold subZ at a;rw [if_neg (fun h=>hcm h.symm)] at a;exact a
       ·have a:=(a0.out w0 w h).dropZ z b3;rw [List.drop_drop,<- e2] at a;unfold subZ at a;rw [if_pos rfl] at a;rw [show bn - z=0 by omega,Nat.sub_self] at a; exact a
      case measure=>first | (simp [intOf]; omega) | omega | simp [intOf]
    ·have c5:¬ (bc:Int)=(z:Int):=by omega
     have q1:(m:Int)<=(n:Int):=by omega
     have q2:(z:Int)<=(bn:Int):=by omega
     go_wp2_with fail
     go_quiet (fail)
     have g:=hid (f.out.drewN nq);clear f;cases lb with
     | true =>
      have T:n - m=0:=by have:=of_decide_eq_true d; omega
      have h1:(n:Int) - (m:Int)=0:=by omega
      have F:i+1=PD.many Y:=by
       have h2:=of_decide_eq_true r.out;have U:=R.out;unfold PD.many at U ⊢;omega
      have a:=g.out;rw [F] at a;have h4:PD.many Y<=1000:=by
       unfold PD.many; have:=HN.out; omega
      have h5:=PD.stD_le Y b p.out (PD.many Y);have HD:=hid (Xq k _ a (by omega));clear h4 h5;clear g a F
      try rw [T]
      go_wp2_with fail
      refine HD.out.mono ?_;rintro _ w5 ⟨v5,rfl,I⟩;go_wp2;go_ret;exact⟨_,rfl,I.pick 2 [0]⟩
     | false =>
      have T:m=512/\512<n:=by have:=of_decide_eq_false d; have:=HM.out; omega
      have h1:¬ (n:Int) - (m:Int)=0:=by omega
      have h2:¬ n - m=0:=by omega
      go_wp2_with fail
      go_roundw
      case rel =>
       have e0:=b8.out;have c6:=a2.out;have e1:512 * (i+1)=512 * i+m:=by omega
       have e2:PD.atB Y (i+1)=PD.atB Y i+z:=by rw [PD.atB_succ,a1.out,b6.out]
       refine⟨i+1,V.map (fun x=>x.add (m * 3)),BA.map (fun x=>x.add z),n - m,_,bn - z,_,rfl,rfl,?_,by omega,by omega,by omega,fun w0 w h=>?_,by omega,by omega,by omega,fun w0 w h=>?_,g.out⟩
       ·have U:=of_decide_eq_false r.out;unfold PD.many; omega
       ·have a:=(Z.out w0 w h).drop c m (by rw [List.length_drop]; omega);rw [List.drop_drop,<- e1] at a;unfold subZ at a;rw [if_neg (fun h=>hcm h.symm)] at a;exact a
       ·have a:=(a0.out w0 w h).dropZ z b3;rw [List.drop_drop,<- e2] at a;unfold subZ at a;rw [if_neg (fun h=>j h.symm)] at a;first | exact a | simpa using a
      case measure=>first | (simp [intOf]; omega) | omega | simp [intOf]
namespace PD
def defl (b:List UInt8):List UInt8:=stream (PM.Cut b 64) b
theorem defl_mays (b:List UInt8):PM.mays (PM.Cut b 64) 0:=PM.cut_mays b 64 0
theorem defl_exp (b:List UInt8):PM.expand (PM.Cut b 64) []=b:=PM.cut_back0 b 64
theorem defl_size (b:List UInt8):PM.size (PM.Cut b 64)=b.length:=by
 have h:=PM.cut_size b 64 0;have:max 0 b.length=b.length:=by omega
 rw [this] at h;show PM.size (PM.cutAt b 64 0)=_;omega
def deflN (b:List UInt8):Nat:=(bitsD (PM.Cut b 64) b).length
theorem defl_len (b:List UInt8):(defl b).length=(deflN b+7) / 8:=stream_len _ _
theorem defl_behind (b r:List UInt8) (most:Nat) (h:b.length<=most):PI.all (PBits.ofB (defl b++r)) most=.ok (deflN b,b,blksD (PM.Cut b 64) b):=by
 have a:=stream_behind (PM.Cut b 64) (defl_mays b) r most (by rw [defl_size]; exact h);rw [defl_exp] at a;exact a
end PD
theorem TC (BA:Option Addr) (n c:Nat) (b:List UInt8) {TL TF:Option Addr} {cl cf:Nat} (H:Sp w0 L w) (hT:Ent L (DTabs TL TF cl cf)) (hn:n=b.length) (hnm:n<=100000) (hc:n<=c) (hcm:c<=maxLen) (hb:Ent L fun w=>Byt w (.slice BA n c) b) :
  Calls Tryz.prog 33 #[.slice BA n c] w fun e w'=>∃v,e=.returned (.tuple #[v,.int .i64 0])/\Sp w0 (Row 5 1 v (PD.defl b).length (cells8 (PD.defl b))::L) w':=by
 have u:=hid hT;have x:=hid hn;have z:=hid hb;have G:¬ (n:Int) > 16777216:=by omega
 have a:=T2 n 64 BA c b H hn hb (by omega);have i:cutL b 64=PM.Cut b 64:=by unfold cutL; rw [if_pos ⟨by decide,by decide⟩]; rfl
 rw [i] at a;have j:cutE 64=0:=rfl;rw [j] at a;have d:=PD.defl_mays b;have f:=PD.defl_exp b;have g:(PM.Cut b 64).length<=b.length:=PM.cut_length b 64 0;unfold PD.defl;obtain⟨Y,q⟩:∃Y,PM.Cut b 64=Y:=⟨_,rfl⟩;rw [q] at a d f g ⊢;obtain⟨y,k⟩:∃y,Y.length=y:=⟨_,rfl⟩;rw [k] at a g;have l:y<=100000:=by omega
 have r:=hid a;have A:=hid d;have B:=hid f;have C:=hid k;clear hT hn hb a i j d f q k g H;go_enter Tryz.func33,Tryz.ntmps33
 go_wp2_with fail
 refine r.out.mono ?_;rintro _ I ⟨J,rfl,m⟩;obtain⟨V,D,rfl,o,p⟩:=Row.form m 0 rfl;have s:=hid (WV V BA y D n c Y b m (fun w0 w h=>u.out w0 w h.tail) C.out.symm l o p (fun w0 w h=>h.stAt 0 rfl) A.out B.out x.out (by omega) hc hcm (fun w0 w h=>z.out w0 w h.tail));clear r m;go_wp2_with fail
 refine s.out.mono ?_;rintro _ K ⟨E,rfl,t⟩;have F:=t.pick 2 [0];clear s t;go_wp2;go_ret2;exact⟨E,rfl,F⟩
namespace PG
def tailW (b:List UInt8):List UInt8:=low (PCrc.of b) 4++low b.length 4
theorem tailW_len (b:List UInt8):(tailW b).length=8:=by unfold tailW; rw [List.length_append,low_len,low_len]
def put (h:Hd) (b:List UInt8):List UInt8:=lay h++(PD.defl b++tailW b)
def ends (B out:List UInt8):Nat:=if B.length<8 then 4 else if num (B.take 4)≠PCrc.of out∨num ((B.drop 4).take 4)≠out.length % 4294967296 then 21 else 0
def get (B:List UInt8) (most:Nat):Except Nat (Hd × List UInt8 × Nat) :=
 match head B with
 | .error e=>.error e
 | .ok r=>match PI.all (PBits.ofB (B.drop r.2)) most with
  | .error e=>.error e
  | .ok a=>if ends (B.drop (r.2+(a.1+7) / 8)) a.2.1≠0 then .error (ends (B.drop (r.2+(a.1+7) / 8)) a.2.1) else .ok (r.1,a.2.1,r.2+(a.1+7) / 8+8)
theorem ends_tail (b r:List UInt8) (hb:b.length<4294967296):ends (tailW b++r) b=0:=by
 unfold ends;have a:(tailW b++r).take 4=low (PCrc.of b) 4:=by
  unfold tailW;rw [List.append_assoc,List.take_append,low_len,Nat.sub_self,List.take_zero,List.append_nil,List.take_of_length_le (by rw [low_len]; exact Nat.le_refl _)]
 have c:((tailW b++r).drop 4).take 4=low b.length 4:=by
  unfold tailW;rw [List.append_assoc,List.drop_append,low_len,Nat.sub_self,List.drop_zero,List.drop_of_length_le (by rw [low_len]; exact Nat.le_refl _),List.nil_append,List.take_append,low_len,Nat.sub_self,List.take_zero,List.append_nil,List.take_of_length_le (by rw [low_len]; exact Nat.le_refl _)]
 rw [if_neg (by rw [List.length_append,tailW_len]; omega),a,c,num_low,num_low,if_neg];rintro(q | q)
 ·exact q (Nat.mod_eq_of_lt (PCrc.of_lt b))
 ·exact q rfl
theorem put_len (h:Hd) (b:List UInt8):(put h b).length=(lay h).length+((PD.defl b).length+8):=by
 unfold put;rw [List.length_append,List.length_append,tailW_len]
end PG
namespace PD
theorem defl_le2 (b:List UInt8) (h:b.length<=10000):(defl b).length<=72000:=by
 have a:=stD_le (PM.Cut b 64) b (defl_mays b) (many (PM.Cut b 64));have c:(PM.Cut b 64).length<=b.length:=PM.cut_length b 64 0;have d:many (PM.Cut b 64)<=20:=by unfold many; omega
 rw [defl_len];unfold deflN bitsD;omega
end PD
theorem Wq (h:PG.Hd) (ho:PG.Ok h):(PG.lay h).length<=200000:=by
 obtain⟨_,c,_,a,b⟩:=ho;have a:=a.1;have b:=b.1;have d:(PG.exW h).length<=65537:=by unfold PG.exW; split; rw [List.length_append,PG.low_len]; omega; simp
 have e:(PG.txW h.flags 8 h.name).length<=65536:=by unfold PG.txW; split; rw [List.length_append,List.length_singleton]; omega; simp
 have f:(PG.txW h.flags 16 h.note).length<=65536:=by unfold PG.txW; split; rw [List.length_append,List.length_singleton]; omega; simp
 have g:(PG.suW h.flags (PG.lay0 h)).length<=2:=by unfold PG.suW; split; rw [PG.low_len]; exact Nat.le_refl _; simp
 unfold PG.lay;rw [List.length_append];have i:(PG.lay0 h).length<=10+65537+65536+65536:=by
  unfold PG.lay0;simp only [List.length_append,PG.low_len,List.length_cons,List.length_nil];omega
 omega
theorem VU (h:PG.Hd) (B0:Option Addr) (n c:Nat) (BA:Option Addr) (nb cb:Nat) (H:Sp w0 L w) (hn:n=h.extra.length) (hok:PG.Ok h) (ht:h.time<4294967296) (hbx:Ent L fun w=>Byt w (.slice B0 n c) h.extra) (hct:Ent L CrcTab) {TL TF:Option Addr} {cl cf:Nat} (hT:Ent L (DTabs TL TF cl cf)) (b:List UInt8) (hnb:nb=b.length) (hnm:nb<=10000) (hcb:nb<=cb) (hcm:cb<=maxLen) (hb:Ent L fun w=>Byt w (.slice BA nb cb) b) :
  Calls Tryz.prog 9 #[.agg (hdV h (.slice B0 n c)).toArray,.slice BA nb cb] w fun e w'=>∃v,e=.returned (.tuple #[v,.int .i64 0])/\Sp w0 (Row 5 1 v (PG.put h b).length (cells8 (PG.put h b))::L) w':=by
 have r:h.name.length<=maxLen:=by have:=hok.2.2.2.1.1; unfold maxLen; omega
 have s:h.note.length<=maxLen:=by have:=hok.2.2.2.2.1; unfold maxLen; omega
 have j:decide (PG.Ok h)=true:=decide_eq_true hok;have y1:¬ (nb:Int) > 16777216:=by omega
 have HT:=hid ht;have t:=hid hct;have M:=hid hbx;have N:=hid hT;have d:=hid hnb;have HB:=hid hb;have f:=hid hok;have HN:=hid hn.symm;have O:=hid hcb;have Q:=hid hcm;have i:=H.newBk [.int .u8 h.flags.toNat,.int .u8 h.level.toNat,.int .u8 h.system.toNat,.int .u32 h.time,.slice B0 n c,.string (strOf h.name),.string (strOf h.note)] 28;have R:(w.alloc (.cells #[.int .u8 h.flags.toNat,.int .u8 h.level.toNat,.int .u8 h.system.toNat,.int .u32 h.time,.slice B0 n c,.string (strOf h.name),.string (strOf h.note)] 28)).cell? ⟨w.heap.size,0,none⟩=some (.int .u8 h.flags.toNat):=i.cell 0 rfl 0;have S:(w.alloc (.cells #[.int .u8 h.flags.toNat,.int .u8 h.level.toNat,.int .u8 h.system.toNat,.int .u32 h.time,.slice B0 n c,.string (strOf h.name),.string (strOf h.note)] 28)).cell? ⟨w.heap.size,1,none⟩=some (.int .u8 h.level.toNat):=i.cell 0 rfl 1;have T:(w.alloc (.cells #[.int .u8 h.flags.toNat,.int .u8 h.level.toNat,.int .u8 h.system.toNat,.int .u32 h.time,.slice B0 n c,.string (strOf h.name),.string (strOf h.note)] 28)).cell? ⟨w.heap.size,2,none⟩=some (.int .u8 h.system.toNat):=i.cell 0 rfl 2;have U:(w.alloc (.cells #[.int .u8 h.flags.toNat,.int .u8 h.level.toNat,.int .u8 h.system.toNat,.int .u32 h.time,.slice B0 n c,.string (strOf h.name),.string (strOf h.note)] 28)).cell? ⟨w.heap.size,3,none⟩=some (.int .u32 h.time):=i.cell 0 rfl 3;have V:(w.alloc (.cells #[.int .u8 h.flags.toNat,.int .u8 h.level.toNat,.int .u8 h.system.toNat,.int .u32 h.time,.slice B0 n c,.string (strOf h.name),.string (strOf h.note)] 28)).cell? ⟨w.heap.size,4,none⟩=some (.slice B0 n c):=i.cell 0 rfl 4;have W:(w.alloc (.cells #[.int .u8 h.flags.toNat,.int .u8 h.level.toNat,.int .u8 h.system.toNat,.int .u32 h.time,.slice B0 n c,.string (strOf h.name),.string (strOf h.note)] 28)).cell? ⟨w.heap.size,5,none⟩=some (.string (strOf h.name)):=i.cell 0 rfl 5;have X:(w.alloc (.cells #[.int .u8 h.flags.toNat,.int .u8 h.level.toNat,.int .u8 h.system.toNat,.int .u32 h.time,.slice B0 n c,.string (strOf h.name),.string (strOf h.note)] 28)).cell? ⟨w.heap.size,6,none⟩=some (.string (strOf h.note)):=i.cell 0 rfl 6;have HM:=hid (Ta h B0 n c hn i r s);clear i hok hcm hcb hct hbx hT hnb hb H ht r s hn;unfold hdV;go_enter Tryz.func9,Tryz.ntmps9
 go_wp2_with fail
 refine HM.out.mono ?_;rintro _ w1 ⟨rfl,u⟩;clear HM R S T U V W X;generalize w.heap.size=g at u ⊢;have u:Sp w0 (Bk g 28 (hdV h (.slice B0 n c))::L) w1:=u;rw [j];clear j;have G:=hid (TC BA nb cb b u (fun _ _ q=>N.out _ _ q.tail) d.out (by omega) O.out Q.out (fun _ _ q=>HB.out _ _ q.tail));have x:=PD.defl_le2 b (by rw [<- d.out]; exact hnm);obtain⟨P,Z⟩:∃P,PD.defl b=P:=⟨_,rfl⟩;rw [Z] at G x;have HP:=hid Z;obtain⟨np,k⟩:∃np,P.length=np:=⟨_,rfl⟩;rw [k] at G x;have y:=hid k;clear Z k;go_wp2_with fail
 refine G.out.mono ?_;rintro _ l ⟨v2,rfl,a⟩;obtain⟨A2,d2,rfl,_,_⟩:=Row.form a 0 rfl;clear G u;have R:l.cell? ⟨g,0,none⟩=some (.int .u8 h.flags.toNat):=a.cell 1 rfl 0;have S:l.cell? ⟨g,1,none⟩=some (.int .u8 h.level.toNat):=a.cell 1 rfl 1;have T:l.cell? ⟨g,2,none⟩=some (.int .u8 h.system.toNat):=a.cell 1 rfl 2;have U:l.cell? ⟨g,3,none⟩=some (.int .u32 h.time):=a.cell 1 rfl 3;have V:l.cell? ⟨g,4,none⟩=some (.slice B0 n c):=a.cell 1 rfl 4;have W:l.cell? ⟨g,5,none⟩=some (.string (strOf h.name)):=a.cell 1 rfl 5;have X:l.cell? ⟨g,6,none⟩=some (.string (strOf h.note)):=a.cell 1 rfl 6;have I:=hid (Td h B0 n c a HN.out (fun _ _ q=>M.out _ _ q.tail2) HT.out (fun _ _ q=>t.out _ _ q.tail2) (by have:=f.out.2.1; rw [HN.out] at this; exact this) f.out.2.2.2.1.1 f.out.2.2.2.2.1);have A:=Wq h f.out;obtain⟨Y,hY⟩:∃Y,PG.lay h=Y:=⟨_,rfl⟩;rw [hY] at I A;have HY:=hid hY;obtain⟨ny,m⟩:∃ny,Y.length=ny:=⟨_,rfl⟩;rw [m] at I A;have B:=hid m;clear hY m;go_wp2_with fail
 refine I.out.mono ?_;rintro _ w3 ⟨v3,rfl,J⟩;obtain⟨A3,d3,rfl,_,_⟩:=Row.form J 0 rfl;clear I a R S T U V W X;have o:=J.newBk [.slice BA nb cb] 23;have C:=hid (Xf o 0 rfl (HB.out _ _ (o.pick 4 [])) (t.out _ _ (o.pick 4 [])) (by rw [<- d.out]; omega));clear o;have K9:=J;clear J;go_wp2_with fail
 refine C.out.mono ?_;rintro _ w4 ⟨rfl,o⟩;clear C K9;have D:=PCrc.of_lt b;obtain⟨z,K⟩:∃z,PCrc.of b=z:=⟨_,rfl⟩;rw [K] at D;rw [K];have HZ:=hid K;clear K;have E:=hid (Yy z 4 D (by decide) (o.pick 3 [1,2]));clear o;go_wp2_with fail
 refine E.out.mono ?_;rintro _ w5 ⟨v5,rfl,K5⟩;obtain⟨A5,d5,rfl,_,_⟩:=Row.form K5 0 rfl;clear E;have E:=hid (Yy nb 4 (by omega) (by decide) K5);clear K5;go_wp2_with fail
 refine E.out.mono ?_;rintro _ w6 ⟨v6,rfl,K6⟩;obtain⟨A6,d6,rfl,_,_⟩:=Row.form K6 0 rfl;clear E;have K7:=K6.newBk [.slice A3 ny d3,.slice A2 np d2,.slice A5 4 d5,.slice A6 4 d6] 23;have F:=hid (WD ⟨w6.heap.size,0,none⟩ 4 4 [⟨A3,ny,d3,cells8 Y⟩,⟨A2,np,d2,cells8 P⟩,⟨A5,4,d5,cells8 (PG.low z 4)⟩,⟨A6,4,d6,cells8 (PG.low nb 4)⟩] K7 rfl (fun _ _ q=>Rd.of_blk (q.blk 0 rfl)) (by
  intro q p;rcases List.mem_cons.1 p with rfl | p
  ·exact⟨by rw [Zo,B.out],fun _ _ q=>rowRd q 3 rfl,Zh _⟩
  rcases List.mem_cons.1 p with rfl | p
  ·exact⟨by rw [Zo,y.out],fun _ _ q=>rowRd q 4 rfl,Zh _⟩
  rcases List.mem_cons.1 p with rfl | p
  ·exact⟨by rw [Zo,PG.low_len],fun _ _ q=>rowRd q 2 rfl,Zh _⟩
  rw [List.mem_singleton.1 p];exact⟨by rw [Zo,PG.low_len],fun _ _ q=>rowRd q 1 rfl,Zh _⟩) (by show ny+(np+(4+(4+0)))<=1000000; omega) (by decide))
 clear K6 K7;go_wp2_with fail
 refine F.out.mono ?_;rintro _ w7 ⟨v7,rfl,K8⟩;clear F;have e1:PG.put h b=Y++(P++(PG.low z 4++PG.low nb 4)):=by
  unfold PG.put PG.tailW;rw [HY.out,HP.out,HZ.out,<- d.out]
 have KZ:Hid (Sp w0 (Row 5 1 v7 (PG.put h b).length (cells8 (PG.put h b))::L) w7):=by
  have e2:(PG.put h b).length=ny+(np+(4+(4+0))):=by
   rw [e1]; simp only [List.length_append,PG.low_len,B.out,y.out]
  have e3:cells8 (PG.put h b)=cells8 Y++(cells8 P++(cells8 (PG.low z 4)++(cells8 (PG.low nb 4)++[]))):=by
   rw [e1,Zg,Zg,Zg,List.append_nil]
  rw [e2,e3];exact hid (K8.pick 7 [0])
 clear K8 e1;go_wp2_with fail
 go_ret2;exact⟨_,rfl,KZ.out⟩
end Go.Proofs.YtnjpnmpemhldcaaGreatDoor

