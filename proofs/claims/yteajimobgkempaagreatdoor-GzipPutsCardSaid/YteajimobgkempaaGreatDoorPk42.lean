/- A pack. -/
import Derived.Test.YteajimobgkempaaGreatDoorPk38
import Derived.Test.YteajimobgkempaaGreatDoorPk39
set_option linter.all false
set_option maxRecDepth 100000
set_option maxHeartbeats 8000000
namespace Go.Proofs.YteajimobgkempaaGreatDoor
variable {w0 w:World} {L:List Pr}
open Go.RowKit
def subZ (A:Option Addr) (c q z:Nat):Option Addr:=if c=q then A else A.map (·.add (q * z))
theorem StAt.take {w:World} {V:Option Addr} {Y:List PM.St} (h:StAt w V Y) (k:Nat):StAt w V (Y.take k):=fun i hi=>by
 rw [List.length_take] at hi;obtain⟨a,e,b,c,d⟩:=h i (by omega);refine⟨a,e,?_,?_,?_⟩
 ·rw [List.getElem_take]; exact b
 ·rw [List.getElem_take]; exact c
 ·rw [List.getElem_take]; exact d
theorem StAt.drop {w:World} {V:Option Addr} {Y:List PM.St} (h:StAt w V Y) (c k:Nat) (hc:Y.length<=c):StAt w (subZ V c k 3) (Y.drop k):=fun i hi=>by
 rw [List.length_drop] at hi;obtain⟨a,rfl,b,d,e⟩:=h (k+i) (by omega);unfold subZ;rw [if_neg (by omega)];refine⟨a.add (k * 3),rfl,?_,?_,?_⟩
 ·rw [List.getElem_drop,Go.Addr.add_add,show k * 3+i * 3=(k+i) * 3 by omega]; exact b
 ·rw [List.getElem_drop,Go.Addr.add_add,show k * 3+i * 3=(k+i) * 3 by omega]; exact d
 ·rw [List.getElem_drop,Go.Addr.add_add,show k * 3+i * 3=(k+i) * 3 by omega]; exact e
theorem Byt.dropZ {w:World} {A:Option Addr} {n c:Nat} {l:List UInt8} (h:Byt w (.slice A n c) l) (k:Nat) (hk:k<=n):Byt w (.slice (subZ A c k 1) (n - k) (c - k)) (l.drop k):=by
 unfold subZ;by_cases e:c=k
 ·rw [if_pos e]; exact h.drop0 k hk e
 ·rw [if_neg e];have a:=h.drop k hk;rw [Nat.mul_one]; exact a
def ptrB:Value->Nat
 | .pointer (some a)=>a.block
 | _=>0
theorem Blo.open2 {X:Pr} {g:Nat} {sv:Value} {BA:Option Addr} {bc:Nat} {p:BP} (H:Sp w0 (X::Blo g sv BA bc p::L) w) (hby:Ent L fun w=>Byt w (.slice BA p.b.length bc) p.b):∃dv L2,Sp w0 (X::(L2++L)) w/\Ent (L2++L) (DBr g dv p)/\∀φ,Ent L φ->Ent (L2++L) φ:=by
 obtain⟨dv,H⟩:=(H.pick 2 [1,0]).unex;have a:=H.unstar;have c:=(a.pick 3 [1,0,2]).unstar;have d:=(c.pick 4 [1,0,2,3]).unstar;have e:=(d.pick 5 [1,0,2,3,4]).unstar;have f:=(e.pick 6 [1,0,2,3,4,5]).unstar;exact⟨{ dv with b:=BA,bc:=bc },[_,_,_,_,_,_],f.pick 7 [6,5,4,3,2,0,1],fun w0 w h=>⟨h.cell 0 rfl 1,h.cell 0 rfl 2,h.cell 0 rfl 3,h.cell 0 rfl 4,h.cell 0 rfl 5,h.cell 0 rfl 6,h.cell 0 rfl 7,hby _ _ (h.pick 6 []),rowRd h 1 rfl,rowRd h 2 rfl,rowRd h 3 rfl,rowRd h 4 rfl,rowRd h 5 rfl⟩,fun φ hφ w0 w h=>hφ _ _ (h.pick 6 [])⟩
theorem Blo.rest {X:Pr} {L L2:List Pr} (H:Sp w0 (X::(L2++L)) w):Sp w0 (X::L) w:=by
 have h:=H.pick (1+L2.length) [0] ⟨by simp,by intro i a; simp at a; omega⟩;have e:(X::(L2++L)).drop (1+L2.length)=L:=by
  rw [show 1+L2.length=L2.length+1 by omega,List.drop_succ_cons,List.drop_left]
 rw [e] at h;exact h
namespace PD
theorem layD0_len (Y:List PM.St) (b:List UInt8) (last:Bool) (a:Nat):(layD 0 Y b last a).length=3+pad (a+3)+32+8 * b.length:=by
 unfold layD bodyD PI.storedW;rw [if_pos rfl];simp only [List.length_append,PBits.bitsOf_length,List.length_singleton,List.length_replicate,PBits.ofB_length];omega
theorem layD1_len (Y:List PM.St) (b:List UInt8) (last:Bool) (a:Nat):(layD 1 Y b last a).length=fixN Y:=by
 unfold layD bodyD fixN;rw [if_neg (by decide),if_pos rfl];simp only [List.length_append,PBits.bitsOf_length,List.length_singleton]
theorem layD2_len (Y:List PM.St) (b:List UInt8) (last:Bool) (a:Nat):(layD 2 Y b last a).length=dynN Y:=by
 unfold layD bodyD dynN;rw [if_neg (by decide),if_neg (by decide)];simp only [List.length_append,PBits.bitsOf_length,List.length_singleton]
theorem partD_le (Y:List PM.St) (b:List UInt8) (last:Bool) (a:Nat):(partD Y b last a).length<=fixN Y/\(partD Y b last a).length<=dynN Y/\(b.length<=65535->(partD Y b last a).length<=3+pad (a+3)+32+8 * b.length):=by
 unfold partD;have c:kind Y b a=pick (sto b.length a) (fixN Y) (dynN Y):=rfl;have m:=fun h=>kind_sto (Y:=Y) (b:=b) (a:=a) h;have l:=layD0_len Y b last a;have g:=layD1_len Y b last a;have e:=layD2_len Y b last a;generalize fixN Y=f at *;generalize dynN Y=d at *;have i:∀h:b.length<=65535,sto b.length a=((3+pad (a+3)+32+8 * b.length:Nat):Int):=fun h=>by unfold sto; rw [if_pos h]
 have j:¬ b.length<=65535->sto b.length a = -1:=fun h=>by unfold sto; rw [if_neg h]
 generalize sto b.length a=s at *;generalize 3+pad (a+3)+32+8 * b.length=q at *;unfold pick at c;by_cases k:b.length<=65535
 ·have i:=i k;rw [if_pos (by omega)] at c;split at c
  ·split at c
   ·rw [c,e]; omega
   ·rw [c,g]; omega
  ·split at c
   ·rw [c,e]; omega
   ·rw [c,l]; omega
 ·have j:=j k;rw [if_neg (by omega)] at c;split at c
  ·rw [c,e]; omega
  ·rw [c,g]; omega
theorem fixN_le (Y:List PM.St) (n:Nat) (hY:PM.mays Y n):fixN Y<=3+28 * (2 * Y.length+1):=by
 unfold fixN fixW;have a:=words_ok (A:=PI.fixedL) (B:=PI.fixedD) hY (fun s _ hs=>PI.fixed_has s (by omega)) (fun s _ hs=>PI.fixed_hasD s (by omega));have h:=ZP fl15 fd15 (words Y) a;rw [lay_words] at h;have:=words_len Y;omega
theorem partY_len (Y:List PM.St) (i:Nat):(partY Y i).length<=512:=by unfold partY; rw [List.length_take]; omega
theorem partY_mays (Y:List PM.St) (hY:PM.mays Y 0) (i:Nat):PM.mays (partY Y i) (atB Y i):=by
 have b:PM.mays (Y.take (512 * i)++(partY Y i++Y.drop (512 * (i+1)))) 0:=by
  rw [<- List.append_assoc,<- take_parts,List.take_append_drop]; exact hY
 have a:=((mays_app _ _ _).1 ((mays_app _ _ _).1 b).2).1;rw [Nat.zero_add] at a;exact a
theorem stD_le (Y:List PM.St) (b:List UInt8) (hY:PM.mays Y 0) (i:Nat):(stD Y b i).length<=28703 * i:=by
 induction i with
 | zero=>exact Nat.le_refl _
 | succ i ih =>
  rw [stD,List.length_append];have a:=(partD_le (partY Y i) (partB Y b i) (decide (Y.length<=512 * (i+1))) (stD Y b i).length).1;have c:=fixN_le _ _ (partY_mays Y hY i);have d:=partY_len Y i;omega
end PD
theorem UM (X:List PM.St) (h:∀s ∈ X,PD.StOk s):∀s ∈ X.map toI,s.1<=1000000:=by
 intro s a;obtain⟨t,b,rfl⟩:=List.mem_map.1 a;rcases h t b with h | h
 ·show(t.1:Int)<=_; omega
 ·show(t.1:Int)<=_; omega
theorem WX (V0 BA0:Option Addr) (n0 c0 bn0 bc0:Nat) (Y:List PM.St) (b:List UInt8) {TL TF:Option Addr} {cl cf:Nat} (H:Sp w0 L w) (hT:Ent L (DTabs TL TF cl cf)) (hn:n0=Y.length) (hnm:n0<=100000) (hc:n0<=c0) (hcm:c0<=maxLen) (h:Ent L fun w=>StAt w V0 Y) (hY:PM.mays Y 0)
  (hb:PM.expand Y []=b) (hbn:bn0=b.length) (hbm:bn0<=10000000) (hbc:bn0<=bc0) (hbcm:bc0<=maxLen) (hby:Ent L fun w=>Byt w (.slice BA0 bn0 bc0) b) :
  Calls Tryz.prog 24 #[.slice V0 n0 c0,.slice BA0 bn0 bc0] w (Ret fun v w'=>Sp w0 (Row 5 1 v (PD.stream Y b).length (cells8 (PD.stream Y b))::L) w'):=by
 have HT:=hid hT;have X:=hid hn;have a4:=hid h;have l:=hid hY;have HB:=hid hb;have Z:=hid hbn;have a5:=hid hby
 have d7:c0<=9223372036854775807:=hcm;have c3:bc0<=9223372036854775807:=hbcm;clear hT hn h hY hb hbn hby hcm hbcm;go_enter Tryz.func24,Tryz.ntmps24
 go_wp2_with fail
 refine(TR H).mono ?_;rintro _ w1 ⟨_,rfl,q,rfl,H1⟩;clear H;go_wp2_with fail
 go_loopw [0,1] (fun lv bv wr=>∃(i:Nat) (V BA:Option Addr) (n c bn bc:Nat),lv=.slice V n c/\bv=.slice BA bn bc/\i<PD.many Y/\n=Y.length - 512 * i/\n<=c/\c<=c0/\(Ent L fun w=>StAt w V (Y.drop (512 * i)))/\bn=b.length - PD.atB Y i/\bn<=bc/\bc<=bc0/\(Ent L fun w=>Byt w (.slice BA bn bc) (b.drop (PD.atB Y i)))/\Sp w0 (WB q (PD.stD Y b i)::L) wr) (fun lv _ _=>match lv with | .slice _ n _=>n | _=>0)
 case atStart =>
  refine⟨0,V0,BA0,n0,c0,bn0,bc0,rfl,rfl,by unfold PD.many; omega,by rw [X.out]; rfl,hc,Nat.le_refl _,a4.out,?_,hbc,Nat.le_refl _,?_,H1⟩
  ·show bn0=b.length - 0; rw [Z.out]; rfl
  ·exact a5.out
 case round =>
  obtain⟨i,V,BA,n,c,bn,bc,rfl,rfl,E,a6,e4,e5,r,Q,e6,d8,hby,H2⟩:=hrel;clear H1;obtain⟨m,hm⟩:=exq (min n 512);obtain⟨PY,e⟩:=exq (PD.partY Y i);obtain⟨PB,F⟩:=exq (PD.partB Y b i);obtain⟨z,hz⟩:=exq (PM.size PY);obtain⟨lb,G⟩:=exq (decide (Y.length<=512 * (i+1)));obtain⟨B1,I⟩:=exq (PD.stD Y b i);have a7:B1.length<=800000000:=by
   have h1:=PD.stD_le Y b l.out i;have h2:i<=1000:=by unfold PD.many at E; have:=X.out; omega
   rw [I] at h1; omega
  have s:m=PY.length:=by rw [<- e,<- hm]; unfold PD.partY; rw [List.length_take,List.length_drop]; omega
  have hend:=PD.atB_le Y (i+1);have a8:b.length=PM.size Y:=by rw [<- HB.out,PM.expand_length,List.length_nil,Nat.zero_add]
  rw [PD.atB_succ,e,hz] at hend;have a9:z<=bn:=by omega
  have k:z=PB.length:=by rw [<- F]; unfold PD.partB; rw [e,hz,List.length_take,List.length_drop]; omega
  have J:=PD.partY_mays Y l.out i;rw [e] at J;have a0:=PD.mays_ok PY _ J;have t:Ent L fun w=>StAt w V PY:=fun w0 w h=>by
   rw [<- e]; exact(r w0 w h).take 512
  have j:Ent L fun w=>Byt w (.slice BA PB.length bc) PB:=fun w0 w h=>by
   have a:=(hby w0 w h).take z (by rw [List.length_drop]; omega);rw [<- k,<- F];unfold PD.partB;rw [e,hz];exact a
  have b0:=TV PY PB lb _ J (by omega) (by have:=Z.out; rw [<- k]; omega);have R:PD.stD Y b (i+1)=B1++PD.partD PY PB lb B1.length:=by rw [PD.stD,e,F,G,I]
  have d:decide (m=n)=lb:=by
   rw [<- G,decide_eq_decide];unfold PD.many at E;omega
  have c4:decide ((m:Int)=(n:Int))=lb:=by rw [<- d,decide_eq_decide]; omega
  have e7:((m:Int) == (n:Int))=lb:=by rw [<- c4]; rfl
  have e8:(m == n)=lb:=by rw [<- d]; rfl
  have a1:=hid (Tt V m c (PY.map toI) H2 (by rw [List.length_map]; exact s) (by omega) (UM PY a0) (fun w0 w h=>(t w0 w h.tail).toI));rw [VK,hz,I] at a1;have y1:min (n:Int) 512=(m:Int):=by omega
  have y2:(m:Int)<=(c:Int):=by omega
  have y3:(z:Int)<=(bc:Int):=by omega
  have c5:=hid s;have c6:=hid k;have c7:=hid t;have c8:=hid j;have c9:=hid a0;have d0:=hid b0;have b1:=hid R;have S:=hid r;have T:=hid hby
  have HM:=hid hm;have o:=hid G;have b2:=hid hz;have U:=hid e;clear r hby e F I J a0 t j b0 R hm hz G H2 s k;have d1:m<=512/\m<=n:=by have:=HM.out; omega
  have b3:n<=100000/\z<=10000000/\bn<=10000000:=by have:=X.out; have:=Z.out; omega
  obtain⟨b3,e9,d9⟩:=b3;have b4:=hid a6;have W:=hid Q;have f0:=hid a8;have e0:=hid hend;have M:=hid E;clear a6 Q a8 hend E;go_wp2_with fail
  refine a1.out.mono ?_;rintro _ w2 ⟨rfl,H3⟩;have b5:=hid H3;clear a1 H3;go_wp2_with fail
  refine Zb (L:=L) [some (.slice V n c),some (.int .i64 m),some (.slice V m c),some (.slice BA bn bc),some (.int .i64 z),some (.slice BA z bc),some (.int .i64 m),some (.slice V n c),some (.int .i64 n),some (.bool lb),none,some (.pointer (some ⟨q,0,none⟩)),some (.tuple #[])] (fun ix vx=>match ix with | 10=>(fun vv=>vv=.pointer (some ⟨ptrB vv,0,none⟩)) vx | _=>True) (fun ix vx=>match ix with | 10=>(fun vv=>[Blo (ptrB vv) (.slice V m c) BA bc (BP.of PY PB lb)]) vx | 12=>(fun _=>[WB q (B1++PD.partD PY PB lb B1.length)]) vx | _=>[]) (fun ix=>match ix with | 12=>[WB q B1] | _=>[]) 13 40
   [some 16,some 17,some 18,some 19,some 20,some 21,some 22,some 23,some 24,some 25,some 26,some 27,some 28]
   [[],[],[0,1],[],[],[3,4],[],[],[7],[6,8],[2,5,9],[],[10,11,10]]
   [[],[],[0,1],[],[],[3,4],[],[],[7],[6,7,8],[0,1,2,3,4,5,6,7,8,9],[],[0,1,2,3,4,5,6,7,8,9,10,11]]
   [[],[],[],[],[],[],[],[],[],[],[],[],[10]] [[],[],[],[],[],[],[],[],[],[],[],[],[]] [(0,.slice V n c),(1,.slice BA bn bc),(5,.pointer (some ⟨q,0,none⟩)),(6,.int .i64 m),(7,.int .i64 z)]
   (by kernel_rfl) rfl (by decide) (by rfl) (by decide +kernel) rfl rfl (by simp) (b5.out) ?hstep ?hend
  case hstep =>
   refine⟨?p0,⟨?p1,⟨?p2,⟨?p3,⟨?p4,⟨?p5,⟨?p6,⟨?p7,⟨?p8,⟨?p9,⟨?p10,⟨?p11,⟨?p12,trivial⟩⟩⟩⟩⟩⟩⟩⟩⟩⟩⟩⟩⟩
   case p0 | p1 | p2 | p3 | p4 | p5 | p6 | p7 | p8 | p9 | p11 =>
    intro x wx A u y hF p N H K hK;replace hK:=hid hK;clear p N y;repeat (obtain⟨_,hF⟩:=hF)
    refine so ?_;go_step;exact hK.out _ _ rfl H
   case p10 =>
    intro x wx A u y hF p N H K B;have f1:=tq p 2;have f2:=tq p 5;have f3:=tq p 9;have hK:=hid B;clear B hF p y;have r:=hid (N _ c7.out);have a2:=hid (N _ HT.out);have HZ:=hid H;clear N H;refine so ?_;go_wp2_with fail
    refine(VY V BA m c z bc PY PB lb HZ.out a2.out c5.out (by omega) r.out c9.out c6.out).mono ?_;rintro _ w9 ⟨g9,rfl,H9⟩;exact hK.out _ _ rfl H9
   case p12 =>
    intro x wx A u y hF p N H K B;have a3:(x 10)=.pointer (some ⟨ptrB (x 10),0,none⟩):=(p 10 (by decide)).1;have d2:=(p 10 (by decide)).2 26 rfl;have f4:=tq p 11;replace H:Sp w0 (_::(Blo (ptrB (x 10)) (.slice V m c) BA bc (BP.of PY PB lb))::u) wx:=H;have hK:=hid B;clear B hF p y;obtain⟨g9,b6⟩:=exq (ptrB (x 10));rw [b6] at a3 H;rw [a3] at d2;clear a3 b6;have hby:=hid (N _ c8.out);have a2:=hid (N _ HT.out);clear N;have HP:=H.pick 2 [1];obtain⟨dv,L2,D,b7,b8⟩:=Blo.open2 H hby.out;have d3:=hid D;have d4:=hid b7;have d5:=hid (b8 _ a2.out);clear H D b7 b8 HP;refine so ?_;go_wp2_with fail
    refine(Tx g9 q dv _ B1 d3.out d4.out d5.out d0.out a7).mono ?_;rintro _ w9 ⟨rfl,H9⟩;rw [Ty,UY] at H9;exact hK.out _ _ rfl (Blo.rest H9)
  case hend =>
   intro x wx A hA p H;replace H:Sp w0 (_::L) wx:=H;clear p;simp only [putAll,Act.put,List.setIfInBounds_toArray,List.set_cons_succ,List.set_cons_zero,Nat.reduceAdd] at hA;subst hA;have g:=hid H;clear H b5;have b9:Sp w0 (WB q (PD.stD Y b (i+1))::L) wx:=by rw [b1.out]; exact g.out
   have f:=hid b9;clear b9 g;by_cases hcm:m=c
   ·subst hcm;by_cases j:z=bc
    ·subst j;have q1:(m:Int)<=(n:Int):=by omega
     have q2:(z:Int)<=(bn:Int):=by omega
     go_wp2_with fail
     go_quiet (fail)
     have g:=hid (f.out.drewN nq);clear f;cases lb with
     | true =>
      have O:n - m=0:=by have:=of_decide_eq_true d; omega
      have h1:(n:Int) - (m:Int)=0:=by omega
      have C:i+1=PD.many Y:=by
       have h2:=of_decide_eq_true o.out;have P:=M.out;unfold PD.many at P ⊢;omega
      have a:=g.out;rw [C] at a;have h4:PD.many Y<=1000:=by
       unfold PD.many; have:=X.out; omega
      have h5:=PD.stD_le Y b l.out (PD.many Y);have HD:=hid (Xp q _ a (by omega));clear h4 h5;clear g a C
      try rw [O]
      go_wp2_with fail
      refine HD.out.mono ?_;rintro _ w5 ⟨v5,rfl,D⟩;go_wp2;go_ret;exact⟨_,rfl,D.pick 2 [0]⟩
     | false =>
      exfalso;have:=of_decide_eq_false d;omega
    ·have c1:¬ (bc:Int)=(z:Int):=by omega
     have q1:(m:Int)<=(n:Int):=by omega
     have q2:(z:Int)<=(bn:Int):=by omega
     go_wp2_with fail
     go_quiet (fail)
     have g:=hid (f.out.drewN nq);clear f;cases lb with
     | true =>
      have O:n - m=0:=by have:=of_decide_eq_true d; omega
      have h1:(n:Int) - (m:Int)=0:=by omega
      have C:i+1=PD.many Y:=by
       have h2:=of_decide_eq_true o.out;have P:=M.out;unfold PD.many at P ⊢;omega
      have a:=g.out;rw [C] at a;have h4:PD.many Y<=1000:=by
       unfold PD.many; have:=X.out; omega
      have h5:=PD.stD_le Y b l.out (PD.many Y);have HD:=hid (Xp q _ a (by omega));clear h4 h5;clear g a C
      try rw [O]
      go_wp2_with fail
      refine HD.out.mono ?_;rintro _ w5 ⟨v5,rfl,D⟩;go_wp2;go_ret;exact⟨_,rfl,D.pick 2 [0]⟩
     | false =>
      exfalso;have:=of_decide_eq_false d;omega
   ·have e3:¬ (c:Int)=(m:Int):=by omega
    by_cases j:z=bc
    ·subst j;have q1:(m:Int)<=(n:Int):=by omega
     have q2:(z:Int)<=(bn:Int):=by omega
     go_wp2_with fail
     go_quiet (fail)
     have g:=hid (f.out.drewN nq);clear f;cases lb with
     | true =>
      have O:n - m=0:=by have:=of_decide_eq_true d; omega
      have h1:(n:Int) - (m:Int)=0:=by omega
      have C:i+1=PD.many Y:=by
       have h2:=of_decide_eq_true o.out;have P:=M.out;unfold PD.many at P ⊢;omega
      have a:=g.out;rw [C] at a;have h4:PD.many Y<=1000:=by
       unfold PD.many; have:=X.out; omega
      have h5:=PD.stD_le Y b l.out (PD.many Y);have HD:=hid (Xp q _ a (by omega));clear h4 h5;clear g a C
      try rw [O]
      go_wp2_with fail
      refine HD.out.mono ?_;rintro _ w5 ⟨v5,rfl,D⟩;go_wp2;go_ret;exact⟨_,rfl,D.pick 2 [0]⟩
     | false =>
      have O:m=512/\512<n:=by have:=of_decide_eq_false d; have:=HM.out; omega
      have h1:¬ (n:Int) - (m:Int)=0:=by omega
      have h2:¬ n - m=0:=by omega
      go_wp2_with fail
      go_roundw
      case rel =>
       have d6:=b4.out;have c2:=W.out;have e1:512 * (i+1)=512 * i+m:=by omega
       have e2:PD.atB Y (i+1)=PD.atB Y i+z:=by rw [PD.atB_succ,U.out,b2.out]
       refine⟨i+1,V.map (fun x=>x.add (m * 3)),BA,n - m,_,0,0,rfl,rfl,?_,by omega,by omega,by omega,fun w0 w h=>?_,by omega,by omega,by omega,fun w0 w h=>?_,g.out⟩
       ·have P:=of_decide_eq_false o.out;unfold PD.many; omega
       ·have a:=(S.out w0 w h).drop c m (by rw [List.length_drop]; omega);rw [List.drop_drop,<- e1] at a;unfold subZ at a;rw [if_neg (fun h=>hcm h.symm)] at a;exact a
       ·have a:=(T.out w0 w h).dropZ z a9;rw [List.drop_drop,<- e2] at a;unfold subZ at a;rw [if_pos rfl] at a;rw [show bn - z=0 by omega,Nat.sub_self] at a; exact a
      case measure=>first | (simp [intOf]; omega) | omega | simp [intOf]
    ·have c1:¬ (bc:Int)=(z:Int):=by omega
     have q1:(m:Int)<=(n:Int):=by omega
     have q2:(z:Int)<=(bn:Int):=by omega
     go_wp2_with fail
     go_quiet (fail)
     have g:=hid (f.out.drewN nq);clear f;cases lb with
     | true =>
      have O:n - m=0:=by have:=of_decide_eq_true d; omega
      have h1:(n:Int) - (m:Int)=0:=by omega
      have C:i+1=PD.many Y:=by
       have h2:=of_decide_eq_true o.out;have P:=M.out;unfold PD.many at P ⊢;omega
      have a:=g.out;rw [C] at a;have h4:PD.many Y<=1000:=by
       unfold PD.many; have:=X.out; omega
      have h5:=PD.stD_le Y b l.out (PD.many Y);have HD:=hid (Xp q _ a (by omega));clear h4 h5;clear g a C
      try rw [O]
      go_wp2_with fail
      refine HD.out.mono ?_;rintro _ w5 ⟨v5,rfl,D⟩;go_wp2;go_ret;exact⟨_,rfl,D.pick 2 [0]⟩
     | false =>
      have O:m=512/\512<n:=by have:=of_decide_eq_false d; have:=HM.out; omega
      have h1:¬ (n:Int) - (m:Int)=0:=by omega
      have h2:¬ n - m=0:=by omega
      go_wp2_with fail
      go_roundw
      case rel =>
       have d6:=b4.out;have c2:=W.out;have e1:512 * (i+1)=512 * i+m:=by omega
       have e2:PD.atB Y (i+1)=PD.atB Y i+z:=by rw [PD.atB_succ,U.out,b2.out]
       refine⟨i+1,V.map (fun x=>x.add (m * 3)),BA.map (fun x=>x.add z),n - m,_,bn - z,_,rfl,rfl,?_,by omega,by omega,by omega,fun w0 w h=>?_,by omega,by omega,by omega,fun w0 w h=>?_,g.out⟩
       ·have P:=of_decide_eq_false o.out;unfold PD.many; omega
       ·have a:=(S.out w0 w h).drop c m (by rw [List.length_drop]; omega);rw [List.drop_drop,<- e1] at a;unfold subZ at a;rw [if_neg (fun h=>hcm h.symm)] at a;exact a
       ·have a:=(T.out w0 w h).dropZ z a9;rw [List.drop_drop,<- e2] at a;unfold subZ at a;rw [if_neg (fun h=>j h.symm)] at a;first | exact a | simpa using a
      case measure=>first | (simp [intOf]; omega) | omega | simp [intOf]
end Go.Proofs.YteajimobgkempaaGreatDoor

