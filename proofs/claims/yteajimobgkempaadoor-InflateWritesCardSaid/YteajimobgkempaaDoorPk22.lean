/- A pack. -/
import Derived.Test.YteajimobgkempaaDoorPk19
set_option linter.all false
set_option maxRecDepth 100000
set_option maxHeartbeats 8000000
namespace Go.Proofs.YteajimobgkempaaDoor
variable {w0 w:World} {L:List Pr}
open Go.RowKit
namespace PI
theorem numAt_bit {B:List Bool} {a q:Nat} {b:Bool} (h:(B.drop a)[q]?=some b):numAt B (a+q) 1=bitV b:=by
 rw [List.getElem?_drop] at h;have c:=(List.getElem?_eq_some_iff.1 h).1;have d:B.drop (a+q)=b::B.drop (a+q+1):=by
  rw [List.drop_eq_getElem_cons c];congr 1;rw [List.getElem?_eq_getElem c] at h;exact Option.some.inj h
 unfold numAt;rw [d];cases b <;> rfl
end PI
theorem vsign_ok (g:Nat) (BA:Option Addr) (bn bc:Nat) (B:List UInt8) (at_:Nat) (O:Value) (most:Nat) (bl:Value) (A:Option Addr) (n c:Nat) (m:List Nat) (C:Option Addr) (k:Nat) (H:Sp w0 (SmB g (.slice BA bn bc) at_ O most bl 0::L) w) (hbn:bn=B.length) (hbm:bn<=1000000) (hat:at_<=8 * bn) (hB:Ent L fun w=>Byt w (.slice BA bn bc) B)
  (hn:n=m.length) (hnl:n<=1024) (h15:∀x ∈ m,x<=15) (hA:Ent L fun w=>Rd w A (cells64 (castI m))) (hC:Ent L fun w=>Rd w C (rowU (PH.codeAt m) n)) :
  Calls Tryd.prog 66 #[.pointer (some ⟨g,0,none⟩),.agg #[.slice A n c,.slice C n k,.int .i64 (PI.mostN m:Int)]] w (DvEnd w0 L g (.slice BA bn bc) O most bl (PI.sign (PBits.ofB B) m at_)):=by
 obtain⟨mo,F⟩:=exq (PI.mostN m);have b3:mo<=15:=by rw [<- F]; exact PI.mostN_le m
 obtain⟨T,hT⟩:=exq (PI.sign (PBits.ofB B) m at_);obtain⟨l,hl⟩:=exq ((PBits.ofB B).drop at_);obtain⟨kl,J⟩:=exq l.length;have G:at_+kl=8 * bn:=by rw [<- J,<- hl,List.length_drop,PBits.ofB_length,<- hbn]; omega
 obtain⟨N,hN⟩:=exq (PH.nextFrom m l mo 0);have X:T=if N.2.1=0 then .ok (at_+N.1,N.2.2) else .error N.2.1.toNat:=by
  rw [<- hT]; unfold PI.sign; rw [F,hl,hN]
 rw [hT,F];have r:=(H.newBk [.slice A n c,.slice C n k,.int .i64 mo] 101).swap;have o:=hid r;have HL:=hid hl;have Y:=hid J;have Z:=hid G;have K:=hid hbn;have HB:=hid hB;have HN:=hid hn;have c2:=hid h15;have HA:=hid hA;have HC:=hid hC;have HT:=hid X;have b4:=hid hN;clear H r F hT hl J G hN X hbn hB hn h15 hA hC;go_enter Tryd.func66,Tryd.ntmps66
 go_wp2_with fail
 generalize World.alloc _ _=w1 at o ⊢;generalize w.heap.size=g3 at o ⊢
 go_loopw [5,6] (fun cv nv wr=>∃(q D:Nat),nv=.int .i64 ((q+1:Nat):Int)/\cv=.int .u32 D/\q<=mo/\((q<=kl/\D<2 ^ q/\Hid (D=PH.numb (l.take q)/\PH.fst m q+PH.tal m q<=D/\PH.nextFrom m l (mo - q) q=N)/\Sp w0 (SmB g (.slice BA bn bc) (at_+q) O most bl 0::Bk g3 101 [.slice A n c,.slice C n k,.int .i64 mo]::L) wr)
  ∨ (Hid (T=.error 4)/\∃a,Sp w0 (SmB g (.slice BA bn bc) a O most bl 4::Bk g3 101 [.slice A n c,.slice C n k,.int .i64 mo]::L) wr))) (fun _ nv _=>mo+2 - (intOf nv).toNat)
 case atStart=>exact⟨0,0,rfl,rfl,Nat.zero_le _,.inl ⟨Nat.zero_le _,by decide,hid ⟨rfl,Nat.zero_le _,b4.out⟩,o.out⟩⟩
 case round =>
  clear o;obtain⟨q,D,rfl,rfl,hq,M⟩:=hrel;have e1:((q+1:Nat):Int)=(q:Int)+1:=by omega
  rw [e1];clear e1;rcases M with ⟨hqk,hD,HQ,r⟩ | ⟨HTE,a,r⟩
  ·have c3:D<32768:=by
    have:(2:Nat) ^ q<=2 ^ 15:=Nat.pow_le_pow_right (by omega) (by omega);omega
   clear hD;have c5:wr.cell? ⟨g,5,none⟩=some (.int .i64 0):=r.cell 0 rfl 5;have t2:wr.cell? ⟨g3,2,none⟩=some (.int .i64 mo):=r.cell 1 rfl 2;by_cases b5:q<mo
   ·have k1:(q:Int)+1<=(mo:Int):=by omega
    have a0:=hid (We g BA bn bc B (at_+q) O most bl r K.out hbm (by omega) (fun w0 w h=>HB.out w0 w h.tail));clear r;go_wp2_with fail
    refine a0.out.mono ?_;intro e9 w2 k9;clear a0;by_cases a1:q<kl
    ·have P:q<l.length:=by rw [Y.out]; exact a1
     obtain⟨b,Q⟩:∃b,l[q]?=some b:=⟨_,List.getElem?_eq_getElem P⟩;have z:PI.number (PBits.ofB B) (at_+q) 1=.ok (at_+q+1,bitV b):=by
      unfold PI.number;rw [if_pos (by rw [PBits.ofB_length,<- K.out,<- Z.out]; omega),PI.numAt_bit (by rw [HL.out]; exact Q)]
     obtain⟨rfl,v⟩:=DvEnd.got z k9;have e:=PH.numb_succ l q b Q;rw [<- HQ.out.1] at e;have b6:PH.fst m (q+1)<=2 * D:=by
      rw [PH.fst_next];have:=HQ.out.2.1;omega
     have a2:PH.nextFrom m l ((mo - (q+1))+1) q=N:=by
      rw [show mo - (q+1)+1=mo - q by omega]; exact HQ.out.2.2
     obtain⟨y,hy⟩:=exq (bitV b);have c4:y<2:=by rw [<- hy]; cases b <;> decide
     rw [hy] at e v;simp only [hy];obtain⟨s,u⟩:=exq (2 * D+y);rw [u] at e;have a3:s<2 ^ (q+1):=by
      rw [<- e];have h:=PH.numb_lt (l.take (q+1))
      rwa [List.length_take,Nat.min_eq_left (by omega)] at h
     have p:=hid e;have b7:Hid (PH.fst m (q+1)<=s):=hid (by omega);have a4:=hid a2;have b8:=hid a3;have y1:2 * (D:Int)+(y:Int)=(s:Int):=by omega
     have o:=hid v;have a5:s<65536:=by omega
     clear Q z e b6 a2 a3 hy u v k9 t2 c5 HQ;go_wp2_with fail
     go_loopw [7] (fun iv wr=>∃(i:Nat),iv=.int .i64 i/\i<=n/\Hid (∀j,j<i->¬ (m.getD j 0=q+1/\PH.codeAt m j=s))/\Sp w0 (SmB g (.slice BA bn bc) (at_+q+1) O most bl 0::Bk g3 101 [.slice A n c,.slice C n k,.int .i64 mo]::L) wr) (fun iv _=>n - (intOf iv).toNat)
     case atStart=>exact⟨0,rfl,Nat.zero_le _,hid (fun j hj=>absurd hj (Nat.not_lt_zero _)),o.out⟩
     case round =>
      clear o;obtain⟨i,rfl,hi,R,H⟩:=hrel;have c5:wr.cell? ⟨g,5,none⟩=some (.int .i64 0):=H.cell 0 rfl 5;have t0:wr.cell? ⟨g3,0,none⟩=some (.slice A n c):=H.cell 1 rfl 0;have t1:wr.cell? ⟨g3,1,none⟩=some (.slice C n k):=H.cell 1 rfl 1;have o:=hid H;by_cases a6:i<n
      ·have k4:(i:Int)<(n:Int):=by omega
       have S:i<m.length:=by rw [<- HN.out]; exact a6
       obtain⟨al,b9,hc⟩:=(HA.out _ _ H.tail2).at64 (k:=i) (by simpa [castI] using S);obtain⟨t,ht⟩:=exq (m[i]);replace hc:wr.cell? (al.add i)=some (.int .i64 t):=by
        rw [hc];simp [castI,ht]
       have a7:m.getD i 0=t:=by rw [List.getD_eq_getElem?_getD,List.getElem?_eq_getElem S,ht]; rfl
       obtain⟨ac,c0,a8⟩:=(HC.out _ _ H.tail2) (by intro h; have:=congrArg List.length h; simp [rowU] at this; omega);have c1:=a8 i _ (Zp _ _ _ a6);obtain⟨cd,U⟩:=exq (PH.codeAt m i);rw [U] at c1;subst b9;subst c0;have a9:=hid a7;have I:=hid U;clear ht a7 U a8 H;by_cases b0:t=q+1
       ·have k5:((t:Int) == (q:Int)+1)=true:=by rw [beq_iff_eq]; omega
        by_cases b1:cd=s
        ·have k6:((cd:Int) == (s:Int))=true:=by rw [beq_iff_eq]; omega
         have d:N=(q+1,0,i):=by
          rw [<- a4.out];refine PH.next_hit1 m l (mo - (q+1)) q i (by omega) P S (by rw [a9.out]; exact b0) ?_;rw [I.out,p.out]; exact b1
         have E:T=.ok (at_+q+1,i):=by rw [HT.out,d]; rfl
         have f:=hid E;clear d E;go_wp2_with fail
         go_ret;exact DvEnd.yes f.out (o.out.pick 2 [0])
        ·have k6:((cd:Int) == (s:Int))=false:=by rw [beq_eq_false_iff_ne]; omega
         go_wp2_with fail
         go_roundw
         case rel =>
          refine⟨i+1,by go_num,by omega,hid (fun j hj=>?_),o.out⟩;rcases Nat.lt_or_eq_of_le (Nat.le_of_lt_succ hj) with h | rfl
          ·exact R.out j h
          ·rintro⟨_,h⟩;rw [I.out] at h;exact b1 h
         case measure=>first | (simp [intOf]; omega) | simp [intOf]
       ·have k5:((t:Int) == (q:Int)+1)=false:=by rw [beq_eq_false_iff_ne]; omega
        go_wp2_with fail
        go_roundw
        case rel =>
         refine⟨i+1,by go_num,by omega,hid (fun j hj=>?_),o.out⟩;rcases Nat.lt_or_eq_of_le (Nat.le_of_lt_succ hj) with h | rfl
         ·exact R.out j h
         ·rintro⟨h,_⟩;rw [a9.out] at h;exact b0 h
        case measure=>first | (simp [intOf]; omega) | simp [intOf]
      ·have k4:¬ (i:Int)<(n:Int):=by omega
       obtain rfl:i=n:=by omega
       have V:=PH.next_miss1 m l (mo - (q+1)) q (by omega) P (by rw [p.out]; exact b7.out) (fun j hj=>by rw [p.out]; exact R.out j (by rw [HN.out]; exact hj));rw [a4.out,p.out] at V;have b2:=hid V;clear V H;go_wp2_with fail
       go_roundw
       case rel=>exact⟨q+1,s,by first | (go_num; done) | exact congrArg (Value.int .i64) (by omega),rfl,by omega,.inl ⟨by omega,b8.out,hid ⟨p.out.symm,b2.out.2,b2.out.1.symm⟩,o.out⟩⟩
       case measure=>first | (simp [intOf]; omega) | simp [intOf]
    ·have z:PI.number (PBits.ofB B) (at_+q) 1=.error 4:=by
      unfold PI.number;rw [if_neg (by rw [PBits.ofB_length,<- K.out,<- Z.out]; omega)]
     obtain⟨_,a,rfl,v⟩:=DvEnd.bad z k9;have d:N=(q,4,0):=by
      rw [<- HQ.out.2.2,show mo - q=(mo - (q+1))+1 by omega,PH.nextFrom,if_pos (by rw [Y.out]; omega)]
     have E:T=.error 4:=by rw [HT.out,d]; rfl
     have f:=hid E;have o:=hid v;obtain⟨s,u⟩:=exq (2 * D);have y1:2 * (D:Int)=(s:Int):=by omega
     have a5:s<65536:=by omega
     clear z k9 v d E c5 t2 HQ u;go_wp2_with fail
     go_loopw [7] (fun iv wr=>iv=.int .i64 0/\Sp w0 (SmB g (.slice BA bn bc) a O most bl 4::Bk g3 101 [.slice A n c,.slice C n k,.int .i64 mo]::L) wr) (fun _ _=>0)
     case atStart=>exact⟨rfl,o.out⟩
     case round =>
      clear o;obtain⟨rfl,H⟩:=hrel;have c5:wr.cell? ⟨g,5,none⟩=some (.int .i64 4):=H.cell 0 rfl 5;have t0:wr.cell? ⟨g3,0,none⟩=some (.slice A n c):=H.cell 1 rfl 0;have o:=hid H;clear H;by_cases h0:0<n
      ·have k4:(0:Int)<(n:Int):=by omega
       go_wp2_with fail
       go_roundw
       case rel=>exact⟨q+1,s,by first | (go_num; done) | exact congrArg (Value.int .i64) (by omega),rfl,by omega,.inr ⟨f,a,o.out⟩⟩
       case measure=>first | (simp [intOf]; omega) | simp [intOf]
      ·have k4:¬ (0:Int)<(n:Int):=by omega
       go_wp2_with fail
       go_roundw
       case rel=>exact⟨q+1,s,by first | (go_num; done) | exact congrArg (Value.int .i64) (by omega),rfl,by omega,.inr ⟨f,a,o.out⟩⟩
       case measure=>first | (simp [intOf]; omega) | simp [intOf]
   ·have k1:¬ (q:Int)+1<=(mo:Int):=by omega
    obtain rfl:q=mo:=by omega
    have d:T=.error 20:=by
     rw [HT.out,<- HQ.out.2.2,Nat.sub_self]; rfl
    have f:=hid d;have W:=hid (vfail_ok g (.slice BA bn bc) (at_+q) O most bl 20 r);clear r d;go_wp2_with fail
    refine W.out.mono ?_;rintro _ w2 ⟨rfl,v⟩;clear W;go_wp2_with fail
    go_ret;exact DvEnd.no f.out (by decide) (v.pick 2 [0])
  ·have c5:wr.cell? ⟨g,5,none⟩=some (.int .i64 4):=r.cell 0 rfl 5;have t2:wr.cell? ⟨g3,2,none⟩=some (.int .i64 mo):=r.cell 1 rfl 2;have W:=hid (Zx g (.slice BA bn bc) a O most bl 20 4 (by decide) r);clear r;by_cases b5:q<mo
   ·have k1:(q:Int)+1<=(mo:Int):=by omega
    go_wp2_with fail
    refine W.out.mono ?_;rintro _ w2 ⟨rfl,v⟩;clear W;go_wp2_with fail
    go_ret;exact DvEnd.no HTE.out (by decide) (v.pick 2 [0])
   ·have k1:¬ (q:Int)+1<=(mo:Int):=by omega
    go_wp2_with fail
    refine W.out.mono ?_;rintro _ w2 ⟨rfl,v⟩;clear W;go_wp2_with fail
    go_ret;exact DvEnd.no HTE.out (by decide) (v.pick 2 [0])
def DvEndN (w0:World) (L:List Pr) (g:Nat) (V O:Value) (most:Nat) (bl:Value) (T:Except Nat (Nat × Nat)) (e:Ending) (w' : World):Prop :=
 match T with
 | .ok r=>e=.returned (.int .i64 r.2)/\Sp w0 (SmB g V r.1 O most bl 0::L) w'
 | .error er=>er≠0/\∃a x:Nat,x<=40000/\e=.returned (.int .i64 x)/\Sp w0 (SmB g V a O most bl er::L) w'
theorem DvEndN.yes {w0 w' : World} {g:Nat} {V O:Value} {most:Nat} {bl:Value} {T:Except Nat (Nat × Nat)} {a x:Nat} (h:T=.ok (a,x)) (H:Sp w0 (SmB g V a O most bl 0::L) w'):DvEndN w0 L g V O most bl T (.returned (.int .i64 x)) w':=by
 subst h; exact⟨rfl,H⟩
theorem DvEndN.no {w0 w' : World} {g:Nat} {V O:Value} {most:Nat} {bl:Value} {T:Except Nat (Nat × Nat)} {a x c:Nat} (h:T=.error c) (hc:c≠0) (hx:x<=40000) (H:Sp w0 (SmB g V a O most bl c::L) w'):DvEndN w0 L g V O most bl T (.returned (.int .i64 x)) w':=by
 subst h; exact⟨hc,a,x,hx,rfl,H⟩
theorem DvEndN.got {w0 w' : World} {g:Nat} {V O:Value} {most:Nat} {bl:Value} {T:Except Nat (Nat × Nat)} {r:Nat × Nat} {e:Ending} (h:T=.ok r) (k:DvEndN w0 L g V O most bl T e w'):e=.returned (.int .i64 r.2)/\Sp w0 (SmB g V r.1 O most bl 0::L) w':=by
 subst h; exact k
theorem DvEndN.bad {w0 w' : World} {g:Nat} {V O:Value} {most:Nat} {bl:Value} {T:Except Nat (Nat × Nat)} {c:Nat} {e:Ending} (h:T=.error c) (k:DvEndN w0 L g V O most bl T e w'):c≠0/\∃a x:Nat,x<=40000/\e=.returned (.int .i64 x)/\Sp w0 (SmB g V a O most bl c::L) w':=by
 subst h; exact k
theorem PI.number_zero {B:List Bool} {a:Nat} (h:a<=B.length):PI.number B a 0=.ok (a,0):=by
 unfold PI.number;rw [if_pos (by omega)];unfold PI.numAt;rw [List.take_zero];rfl
theorem Y1 (n:Nat) (h:n<=15) (H:Sp w0 L w) :
  Calls Tryd.prog 100 #[.int .i64 n] w fun e w'=>e=.returned (.int .i64 ((2 ^ n:Nat):Int))/\Sp w0 L w':=by
 obtain⟨P,b⟩:=exq (2 ^ n);rw [b];have d:=hid b;clear b;go_enter Tryd.func100,Tryd.ntmps100
 go_wp2_with fail
 go_loopw [3,4] (fun xv iv wr=>∃i x:Nat,iv=.int .i64 i/\xv=.int .i64 x/\i<=n/\x<=32768/\Hid (x=2 ^ i)/\Sp w0 L wr) (fun _ iv _=>n - (intOf iv).toNat)
 case atStart=>exact⟨0,1,rfl,rfl,Nat.zero_le _,by decide,hid rfl,H⟩
 case round =>
  obtain⟨i,x,rfl,rfl,o,g,a,H⟩:=hrel;by_cases j:i<n
  ·have k:(i:Int)<(n:Int):=by omega
   have l:(2:Nat) ^ (i+1)<=2 ^ 15:=Nat.pow_le_pow_right (by decide) (by omega);have f:(2:Nat) ^ (i+1)=2 * x:=by rw [a.out,Nat.pow_succ,Nat.mul_comm]
   have m:=hid f;have c:2 * x<=32768:=by omega
   clear l f g;go_wp2_with fail
   go_roundw
   case rel=>exact⟨i+1,2 * x,by go_num,by go_num,by omega,c,hid m.out.symm,H⟩
   case measure=>first | (simp [intOf]; omega) | simp [intOf]
  ·have k:¬ (i:Int)<(n:Int):=by omega
   obtain rfl:i=n:=by omega
   rw [d.out] at a;obtain rfl:=a.out;clear a d;go_wp2_with fail
   go_ret;exact⟨rfl,H⟩
theorem Wi:∀j,j<27->(PI.lengthsT.getD (j+1) (0,0)).1=(PI.lengthsT.getD j (0,0)).1+(if j<4 then 1 else 2 ^ ((j - 4) / 4))/\(PI.lengthsT.getD (j+1) (0,0)).1<=258:=by decide
theorem Wj:∀j,j<28->(PI.lengthsT.getD j (0,0)).2=(if j<4 then 0 else (j - 4) / 4):=by decide
theorem XM:∀j,j<29->(PI.awayT.getD (j+1) (0,0)).1=(PI.awayT.getD j (0,0)).1+(if j<2 then 1 else 2 ^ ((j - 2) / 2))/\(PI.awayT.getD (j+1) (0,0)).1<=24577:=by decide
theorem XN:∀j,j<30->(PI.awayT.getD j (0,0)).2=(if j<2 then 0 else (j - 2) / 2):=by decide
theorem vlength_ok (g:Nat) (A:Option Addr) (n c:Nat) (B:List UInt8) (at_:Nat) (O:Value) (most:Nat) (bl:Value) (s:Nat) (H:Sp w0 (SmB g (.slice A n c) at_ O most bl 0::L) w) (hn:n=B.length) (hnm:n<=1000000) (hat:at_<=8 * n) (hs:s<=1000) (hb:Ent L fun w=>Byt w (.slice A n c) B) :
  Calls Tryd.prog 67 #[.pointer (some ⟨g,0,none⟩),.int .i64 ((s+257:Nat):Int)] w (DvEndN w0 L g (.slice A n c) O most bl (PI.length (PBits.ofB B) s at_)):=by
 obtain⟨T,t⟩:=exq (PI.length (PBits.ofB B) s at_);obtain⟨x,J⟩:=exq (s+257);rw [t,J];have X:=hid H;have HN:=hid hn;have HB:=hid hb;by_cases h1:285<x
 ·have k1:(x:Int) > 285:=by omega
  have e:T=.error 20:=by
   rw [<- t]; unfold PI.length PI.count;rw [if_neg (by omega),if_neg (by show ¬ s<28; omega)]
  have v:=hid e;have U:=hid (vfail_ok g (.slice A n c) at_ O most bl 20 H);clear H hn hb e t J;go_enter Tryd.func67,Tryd.ntmps67
  go_wp2_with fail
  refine U.out.mono ?_;rintro _ w2 ⟨rfl,q⟩;clear U;go_wp2_with fail
  go_ret;exact DvEndN.no (x:=0) v.out (by decide) (by decide) q
 by_cases h2:x=285
 ·have k1:¬ (x:Int) > 285:=by omega
  have k2:((x:Int) == 285)=true:=by rw [beq_iff_eq]; omega
  have e:T=.ok (at_,258):=by
   rw [<- t]; unfold PI.length;rw [if_pos (by omega)]
  have v:=hid e;clear H hn hb e t J;go_enter Tryd.func67,Tryd.ntmps67
  go_wp2_with fail
  go_ret;exact DvEndN.yes (x:=258) v.out X.out
 have k1:¬ (x:Int) > 285:=by omega
 have k2:((x:Int) == 285)=false:=by rw [beq_eq_false_iff_ne]; omega
 have a2:s<=27:=by omega
 have y:=Wj s (by omega);obtain⟨F,Y⟩:=exq ((PI.lengthsT.getD s (0,0)).1);obtain⟨bt,z⟩:=exq ((PI.lengthsT.getD s (0,0)).2);have e:T=(PI.number (PBits.ofB B) at_ bt).bind fun r=>.ok (r.1,F+r.2):=by
  rw [<- t]; unfold PI.length PI.count;rw [if_neg (by omega),if_pos (by show s<28; omega),z,Y]
 rw [z] at y;have v:=hid e;have U:=hid Y;have K:=hid y;have Z:=hid J;clear H hn hb e t J Y z y h1 h2;go_enter Tryd.func67,Tryd.ntmps67
 go_wp2_with fail
 go_loopw [5,6] (fun fv iv wr=>∃j f:Nat,iv=.int .i64 ((j+257:Nat):Int)/\fv=.int .i64 f/\j<=s/\f<=258/\Hid (f=(PI.lengthsT.getD j (0,0)).1)/\Sp w0 (SmB g (.slice A n c) at_ O most bl 0::L) wr) (fun _ iv _=>x - (intOf iv).toNat)
 case atStart=>exact⟨0,3,rfl,rfl,Nat.zero_le _,by decide,hid rfl,X.out⟩
 case round =>
  clear X;obtain⟨j,f,rfl,rfl,hj,hf,C,I⟩:=hrel;obtain⟨i,D⟩:=exq (j+257);rw [D];have o:=Z.out;by_cases a3:j<s
  ·have q1:(i:Int)<(x:Int):=by omega
   have b:=Wi j (by omega);rw [<- C.out] at b;by_cases M:j<4
   ·have q2:(i:Int)<261:=by omega
    rw [if_pos M] at b;have E:=hid b;have l:=b.2;rw [b.1] at l;have G:=hid D;clear b D o;go_wp2_with fail
    go_roundw
    case rel=>exact⟨j+1,f+1,by rw [<- G.out]; go_num,by go_num,by omega,l,hid E.out.1.symm,I⟩
    case measure=>first | (simp [intOf]; omega) | simp [intOf]
   ·have q2:¬ (i:Int)<261:=by omega
    rw [if_neg M] at b;obtain⟨u,V⟩:=exq (i - 261);obtain⟨p,hp⟩:=exq (u / 4);have y1:(i:Int) - 261=(u:Int):=by omega
    have y2:(u:Int) / 4=(p:Int):=by omega
    have N:(j - 4) / 4=p:=by rw [<- hp]; congr 1; omega
    rw [N] at b;have Q:=hid (Y1 p (by omega) I);obtain⟨P,hP⟩:=exq (2 ^ p);rw [hP] at Q b;have E:=hid b;have l:=b.2;rw [b.1] at l;have G:=hid D;clear b D o I V hp N hP;go_wp2_with fail
    refine Q.out.mono ?_;rintro _ w2 ⟨rfl,q⟩;go_wp2_with fail
    go_roundw
    case rel=>exact⟨j+1,f+P,by rw [<- G.out]; go_num,by go_num,by omega,l,hid E.out.1.symm,q⟩
    case measure=>first | (simp [intOf]; omega) | simp [intOf]
  ·have q1:¬ (i:Int)<(x:Int):=by omega
   obtain rfl:j=s:=by omega
   rw [U.out] at C;obtain rfl:=C.out;by_cases M:j<4
   ·have q2:(x:Int)<261:=by omega
    have k:=K.out;rw [if_pos M] at k;have d:T=.ok (at_,f):=by
     rw [v.out,k,PI.number_zero (by rw [PBits.ofB_length,<- HN.out]; omega)];rfl
    have m:=hid d;clear d k o D;go_wp2_with fail
    go_ret;exact DvEndN.yes m.out I
   ·have q2:¬ (x:Int)<261:=by omega
    have k:=K.out;rw [if_neg M] at k;obtain⟨u,V⟩:=exq (x - 261);have a0:u / 4=bt:=by rw [k,<- V]; congr 1; omega
    have y1:(x:Int) - 261=(u:Int):=by omega
    have y2:(u:Int) / 4=(bt:Int):=by omega
    have R:=hid (Zt g A n c B at_ O most bl bt I HN.out hnm hat (by omega) HB.out);have S:bt<=5:=by omega
    clear I V a0 k o D;go_wp2_with fail
    refine R.out.mono ?_;intro e9 w2 W;clear R;cases hr:PI.number (PBits.ofB B) at_ bt with
    | ok r =>
     obtain⟨rfl,q⟩:=DvEnd.got hr W;have d:T=.ok (r.1,f+r.2):=by rw [v.out,hr]; rfl
     have a1:r.2<32:=by
      have h:=(PI.number_ok hr).1;rw [h];exact Nat.lt_of_lt_of_le (PI.numAt_lt _ _ _) (Nat.pow_le_pow_right (by decide) S)
     obtain⟨r1,r2⟩:=r;simp only at d q a1;have m:=hid d;clear d hr W;go_wp2_with fail
     go_ret;exact DvEndN.yes m.out q
    | error er =>
     obtain⟨he,a,rfl,q⟩:=DvEnd.bad hr W;have d:T=.error er:=by rw [v.out,hr]; rfl
     have m:=hid d;clear d hr W;go_wp2_with fail
     go_ret;exact DvEndN.no (x:=f) m.out he (by omega) q
theorem vdistance_ok (g:Nat) (A:Option Addr) (n c:Nat) (B:List UInt8) (at_:Nat) (O:Value) (most:Nat) (bl:Value) (s:Nat) (H:Sp w0 (SmB g (.slice A n c) at_ O most bl 0::L) w) (hn:n=B.length) (hnm:n<=1000000) (hat:at_<=8 * n) (hs:s<=1000) (hb:Ent L fun w=>Byt w (.slice A n c) B) :
  Calls Tryd.prog 68 #[.pointer (some ⟨g,0,none⟩),.int .i64 s] w (DvEndN w0 L g (.slice A n c) O most bl (PI.count (PBits.ofB B) PI.awayT s at_)):=by
 obtain⟨T,G⟩:=exq (PI.count (PBits.ofB B) PI.awayT s at_);obtain⟨x,S⟩:=exq s;rw [G,S];have HX:=hid H;have HN:=hid hn;have HB:=hid hb;by_cases h1:29<x
 ·have k1:(x:Int) > 29:=by omega
  have k:T=.error 20:=by
   rw [<- G]; unfold PI.count;rw [if_neg (by show ¬ s<30; omega)]
  have I:=hid k;have U:=hid (vfail_ok g (.slice A n c) at_ O most bl 20 H);clear H hn hb k G S;go_enter Tryd.func68,Tryd.ntmps68
  go_wp2_with fail
  refine U.out.mono ?_;rintro _ w2 ⟨rfl,q⟩;clear U;go_wp2_with fail
  go_ret;exact DvEndN.no (x:=0) I.out (by decide) (by decide) q
 have k1:¬ (x:Int) > 29:=by omega
 have a2:s<=29:=by omega
 have t:=XN s (by omega);obtain⟨F,X⟩:=exq ((PI.awayT.getD s (0,0)).1);obtain⟨bt,v⟩:=exq ((PI.awayT.getD s (0,0)).2);have k:T=(PI.number (PBits.ofB B) at_ bt).bind fun r=>.ok (r.1,F+r.2):=by
  rw [<- G]; unfold PI.count;rw [if_pos (by show s<30; omega),v,X]
 rw [v] at t;have I:=hid k;have U:=hid X;have J:=hid t;have Y:=hid S;clear H hn hb k G S X v t h1;go_enter Tryd.func68,Tryd.ntmps68
 go_wp2_with fail
 go_loopw [5,6] (fun fv iv wr=>∃j f:Nat,iv=.int .i64 j/\fv=.int .i64 f/\j<=s/\f<=24577/\Hid (f=(PI.awayT.getD j (0,0)).1)/\Sp w0 (SmB g (.slice A n c) at_ O most bl 0::L) wr) (fun _ iv _=>x - (intOf iv).toNat)
 case atStart=>exact⟨0,1,rfl,rfl,Nat.zero_le _,by decide,hid rfl,HX.out⟩
 case round =>
  clear HX;obtain⟨j,f,rfl,rfl,hj,hf,y,E⟩:=hrel;obtain⟨i,z⟩:=exq j;rw [z];have o:=Y.out;by_cases a3:j<s
  ·have q1:(i:Int)<(x:Int):=by omega
   have b:=XM j (by omega);rw [<- y.out] at b;by_cases K:j<2
   ·have Z:(i:Int)<2:=by omega
    rw [if_pos K] at b;have C:=hid b;have l:=b.2;rw [b.1] at l;have D:=hid z;clear b z o;go_wp2_with fail
    go_roundw
    case rel=>exact⟨j+1,f+1,by rw [<- D.out]; go_num,by go_num,by omega,l,hid C.out.1.symm,E⟩
    case measure=>first | (simp [intOf]; omega) | simp [intOf]
   ·have Z:¬ (i:Int)<2:=by omega
    rw [if_neg K] at b;obtain⟨u,V⟩:=exq (i - 2);obtain⟨p,hp⟩:=exq (u / 2);have y1:(i:Int) - 2=(u:Int):=by omega
    have y2:(u:Int) / 2=(p:Int):=by omega
    have M:(j - 2) / 2=p:=by rw [<- hp]; congr 1; omega
    rw [M] at b;have N:=hid (Y1 p (by omega) E);obtain⟨P,hP⟩:=exq (2 ^ p);rw [hP] at N b;have C:=hid b;have l:=b.2;rw [b.1] at l;have D:=hid z;clear b z o E V hp M hP;go_wp2_with fail
    refine N.out.mono ?_;rintro _ w2 ⟨rfl,q⟩;go_wp2_with fail
    go_roundw
    case rel=>exact⟨j+1,f+P,by rw [<- D.out]; go_num,by go_num,by omega,l,hid C.out.1.symm,q⟩
    case measure=>first | (simp [intOf]; omega) | simp [intOf]
  ·have q1:¬ (i:Int)<(x:Int):=by omega
   obtain rfl:j=s:=by omega
   rw [U.out] at y;obtain rfl:=y.out;by_cases K:j<2
   ·have Z:(x:Int)<2:=by omega
    have e:=J.out;rw [if_pos K] at e;have d:T=.ok (at_,f):=by
     rw [I.out,e,PI.number_zero (by rw [PBits.ofB_length,<- HN.out]; omega)];rfl
    have m:=hid d;clear d e o z;go_wp2_with fail
    go_ret;exact DvEndN.yes m.out E
   ·have Z:¬ (x:Int)<2:=by omega
    have e:=J.out;rw [if_neg K] at e;obtain⟨u,V⟩:=exq (x - 2);have a0:u / 2=bt:=by rw [e,<- V]; congr 1; omega
    have y1:(x:Int) - 2=(u:Int):=by omega
    have y2:(u:Int) / 2=(bt:Int):=by omega
    have Q:=hid (Zt g A n c B at_ O most bl bt E HN.out hnm hat (by omega) HB.out);have R:bt<=13:=by omega
    clear E V a0 e o z;go_wp2_with fail
    refine Q.out.mono ?_;intro e9 w2 W;clear Q;cases hr:PI.number (PBits.ofB B) at_ bt with
    | ok r =>
     obtain⟨rfl,q⟩:=DvEnd.got hr W;have d:T=.ok (r.1,f+r.2):=by rw [I.out,hr]; rfl
     have a1:r.2<8192:=by
      have h:=(PI.number_ok hr).1;rw [h];exact Nat.lt_of_lt_of_le (PI.numAt_lt _ _ _) (Nat.pow_le_pow_right (by decide) R)
     obtain⟨r1,r2⟩:=r;simp only at d q a1;have m:=hid d;clear d hr W;go_wp2_with fail
     go_ret;exact DvEndN.yes m.out q
    | error er =>
     obtain⟨he,a,rfl,q⟩:=DvEnd.bad hr W;have d:T=.error er:=by rw [I.out,hr]; rfl
     have m:=hid d;clear d hr W;go_wp2_with fail
     go_ret;exact DvEndN.no (x:=f) m.out he (by omega) q
theorem vdistance_dead (g:Nat) (V:Value) (at_:Nat) (O:Value) (most:Nat) (bl:Value) (d:Nat) (H:Sp w0 (SmB g V at_ O most bl d::L) w) :
  Calls Tryd.prog 68 #[.pointer (some ⟨g,0,none⟩),.int .i64 0] w fun e w'=>e=.returned (.int .i64 1)/\Sp w0 (SmB g V at_ O most bl d::L) w':=by
 have a:=hid H;clear H;go_enter Tryd.func68,Tryd.ntmps68
 go_wp2_with fail
 go_loopw [5,6] (fun fv iv wr=>iv=.int .i64 0/\fv=.int .i64 1/\Sp w0 (SmB g V at_ O most bl d::L) wr) (fun _ _ _=>0)
 case atStart=>exact⟨rfl,rfl,a.out⟩
 case round =>
  clear a;obtain⟨rfl,rfl,b⟩:=hrel;go_wp2_with fail
  go_ret;exact⟨rfl,b⟩
def pan (e:Nat):List PanicEntry:=[{ v:=.iface 33 (.int .i64 e),recovered:=false }]
def XpB (gx gr:Nat) (vo:Value) (most:Nat) (vb:Value):Pr:=Bk gx 96 [.pointer (some ⟨gr,0,none⟩),vo,.int .i64 most,vb]
namespace PI
theorem numAt_peek (l:List UInt8) (a k:Nat) (h:a+k<=8 * l.length):numAt (PBits.ofB l) a k=PBits.peek l a k:=by
 unfold numAt PBits.peek;rw [PBits.num_mid _ _ _ (by rw [PBits.ofB_length]; exact h),PBits.num_ofB]
theorem numAt_small (B:List Bool) (a k K:Nat) (h:k<=K):numAt B a k<2 ^ K:=Nat.lt_of_lt_of_le (numAt_lt B a k) (Nat.pow_le_pow_right (by omega) h)
end PI
theorem Xb (w:World):Calls Tryd.prog 130 #[.int .i64 0] w fun e w'=>e=.returned (.tuple #[])/\w=w':=by
 go_enter Tryd.func130,Tryd.ntmps130
 go_wp2;go_end0;exact⟨rfl,rfl⟩
theorem Wk (c:Nat) (hc:c≠0) (w:World):Calls Tryd.prog 130 #[.int .i64 c] w fun e w'=>e=.panicked (pan c)/\w=w':=by
 have h:¬ (c:Int)=0:=by omega
 have a:((c:Int) != 0)=true:=by simpa using hc
 go_enter Tryd.func130,Tryd.ntmps130
 go_wp2;exact⟨rfl,rfl,rfl⟩
theorem Zl (gx gr:Nat) (l:List UInt8) (most at_ k:Nat) (vo vb:Value) (H:Sp w0 (Rr gr l at_::XpB gx gr vo most vb::L) w) (ha:at_<=8 * l.length) (hk:k<=57) (hl:l.length<=100000000) :
  Calls Tryd.prog 95 #[.pointer (some ⟨gx,0,none⟩),.int .i64 k] w fun e w' =>
   match PI.number (PBits.ofB l) at_ k with
   | .error c=>e=.panicked (pan c)/\Sp w0 L w'
   | .ok r=>e=.returned (.int .i64 r.2)/\Sp w0 (Rr gr l r.1::XpB gx gr vo most vb::L) w':=by
 have m:w.cell? ⟨gx,0,none⟩=some (.pointer (some ⟨gr,0,none⟩)):=H.cell 1 rfl 0;cases hr:PI.number (PBits.ofB l) at_ k with
 | error c =>
  obtain⟨rfl,a⟩:=PI.number_err hr;rw [PBits.ofB_length] at a;show Calls _ _ _ _ fun e w'=>e=.panicked (pan 4)/\Sp w0 L w';go_enter Tryd.func95,Tryd.ntmps95
  go_wp2_with fail
  refine(YY gr l at_ k H ha a hk (by omega)).mono ?_;rintro _ d ⟨rfl,h⟩;have f:=h.sep H;go_wp2_with fail
  refine(Wk 4 (by decide) d).mono ?_;rintro _ i ⟨rfl,rfl⟩;go_wp2;exact⟨rfl,rfl,f.tail2⟩
 | ok r =>
  obtain⟨rfl,b⟩:=PI.number_ok hr;rw [PBits.ofB_length] at b;show Calls _ _ _ _ fun e w'=>e=.returned (.int .i64 (PI.numAt (PBits.ofB l) at_ k:Nat))/\Sp w0 (Rr gr l (at_+k)::XpB gx gr vo most vb::L) w';rw [PI.numAt_peek l at_ k b];have a:=PI.numAt_small (PBits.ofB l) at_ k 57 hk;rw [PI.numAt_peek l at_ k b] at a;obtain⟨v,g⟩:=exq (PBits.peek l at_ k);rw [g] at a ⊢;have j:=hid g;clear g hr;go_enter Tryd.func95,Tryd.ntmps95
  go_wp2_with fail
  refine(WZ gr l at_ k H b hk (by omega)).mono ?_;rintro _ d ⟨rfl,f⟩;rw [j.out];go_wp2_with fail
  refine(Xb d).mono ?_;rintro _ i ⟨rfl,rfl⟩;go_wp2;go_ret;exact⟨rfl,f⟩
theorem Z8 (gx gr most n c many:Nat) (A:Option Addr) (vb:Value) (H:Sp w0 (XpB gx gr (.slice A n c) most vb::L) w) (hn:n<=most) (hm:most<=4611686018427387904) (hk:many<=4611686018427387904) :
  Calls Tryd.prog 133 #[.pointer (some ⟨gx,0,none⟩),.int .i64 many] w fun e w'=>(e=if most - n<many then .panicked (pan 22) else .returned (.tuple #[]))/\Keep w w':=by
 have d:w.cell? ⟨gx,1,none⟩=some (.slice A n c):=H.cell 0 rfl 1;have f:w.cell? ⟨gx,2,none⟩=some (.int .i64 most):=H.cell 0 rfl 2;clear H;by_cases h:most - n<many
 ·rw [if_pos h];have a:(many:Int) > (most:Int) - (n:Int):=by omega
  have b:decide (most - n<many)=true:=by simpa using h
  go_enter Tryd.func133,Tryd.ntmps133
  go_wp2;go_quiet (fail)
  go_wp2;exact⟨rfl,rfl,Keep.drewN _ _⟩
 ·rw [if_neg h];have a:¬ (many:Int) > (most:Int) - (n:Int):=by omega
  have b:decide (most - n<many)=false:=by simpa using h
  go_enter Tryd.func133,Tryd.ntmps133
  go_wp2;go_quiet (fail)
  go_wp2;go_end0;exact⟨rfl,Keep.drewN _ _⟩
def FeedX (gv gx gr:Nat) (l:List UInt8) (vo vb:Value) (most at_:Nat):Pr:=Star (Rr gr l at_) (Star (XpB gx gr vo most vb) (Bk gv 91 [.pointer (some ⟨gx,0,none⟩)]))
theorem ZN {gv gx gr:Nat} {l:List UInt8} {vo vb:Value} {most at_:Nat} (H:Sp w0 (FeedX gv gx gr l vo vb most at_::L) w) :
  Sp w0 (Rr gr l at_::XpB gx gr vo most vb::Bk gv 91 [.pointer (some ⟨gx,0,none⟩)]::L) w:=by
 have a:=H.unstar.swap.unstar;exact a.pick 3 [2,0,1]
theorem Z6 {gv gx gr:Nat} {l:List UInt8} {vo vb:Value} {most at_:Nat} (H:Sp w0 (Rr gr l at_::XpB gx gr vo most vb::Bk gv 91 [.pointer (some ⟨gx,0,none⟩)]::L) w) :
  Sp w0 (FeedX gv gx gr l vo vb most at_::L) w:=(Sp.star (H.pick 3 [1,2,0])).swap.star
theorem PI.bit_num {B:List Bool} {a:Nat} {b:Bool} (h:B[a]?=some b):PI.number B a 1=.ok (a+1,bitV b):=by
 obtain⟨c,d⟩:=List.getElem?_eq_some_iff.1 h;unfold PI.number PI.numAt;rw [if_pos (by omega)];congr 2;rw [List.drop_eq_getElem_cons c,d];cases b <;> simp [PBits.num,bitV]
theorem Vl (gv gx gr:Nat) (l:List UInt8) (vo vb:Value) (most at_:Nat) (b:Bool) (H:Sp w0 (FeedX gv gx gr l vo vb most at_::L) w) (hl:l.length<=100000000) (h:(PBits.ofB l)[at_]?=some b) :
  Calls Tryd.prog 155 #[.pointer (some ⟨gv,0,none⟩)] w fun e w'=>e=.returned (.tuple #[.int .u32 (bitV b:Int),.int .i64 0])/\Sp w0 (FeedX gv gx gr l vo vb most (at_+1)::L) w':=by
 have c:=ZN H;have k:w.cell? ⟨gv,0,none⟩=some (.pointer (some ⟨gx,0,none⟩)):=c.cell 2 rfl 0;have m:w.cell? ⟨gx,0,none⟩=some (.pointer (some ⟨gr,0,none⟩)):=c.cell 1 rfl 0;have d:=PI.bit_num h;obtain⟨f,a⟩:=PI.number_ok d;rw [PBits.ofB_length] at a;have g:PBits.peek l at_ 1=bitV b:=by
  rw [<- PI.numAt_peek l at_ 1 a];exact(congrArg Prod.snd f).symm
 have i:=hid g;have n:bitV b<=1:=by unfold bitV; split <;> omega
 clear f g d h H;go_enter Tryd.func155,Tryd.ntmps155
 go_wp2_with fail
 refine(WZ gr l at_ 1 c a (by omega) (by omega)).mono ?_;rintro _ o ⟨rfl,j⟩;rw [i.out];go_wp2_with fail
 go_ret2;exact⟨rfl,Z6 j⟩
theorem WN (gv gx gr:Nat) (l:List UInt8) (vo vb:Value) (most at_:Nat) (H:Sp w0 (FeedX gv gx gr l vo vb most at_::L) w) (hl:l.length<=100000000) (h:at_=8 * l.length) :
  Calls Tryd.prog 155 #[.pointer (some ⟨gv,0,none⟩)] w fun e w'=>e=.returned (.tuple #[.int .u32 0,.int .i64 4])/\Sp w0 (FeedX gv gx gr l vo vb most at_::L) w':=by
 have a:=ZN H;have d:w.cell? ⟨gv,0,none⟩=some (.pointer (some ⟨gx,0,none⟩)):=a.cell 2 rfl 0;have f:w.cell? ⟨gx,0,none⟩=some (.pointer (some ⟨gr,0,none⟩)):=a.cell 1 rfl 0;clear H;go_enter Tryd.func155,Tryd.ntmps155
 go_wp2_with fail
 refine(YY gr l at_ 1 a (by omega) (by omega) (by omega) (by omega)).mono ?_;rintro _ g ⟨rfl,b⟩;have c:=b.sep a;go_wp2_with fail
 go_ret2;exact⟨rfl,Z6 c⟩
end Go.Proofs.YteajimobgkempaaDoor

