/- A pack. -/
import Derived.Test.YteajimobgkempaaDoorPk25
set_option linter.all false
set_option maxRecDepth 100000
set_option maxHeartbeats 8000000
namespace Go.Proofs.YteajimobgkempaaDoor
variable {w0 w:World} {L:List Pr}
open Go.RowKit
theorem WQ (n:Nat) (h:n<65536):n ^^^ 65535=65535 - n:=by
 have a:(BitVec.ofNat 16 n ^^^ BitVec.allOnes 16).toNat=(~~~ (BitVec.ofNat 16 n)).toNat:=by rw [BitVec.xor_allOnes]
 rw [BitVec.toNat_xor,BitVec.toNat_not,BitVec.toNat_allOnes,BitVec.toNat_ofNat,Nat.mod_eq_of_lt (by simpa using h)] at a;simpa using a
theorem ZH (n:Nat) (h:n<65536):bits .xor .i64 (n:Int) 65535=((65535 - n:Nat):Int):=by
 show IntKind.i64.wrap ((BitVec.ofInt 64 (n:Int) ^^^ BitVec.ofInt 64 ((65535:Nat):Int)).toNat:Int)=_;rw [BitVec.toNat_xor,ofInt_u64 n (by omega),ofInt_u64 65535 (by omega),WQ n h];exact Go.Lib.wrap_i64_small _ (by omega)
theorem PI.bytes_of (l:List UInt8) (q n:Nat) (h:q+n<=l.length):PI.bytesAt (PBits.ofB l) (8 * q) n=(l.drop q).take n:=by
 have c:((l.drop q).take n).length=n:=by rw [List.length_take,List.length_drop]; omega
 have e:l=l.take q++((l.drop q).take n++(l.drop q).drop n):=by rw [List.take_append_drop,List.take_append_drop]
 have d:PI.At (PBits.ofB l) (8 * q) (PBits.ofB ((l.drop q).take n)):=by
  have f:PBits.ofB l=PBits.ofB (l.take q)++PBits.ofB ((l.drop q).take n)++PBits.ofB ((l.drop q).drop n):=by
   conv=>lhs; rw [e]
   rw [PI.PBits.ofB_append,PI.PBits.ofB_append,List.append_assoc]
  have a:=PI.At.mid (PBits.ofB (l.take q)) (PBits.ofB ((l.drop q).take n)) (PBits.ofB ((l.drop q).drop n));rw [<- f,PBits.ofB_length,List.length_take,Nat.min_eq_left (by omega)] at a;exact a
 have b:=PI.bytes_at _ d;rw [c] at b;exact b
theorem XO (gx gr:Nat) (l out:List UInt8) (most at_:Nat) (vo vb:Value) (H:Sp w0 (Rr gr l at_::XpB gx gr vo most vb::Row 5 1 vo out.length (cells8 out)::L) w) (ha:at_<=8 * l.length) (hl:l.length<=100000000) (ho:out.length<=most) (hm:most<=1000000000) :
  Calls Tryd.prog 96 #[.pointer (some ⟨gx,0,none⟩)] w
   (XPost w0 L (PI.stored (PBits.ofB l) most at_ out) fun r e w'=>e=.returned (.tuple #[])/\∃vo',Sp w0 (Rr gr l r.1::XpB gx gr vo' most vb::Row 5 1 vo' r.2.length (cells8 r.2)::L) w'):=by
 obtain⟨i0,hi,Y,Z,a0⟩:=info_parts info8;obtain⟨T,F⟩:=exq (PI.stored (PBits.ofB l) most at_ out);rw [F];unfold PI.stored at F;obtain⟨U,V,rfl,a8,G⟩:=Row.form H 2 rfl;obtain⟨q,hq⟩:=exq ((at_+7) / 8);have v:(at_+7) / 8 * 8=8 * q:=by omega
 rw [v] at F;have a9:q<=l.length:=by omega
 have W:=hid F;have HL:=hid hl;have a1:=hid G;have I:w.cell? ⟨gx,0,none⟩=some (.pointer (some ⟨gr,0,none⟩)):=H.cell 1 rfl 0;have h0:=Wb gr l at_ H ha (by omega);rw [v] at h0;have H0:=hid h0;clear F hq v G h0;go_enter Tryd.func96,Tryd.ntmps96
 go_wp2_with fail
 refine H0.out.mono ?_;rintro _ w1 ⟨rfl,H1⟩;have HQ:=hid (Zl gx gr l most (8 * q) 16 _ vb H1 (by omega) (by omega) HL.out);clear H H0 I;go_wp2_with fail
 refine HQ.out.mono ?_;intro e9 w2 f;cases hr:PI.number (PBits.ofB l) (8 * q) 16 with
 | error c =>
  rw [hr] at f;obtain⟨rfl,X⟩:=f;have d:Hid (T=.error c):=by rw [<- W.out,hr]; exact hid rfl
  clear hr HQ W;go_wp2;exact⟨rfl,XPost.no d.out X.tail⟩
 | ok r =>
  obtain⟨e1,J⟩:=PI.number_ok hr;have hn:=PI.numAt_small (PBits.ofB l) (8 * q) 16 16 (by omega);subst e1;obtain⟨n,K⟩:=exq (PI.numAt (PBits.ofB l) (8 * q) 16);rw [hr] at f;rw [K] at hr hn f;rw [PBits.ofB_length] at J;obtain⟨rfl,X⟩:=f;have j:Hid ((PI.number (PBits.ofB l) (8 * q+16) 16).bind (fun k=>if k.2≠65535 - n then .error 20 else if ((PBits.ofB l).length - k.1) / 8<n then (if most - out.length<((PBits.ofB l).length - k.1) / 8 then .error 22 else .error 4) else if most - out.length<n then .error 22 else .ok (k.1+8 * n,out++PI.bytesAt (PBits.ofB l) k.1 n))=T):=by
   rw [<- W.out,hr]; exact hid rfl
  have y:=hid (Zl gx gr l most (8 * q+16) 16 _ vb X J (by omega) HL.out);clear W HQ hr K H1;go_wp2_with fail
  refine y.out.mono ?_;intro e9 w3 f;cases hr:PI.number (PBits.ofB l) (8 * q+16) 16 with
  | error c =>
   rw [hr] at f;obtain⟨rfl,s⟩:=f;have d:Hid (T=.error c):=by rw [<- j.out,hr]; exact hid rfl
   clear hr y j;go_wp2;exact⟨rfl,XPost.no d.out s.tail⟩
  | ok r =>
   obtain⟨e1,M⟩:=PI.number_ok hr;have hx:=PI.numAt_small (PBits.ofB l) (8 * q+16) 16 16 (by omega);subst e1;obtain⟨x,N⟩:=exq (PI.numAt (PBits.ofB l) (8 * q+16) 16);rw [hr] at f;rw [N] at hr hx f;rw [PBits.ofB_length] at M;obtain⟨rfl,s⟩:=f;have m:Hid ((if x≠65535 - n then .error 20 else if (8 * l.length - (8 * q+16+16)) / 8<n then (if most - out.length<(8 * l.length - (8 * q+16+16)) / 8 then .error 22 else .error 4) else if most - out.length<n then .error 22 else .ok (8 * q+16+16+8 * n,out++PI.bytesAt (PBits.ofB l) (8 * q+16+16) n):Except Nat (Nat × List UInt8))=T):=by
    rw [<- j.out,hr,PBits.ofB_length]; exact hid rfl
   have O:=ZH n hn;clear j y hr N X;by_cases g:x=65535 - n
   ·have g1:((x:Int) != ((65535 - n:Nat):Int))=false:=by simp [g]
    have g2:(x:Int)=((65535 - n:Nat):Int):=by rw [g]
    have h:Hid ((if (8 * l.length - (8 * q+16+16)) / 8<n then (if most - out.length<(8 * l.length - (8 * q+16+16)) / 8 then .error 22 else .error 4) else if most - out.length<n then .error 22 else .ok (8 * q+16+16+8 * n,out++PI.bytesAt (PBits.ofB l) (8 * q+16+16) n):Except Nat (Nat × List UInt8))=T):=by
     rw [<- m.out,if_neg (show ¬ (x≠65535 - n) by simpa using g)]; exact hid rfl
    obtain⟨q2,a2⟩:=exq (q+4);have z:8 * q+16+16=8 * q2:=by omega
    obtain⟨t,A⟩:=exq ((8 * l.length - 8 * q2) / 8);rw [z,A] at h;rw [z] at s;have a6:q2+t=l.length:=by omega
    have b0:=hid A;have I:w3.cell? ⟨gx,0,none⟩=some (.pointer (some ⟨gr,0,none⟩)):=s.cell 1 rfl 0;have B:=hid (Yi gr l (8 * q2) s (by omega) (by omega));obtain⟨L8,P⟩:=exq (8 * l.length - 8 * q2);rw [P] at B;have y1:(L8:Int) / 8=(t:Int):=by omega
    subst g;clear m a2 z A P O g2;have O:=ZH n hn;go_wp2_with fail
    refine B.out.mono ?_;rintro _ w4 ⟨rfl,C⟩;have Q:=C.sep s;clear s B C I;by_cases R:t<n
    ·have y2:(t:Int)<(n:Int):=by omega
     have b:Hid ((if most - out.length<t then .error 22 else .error 4:Except Nat (Nat × List UInt8))=T):=by
      rw [<- h.out,if_pos R]; exact hid rfl
     have D:=hid (Z8 gx gr most out.length V t U vb (Q.pick 2 [1]) ho (by omega) (by omega));clear h;go_wp2_with fail
     refine D.out.mono ?_;rintro _ w5 ⟨rfl,C⟩;have E:=C.sep Q;by_cases a:most - out.length<t
     ·rw [if_pos a];have d:Hid (T=.error 22):=by rw [<- b.out,if_pos a]; exact hid rfl
      clear b D;go_wp2;exact⟨rfl,XPost.no d.out (E.pick 3 [])⟩
     ·rw [if_neg a];have d:Hid (T=.error 4):=by rw [<- b.out,if_neg a]; exact hid rfl
      clear b D;go_wp2;exact⟨rfl,XPost.no d.out (E.pick 3 [])⟩
    ·have y2:¬ (t:Int)<(n:Int):=by omega
     have b:Hid ((if most - out.length<n then .error 22 else .ok (8 * q2+8 * n,out++PI.bytesAt (PBits.ofB l) (8 * q2) n):Except Nat (Nat × List UInt8))=T):=by
      rw [<- h.out,if_neg R]; exact hid rfl
     have D:=hid (Z8 gx gr most out.length V n U vb (Q.pick 2 [1]) ho (by omega) (by omega));clear h;go_wp2_with fail
     refine D.out.mono ?_;rintro _ w5 ⟨rfl,C⟩;have E:=C.sep Q;by_cases a:most - out.length<n
     ·rw [if_pos a];have d:Hid (T=.error 22):=by rw [<- b.out,if_pos a]; exact hid rfl
      clear b D;go_wp2;exact⟨rfl,XPost.no d.out (E.pick 3 [])⟩
     ·rw [if_neg a];have d:Hid (T=.ok (8 * (q2+n),out++(l.drop q2).take n)):=by
       rw [<- b.out,if_neg a,PI.bytes_of l q2 n (by omega),Nat.mul_add]; exact hid rfl
      have I:w5.cell? ⟨gx,0,none⟩=some (.pointer (some ⟨gr,0,none⟩)):=E.cell 1 rfl 0;have HB:=hid (Wc gr l q2 n E (by omega) (by omega));clear b D Q C;go_wp2_with fail
      refine HB.out.mono ?_;rintro _ w6 ⟨_,rfl,u,rfl,S⟩;clear HB E I;have c1:w6.cell? ⟨gx,1,none⟩=some (.slice U out.length V):=S.cell 2 rfl 1;go_wp2_with fail
      refine(Xb w6).mono ?_;rintro _ w7 ⟨rfl,rfl⟩;obtain⟨UA,uc,rfl,b1,b2⟩:=Row.form S 0 rfl;have i:(cells8 ((l.drop q2).take n)).length=n:=by simp [cells8]; omega
      have a7:=a1.out;have a3:maxLen=9223372036854775807:=rfl;go_wp2_with (at_builtin; refine wpList_append_sp rfl _ _ 25 rfl 5 i0 (.int .u8 0) 1 1 Tryd.underlying25 hi Y Z a0 rfl (by decide) _ out.length (cells8 out) rfl (S.pick 4 [3,0,1,2]) UA n uc (cells8 ((l.drop q2).take n)) rfl (by rw [i,Nat.mul_one]) (row_ent 0 rfl _ _ S) (Zr _) (by omega) (by omega) ?_)
      intro v8 w8 H8 _;obtain⟨o,p,rfl,_,_⟩:=Row.form H8 0 rfl;have H9:=H8.pick 4 [3,0,2];have c1:w8.cell? ⟨gx,1,none⟩=some (.slice U out.length V):=H9.cell 0 rfl 1;have z1:w8.frozen? ⟨gx,1,none⟩=false:=H9.frozen 0 rfl 1;have a4:=H9.set 1 (.slice o (out.length+n) p);have a5:Hid ((out++(l.drop q2).take n).length=out.length+n):=by
       have:((l.drop q2).take n).length=n:=by simpa [cells8] using i
       rw [List.length_append,this]; exact hid rfl
      clear S H8 a3 i;go_wp2;go_end0;refine XPost.yes d.out ⟨rfl,.slice o (out.length+n) p,?_⟩;have ec:cells8 (out++(l.drop q2).take n)=cells8 out++cells8 ((l.drop q2).take n):=by simp [cells8]
      show Sp w0 (Rr gr l (8 * (q2+n))::XpB gx gr (.slice o (out.length+n) p) most vb::Row 5 1 (.slice o (out.length+n) p) (out++(l.drop q2).take n).length (cells8 (out++(l.drop q2).take n))::L) _;rw [a5.out,ec];exact a4.pick 3 [2,0,1]
   ·have g1:((x:Int) != ((65535 - n:Nat):Int))=true:=by simp; omega
    have g2:¬ (x:Int)=((65535 - n:Nat):Int):=by omega
    have d:Hid (T=.error 20):=by rw [<- m.out,if_pos g]; exact hid rfl
    clear m;go_wp2;exact⟨rfl,XPost.no d.out (s.pick 3 [])⟩
end Go.Proofs.YteajimobgkempaaDoor

