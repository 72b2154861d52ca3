/- A pack of texts: InfH. -/
import Derived.Test.YtloijdbkikccgaaDoorPk37
namespace Go.Proofs.YtloijdbkikccgaaDoor
set_option linter.unusedVariables false
set_option linter.unusedSimpArgs false
open Go.RowKit
theorem xor_ffff (n:Nat) (h:n<65536):n ^^^ 65535=65535 - n:=by
 have h1:(BitVec.ofNat 16 n ^^^ BitVec.allOnes 16).toNat=(~~~ (BitVec.ofNat 16 n)).toNat:=by rw [BitVec.xor_allOnes]
 rw [BitVec.toNat_xor,BitVec.toNat_not,BitVec.toNat_allOnes,BitVec.toNat_ofNat,Nat.mod_eq_of_lt (by simpa using h)] at h1
 simpa using h1
theorem xor_ffff_i64 (n:Nat) (h:n<65536):bits .xor .i64 (n:Int) 65535=((65535 - n:Nat):Int):=by
 show IntKind.i64.wrap ((BitVec.ofInt 64 (n:Int) ^^^ BitVec.ofInt 64 ((65535:Nat):Int)).toNat:Int)=_
 rw [BitVec.toNat_xor,ofInt_u64 n (by omega),ofInt_u64 65535 (by omega),xor_ffff n h]
 exact Go.Lib.wrap_i64_small _ (by omega)
theorem PI.bytes_of (l:List UInt8) (q n:Nat) (h:q+n≤l.length):PI.bytesAt (PBits.ofB l) (8 * q) n=(l.drop q).take n:=by
 have hl:((l.drop q).take n).length=n:=by rw [List.length_take,List.length_drop]; omega
 have e:l=l.take q++((l.drop q).take n++(l.drop q).drop n):=by rw [List.take_append_drop,List.take_append_drop]
 have h1:PI.At (PBits.ofB l) (8 * q) (PBits.ofB ((l.drop q).take n)):=by
  have e2:PBits.ofB l=PBits.ofB (l.take q)++PBits.ofB ((l.drop q).take n)++PBits.ofB ((l.drop q).drop n):=by
   conv=>lhs; rw [e]
   rw [PI.PBits.ofB_append,PI.PBits.ofB_append,List.append_assoc]
  have h3:=PI.At.mid (PBits.ofB (l.take q)) (PBits.ofB ((l.drop q).take n)) (PBits.ofB ((l.drop q).drop n))
  rw [← e2,PBits.ofB_length,List.length_take,Nat.min_eq_left (by omega)] at h3
  exact h3
 have h2:=PI.bytes_at _ h1
 rw [hl] at h2
 exact h2
set_option maxRecDepth 100000 in
set_option maxHeartbeats 2000000 in
theorem xstored_ok (gx gr:Nat) (l out:List UInt8) (most at_:Nat) (vo vb:Value) {w0 w:World} {L:List Pr} (H:Sp w0 (Rr gr l at_::XpB gx gr vo most vb::Row 5 1 vo out.length (cells8 out)::L) w) (ha:at_≤8 * l.length) (hl:l.length≤100000000) (ho:out.length≤most) (hm:most≤1000000000) :
  Calls Tryd.prog 92 #[.pointer (some ⟨gx,0,none⟩)] w
   (XPost w0 L (PI.stored (PBits.ofB l) most at_ out) fun r e w'=>e=.returned (.tuple #[])∧∃ vo',Sp w0 (Rr gr l r.1::XpB gx gr vo' most vb::Row 5 1 vo' r.2.length (cells8 r.2)::L) w'):=by
 obtain ⟨i0,hi,hz0,hz1,hz2⟩:=info_parts info8
 obtain ⟨T,hT⟩:∃ T,PI.stored (PBits.ofB l) most at_ out=T:=⟨_,rfl⟩
 rw [hT]
 unfold PI.stored at hT
 obtain ⟨VA,vc,rfl,hnc,hcm⟩:=Row.form H 2 rfl
 obtain ⟨q,hq⟩:∃ q,(at_+7) / 8=q:=⟨_,rfl⟩
 have hqe:(at_+7) / 8 * 8=8 * q:=by omega
 rw [hqe] at hT
 have hql:q≤l.length:=by omega
 have HT:=Lib.hid hT
 have HL:=Lib.hid hl
 have HCM:=Lib.hid hcm
 have c0:w.cell? ⟨gx,0,none⟩=some (.pointer (some ⟨gr,0,none⟩)):=H.cell 1 rfl 0
 have h0:=ralign_ok gr l at_ H ha (by omega)
 rw [hqe] at h0
 have H0:=Lib.hid h0
 clear hT hq hqe hcm h0
 go_enter Tryd.func92,Tryd.ntmps92
 go_wp2_with fail
 refine H0.out.mono ?_
 rintro _ w1 ⟨rfl,H1⟩
 have HQ:=Lib.hid (xnum_ok gx gr l most (8 * q) 16 _ vb H1 (by omega) (by omega) HL.out)
 clear H H0 c0
 go_wp2_with fail
 refine HQ.out.mono ?_
 intro e9 w2 h9
 cases hr:PI.number (PBits.ofB l) (8 * q) 16 with
 | error c =>
  rw [hr] at h9
  obtain ⟨rfl,H2⟩:=h9
  have HE:Hid (T=.error c):=by rw [← HT.out,hr]; exact Lib.hid rfl
  clear hr HQ HT
  go_wp2
  exact ⟨rfl,XPost.no HE.out H2.tail⟩
 | ok r =>
  obtain ⟨e1,hle⟩:=PI.number_ok hr
  have hn:=PI.numAt_small (PBits.ofB l) (8 * q) 16 16 (by omega)
  subst e1
  obtain ⟨n,hn2⟩:∃ x,PI.numAt (PBits.ofB l) (8 * q) 16=x:=⟨_,rfl⟩
  rw [hr] at h9
  rw [hn2] at hr hn h9
  rw [PBits.ofB_length] at hle
  obtain ⟨rfl,H2⟩:=h9
  have HT2:Hid ((PI.number (PBits.ofB l) (8 * q+16) 16).bind (fun k=>if k.2≠65535 - n then .error 20 else if ((PBits.ofB l).length - k.1) / 8<n then (if most - out.length<((PBits.ofB l).length - k.1) / 8 then .error 22 else .error 4) else if most - out.length<n then .error 22 else .ok (k.1+8 * n,out++PI.bytesAt (PBits.ofB l) k.1 n))=T):=by
   rw [← HT.out,hr]; exact Lib.hid rfl
  have HQ2:=Lib.hid (xnum_ok gx gr l most (8 * q+16) 16 _ vb H2 hle (by omega) HL.out)
  clear HT HQ hr hn2 H1
  go_wp2_with fail
  refine HQ2.out.mono ?_
  intro e9 w3 h9
  cases hr:PI.number (PBits.ofB l) (8 * q+16) 16 with
  | error c =>
   rw [hr] at h9
   obtain ⟨rfl,H3⟩:=h9
   have HE:Hid (T=.error c):=by rw [← HT2.out,hr]; exact Lib.hid rfl
   clear hr HQ2 HT2
   go_wp2
   exact ⟨rfl,XPost.no HE.out H3.tail⟩
  | ok r =>
   obtain ⟨e1,hle2⟩:=PI.number_ok hr
   have hx:=PI.numAt_small (PBits.ofB l) (8 * q+16) 16 16 (by omega)
   subst e1
   obtain ⟨x,hx2⟩:∃ x,PI.numAt (PBits.ofB l) (8 * q+16) 16=x:=⟨_,rfl⟩
   rw [hr] at h9
   rw [hx2] at hr hx h9
   rw [PBits.ofB_length] at hle2
   obtain ⟨rfl,H3⟩:=h9
   have HT3:Hid ((if x≠65535 - n then .error 20 else if (8 * l.length - (8 * q+16+16)) / 8<n then (if most - out.length<(8 * l.length - (8 * q+16+16)) / 8 then .error 22 else .error 4) else if most - out.length<n then .error 22 else .ok (8 * q+16+16+8 * n,out++PI.bytesAt (PBits.ofB l) (8 * q+16+16) n):Except Nat (Nat × List UInt8))=T):=by
    rw [← HT2.out,hr,PBits.ofB_length]; exact Lib.hid rfl
   have hxo:=xor_ffff_i64 n hn
   clear HT2 HQ2 hr hx2 H2
   by_cases hne:x=65535 - n
   ·have g1:((x:Int) != ((65535 - n:Nat):Int))=false:=by simp [hne]
    have g2:(x:Int)=((65535 - n:Nat):Int):=by rw [hne]
    have HT4:Hid ((if (8 * l.length - (8 * q+16+16)) / 8<n then (if most - out.length<(8 * l.length - (8 * q+16+16)) / 8 then .error 22 else .error 4) else if most - out.length<n then .error 22 else .ok (8 * q+16+16+8 * n,out++PI.bytesAt (PBits.ofB l) (8 * q+16+16) n):Except Nat (Nat × List UInt8))=T):=by
     rw [← HT3.out,if_neg (show ¬ (x≠65535 - n) by simpa using hne)]; exact Lib.hid rfl
    obtain ⟨q2,hq2⟩:∃ q2,q+4=q2:=⟨_,rfl⟩
    have hq3:8 * q+16+16=8 * q2:=by omega
    obtain ⟨lf,hlf⟩:∃ lf,(8 * l.length - 8 * q2) / 8=lf:=⟨_,rfl⟩
    rw [hq3,hlf] at HT4
    rw [hq3] at H3
    have hq2l:q2+lf=l.length:=by omega
    have HLF:=Lib.hid hlf
    have c0:w3.cell? ⟨gx,0,none⟩=some (.pointer (some ⟨gr,0,none⟩)):=H3.cell 1 rfl 0
    have HLE:=Lib.hid (left_ok gr l (8 * q2) H3 (by omega) (by omega))
    obtain ⟨L8,hL8⟩:∃ L8,8 * l.length - 8 * q2=L8:=⟨_,rfl⟩
    rw [hL8] at HLE
    have y1:(L8:Int) / 8=(lf:Int):=by omega
    subst hne
    clear HT3 hq2 hq3 hlf hL8 hxo g2
    have hxo:=xor_ffff_i64 n hn
    go_wp2_with fail
    refine HLE.out.mono ?_
    rintro _ w4 ⟨rfl,hK⟩
    have H4:=hK.sep H3
    clear H3 HLE hK c0
    by_cases hsh:lf<n
    ·have y2:(lf:Int)<(n:Int):=by omega
     have HT5:Hid ((if most - out.length<lf then .error 22 else .error 4:Except Nat (Nat × List UInt8))=T):=by
      rw [← HT4.out,if_pos hsh]; exact Lib.hid rfl
     have HR:=Lib.hid (xroom_ok gx gr most out.length vc lf VA vb (H4.pick 2 [1]) ho (by omega) (by omega))
     clear HT4
     go_wp2_with fail
     refine HR.out.mono ?_
     rintro _ w5 ⟨rfl,hK⟩
     have H5:=hK.sep H4
     by_cases hroom:most - out.length<lf
     ·rw [if_pos hroom]
      have HE:Hid (T=.error 22):=by rw [← HT5.out,if_pos hroom]; exact Lib.hid rfl
      clear HT5 HR
      go_wp2
      exact ⟨rfl,XPost.no HE.out (H5.pick 3 [])⟩
     ·rw [if_neg hroom]
      have HE:Hid (T=.error 4):=by rw [← HT5.out,if_neg hroom]; exact Lib.hid rfl
      clear HT5 HR
      go_wp2
      exact ⟨rfl,XPost.no HE.out (H5.pick 3 [])⟩
    ·have y2:¬ (lf:Int)<(n:Int):=by omega
     have HT5:Hid ((if most - out.length<n then .error 22 else .ok (8 * q2+8 * n,out++PI.bytesAt (PBits.ofB l) (8 * q2) n):Except Nat (Nat × List UInt8))=T):=by
      rw [← HT4.out,if_neg hsh]; exact Lib.hid rfl
     have HR:=Lib.hid (xroom_ok gx gr most out.length vc n VA vb (H4.pick 2 [1]) ho (by omega) (by omega))
     clear HT4
     go_wp2_with fail
     refine HR.out.mono ?_
     rintro _ w5 ⟨rfl,hK⟩
     have H5:=hK.sep H4
     by_cases hroom:most - out.length<n
     ·rw [if_pos hroom]
      have HE:Hid (T=.error 22):=by rw [← HT5.out,if_pos hroom]; exact Lib.hid rfl
      clear HT5 HR
      go_wp2
      exact ⟨rfl,XPost.no HE.out (H5.pick 3 [])⟩
     ·rw [if_neg hroom]
      have HE:Hid (T=.ok (8 * (q2+n),out++(l.drop q2).take n)):=by
       rw [← HT5.out,if_neg hroom,PI.bytes_of l q2 n (by omega),Nat.mul_add]; exact Lib.hid rfl
      have c0:w5.cell? ⟨gx,0,none⟩=some (.pointer (some ⟨gr,0,none⟩)):=H5.cell 1 rfl 0
      have HB:=Lib.hid (rbytes_ok gr l q2 n H5 (by omega) (by omega))
      clear HT5 HR H4 hK
      go_wp2_with fail
      refine HB.out.mono ?_
      rintro _ w6 ⟨_,rfl,u,rfl,H6⟩
      clear HB H5 c0
      have c1:w6.cell? ⟨gx,1,none⟩=some (.slice VA out.length vc):=H6.cell 2 rfl 1
      go_wp2_with fail
      refine (fail_ok w6).mono ?_
      rintro _ w7 ⟨rfl,rfl⟩
      obtain ⟨UA,uc,rfl,hu1,hu2⟩:=Row.form H6 0 rfl
      have hlen:(cells8 ((l.drop q2).take n)).length=n:=by simp [cells8]; omega
      have HCM2:=HCM.out
      have hmx:maxLen=9223372036854775807:=rfl
      go_wp2_with (at_builtin; refine wpList_append_sp rfl _ _ 25 rfl 5 i0 (.int .u8 0) 1 1 Tryd.underlying25 hi hz0 hz1 hz2 rfl (by decide) _ out.length (cells8 out) rfl (H6.pick 4 [3,0,1,2]) UA n uc (cells8 ((l.drop q2).take n)) rfl (by rw [hlen,Nat.mul_one]) (row_ent 0 rfl _ _ H6) (cells8_one _) (by omega) (by omega) ?_)
      intro v8 w8 H8 _
      obtain ⟨VA8,vc8,rfl,_,_⟩:=Row.form H8 0 rfl
      have H9:=H8.pick 4 [3,0,2]
      have c1:w8.cell? ⟨gx,1,none⟩=some (.slice VA out.length vc):=H9.cell 0 rfl 1
      have z1:w8.frozen? ⟨gx,1,none⟩=false:=H9.frozen 0 rfl 1
      have H10:=H9.set 1 (.slice VA8 (out.length+n) vc8)
      have HLN:Hid ((out++(l.drop q2).take n).length=out.length+n):=by
       have:((l.drop q2).take n).length=n:=by simpa [cells8] using hlen
       rw [List.length_append,this]; exact Lib.hid rfl
      clear H6 H8 hmx hlen
      go_wp2
      go_end0
      refine XPost.yes HE.out ⟨rfl,.slice VA8 (out.length+n) vc8,?_⟩
      have ec:cells8 (out++(l.drop q2).take n)=cells8 out++cells8 ((l.drop q2).take n):=by simp [cells8]
      show Sp w0 (Rr gr l (8 * (q2+n))::XpB gx gr (.slice VA8 (out.length+n) vc8) most vb::Row 5 1 (.slice VA8 (out.length+n) vc8) (out++(l.drop q2).take n).length (cells8 (out++(l.drop q2).take n))::L) _
      rw [HLN.out,ec]
      exact H10.pick 3 [2,0,1]
   ·have g1:((x:Int) != ((65535 - n:Nat):Int))=true:=by simp; omega
    have g2:¬ (x:Int)=((65535 - n:Nat):Int):=by omega
    have HE:Hid (T=.error 20):=by rw [← HT3.out,if_pos hne]; exact Lib.hid rfl
    clear HT3
    go_wp2
    exact ⟨rfl,XPost.no HE.out (H3.pick 3 [])⟩
end Go.Proofs.YtloijdbkikccgaaDoor

