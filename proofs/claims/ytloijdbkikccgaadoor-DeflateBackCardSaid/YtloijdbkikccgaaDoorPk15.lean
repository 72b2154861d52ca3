/- A pack of texts: BitsS2 BitsS3 BitsR BitsQ BitsP BitsO BitsThing. -/
import Derived.Test.YtloijdbkikccgaaDoorPk02
import Derived.Test.YtloijdbkikccgaaDoorPk03
import Derived.Test.YtloijdbkikccgaaDoorPk14
namespace Go.Proofs.YtloijdbkikccgaaDoor
open Go.RowKit
theorem two64 (a:Nat) (h:a≤64):2 ^ a≤18446744073709551616:=by
 have:=Nat.pow_le_pow_right (n:=2) (by decide) h
 exact this
theorem wait_lt (V N:Nat) (h:V<2 ^ N):V / 256 ^ (N / 8)<2 ^ (N % 8):=by
 have h1:(256:Nat) ^ (N / 8)=2 ^ (8 * (N / 8)):=by rw [show (256:Nat)=2 ^ 8 by decide,← Nat.pow_mul]
 rw [h1]
 apply Nat.div_lt_of_lt_mul
 rw [← Nat.pow_add]
 rwa [show 8 * (N / 8)+N % 8=N by omega]
set_option maxRecDepth 100000 in
set_option maxHeartbeats 2000000 in
theorem put_ok (g V N n k:Nat) {w0 w:World} {L:List Pr} (H:Sp w0 (Wr g V N::L) w) (hV:V<2 ^ N) (hk:k≤57) (hn:n<2 ^ k) (hN:N≤1000000000) :
  Calls Tryd.prog 110 #[.pointer (some ⟨g,0,none⟩),.int .u64 (n:Int),.int .i64 (k:Int)] w fun e w'=>e=.returned (.int .i64 0)∧Sp w0 (Wr g (V+n * 2 ^ N) (N+k)::L) w':=by
 obtain ⟨v,H⟩:=H.unex
 replace H:=H.unstar
 have d1:((n:Int) / 2 ^ k == 0)=true:=by
  rw [beq_iff_eq]
  have:n / 2 ^ k=0:=Nat.div_eq_of_lt hn
  exact_mod_cast this
 have c3:w.cell? ⟨g,3,none⟩=some (.bool true):=H.cell 0 rfl 3
 go_enter Tryd.func110,Tryd.ntmps110
 go_wp2_with fail
 refine (wasks_ok g k _ c3 (by omega) (by omega)).mono ?_
 rintro e w2 ⟨rfl,rfl⟩
 clear d1 c3
 obtain ⟨m,hm⟩:∃ m,m=N % 8:=⟨_,rfl⟩
 obtain ⟨wt,hwt⟩:∃ wt,wt=V / 256 ^ (N / 8):=⟨_,rfl⟩
 rw [← hm,← hwt] at H
 have hm8:m<8:=by omega
 have hwm:wt<2 ^ m:=by rw [hwt,hm]; exact wait_lt V N hV
 have hw64:wt<18446744073709551616:=Nat.lt_of_lt_of_le hwm (two64 _ (by omega))
 have hx:n * 2 ^ m<18446744073709551616:=by
  have h1:n * 2 ^ m<2 ^ k * 2 ^ m:=Nat.mul_lt_mul_of_pos_right hn (Nat.two_pow_pos m)
  rw [← Nat.pow_add] at h1
  exact Nat.lt_of_lt_of_le h1 (two64 _ (by omega))
 have s1:IntKind.u64.wrap ((n:Int) * 2 ^ m)=((n * 2 ^ m:Nat):Int):=by
  rw [show ((n:Int) * 2 ^ m)=((n * 2 ^ m:Nat):Int) by simp,IntKind.wrap_u64]
  generalize n * 2 ^ m=q at hx
  omega
 have s2:bits .or .u64 (wt:Int) ((n * 2 ^ m:Nat):Int)=((wt+n * 2 ^ m:Nat):Int):=by
  rw [u64_or_nat _ _ hw64 hx,Nat.mul_comm n,Nat.add_comm,Nat.two_pow_add_eq_or_of_lt hwm,Nat.or_comm]
 obtain ⟨sh,hsh⟩:∃ sh,sh=n * 2 ^ m:=⟨_,rfl⟩
 rw [← hsh] at s1 s2
 obtain ⟨w1,hw1⟩:∃ w1,w1=wt+sh:=⟨_,rfl⟩
 rw [← hw1] at s2
 have e1:w1=(V+n * 2 ^ N) / 256 ^ (N / 8):=by rw [PBits.put_wait,hw1,hsh,hwt,hm]
 have e2:m+k=N+k - 8 * (N / 8):=by rw [hm]; omega
 have E1:=Lib.hid e1
 have E2:=Lib.hid e2
 clear hsh hw1 hx hm hwt e1 e2
 have c1:w.cell? ⟨g,1,none⟩=some (.int .u64 (wt:Int)):=H.cell 0 rfl 1
 have c2:w.cell? ⟨g,2,none⟩=some (.int .i64 (m:Int)):=H.cell 0 rfl 2
 have z1:w.frozen? ⟨g,1,none⟩=false:=H.frozen 0 rfl 1
 have z2:w.frozen? ⟨g,2,none⟩=false:=H.frozen 0 rfl 2
 go_wp2
 go_still_tail 13,(by kernel_rfl)
 change wpList _ _ _ _ _ w.drew
 go_wp2
 go_loopw [] (fun wr=>∃ (q mm:Nat) (v:Value),N / 8≤q∧mm+8 * q=N+k∧Sp w0 (WrB g v ((V+n * 2 ^ N) / 256 ^ q) mm::Row 5 1 v q (cells8 (PBits.bytesOf (V+n * 2 ^ N) q))::L) wr) (fun wr=>match wr.cell? ⟨g,2,none⟩ with | some i=>(intOf i).toNat | none=>0)
 case atStart =>
  refine ⟨N / 8,m+k,v,Nat.le_refl _,by rw [E2.out]; omega,?_⟩
  rw [PBits.put_bytes,← E1.out]
  exact (H.drew.set 1 (.int .u64 (w1:Int))).set 2 (.int .i64 ((m:Int)+k))
 case round =>
  obtain ⟨q,mm,v',hq1,hq2,H⟩:=hrel
  clear z1 z2 c1 c2 s1 s2
  have r2:wr.cell? ⟨g,2,none⟩=some (.int .i64 (mm:Int)):=H.cell 0 rfl 2
  by_cases h8:8≤mm
  ·have h8' : (8:Int)≤mm:=by omega
   go_wp2
   obtain ⟨ww,hww⟩:∃ ww,ww=(V+n * 2 ^ N) / 256 ^ q:=⟨_,rfl⟩
   obtain ⟨bs,hbs⟩:∃ bs,bs=cells8 (PBits.bytesOf (V+n * 2 ^ N) q):=⟨_,rfl⟩
   rw [← hww,← hbs] at H
   have H0:=H
   have HW:=Lib.hid hww
   have HB:=Lib.hid hbs
   clear hww hbs
   refine wp_region_sc (L:=L) [some (.pointer (some ⟨g,0,none⟩)),some (.pointer (some ⟨g,0,none⟩)),some (.pointer (some ⟨g,0,none⟩)),some (.pointer (some ⟨g,0,none⟩)),some (v'),some (.pointer (some ⟨g,0,none⟩)),some (.pointer (some ⟨g,0,none⟩)),some (.pointer (some ⟨g,1,none⟩)),some (.int .u64 (ww:Int)),some (.int .u8 ((ww:Int) % 256)),none,none,some (.pointer (some ⟨g,0,none⟩)),some (.pointer (some ⟨g,0,none⟩)),some (undef)] (fun ix vx=>match ix with | 10=>(fun v=>v=.slice (some ⟨v.ownBlock.getD 0,0,none⟩) 1 1) vx | 11=>(fun _=>True) vx | _=>True) (fun ix vx=>match ix with | 10=>(fun v=>[Bk (v.ownBlock.getD 0) 5 [.int .u8 ((ww:Int) % 256)]]) vx | 11=>(fun v=>[Row 5 1 v (q+1) (bs++[.int .u8 ((ww:Int) % 256)])]) vx | 14=>(fun _=>[Ex fun u=>Star (WrB g u ww mm) (Row 5 1 u (q+1) (bs++[.int .u8 ((ww:Int) % 256)]))]) vx | _=>[]) (fun ix=>match ix with | 11=>[Row 5 1 v' q bs] | 14=>[WrB g v' ww mm] | _=>[]) 15 77
    [some 49,some 50,some 51,some 52,some 53,some 54,some 55,some 56,some 57,some 58,some 59,some 60,some 61,some 62,none]
    [[],[],[1],[2],[3],[],[5],[6],[7],[8],[9],[4,10],[0,0,1,2,3,4,5,6,7,8,9,10,11],[12,0,1,2,3,4,5,6,7,8,9,10,11],[13,11,11,0,1,2,3,4,5,6,7,8,9,10,11]]
    [[],[],[1],[1,2],[1,2,3],[],[5],[5,6],[5,6,7],[5,6,7,8],[5,6,7,8,9],[1,2,3,4,5,6,7,8,9,10],[0,1,2,3,4,5,6,7,8,9,10,11],[0,1,2,3,4,5,6,7,8,9,10,11,12],[0,1,2,3,4,5,6,7,8,9,10,11,12,13]]
    [[],[],[],[],[],[],[],[],[],[],[],[10],[],[],[11]] [[],[],[],[],[14],[],[],[],[14],[],[],[],[],[],[]] [(0,.pointer (some ⟨g,0,none⟩))]
    (by kernel_rfl) rfl (by decide) (by rfl) (by decide +kernel) rfl rfl (by simp) ((H.pick 2 [1,0])) ?hstep ?hend
   case hstep =>
    refine ⟨?p0,⟨?p1,⟨?p2,⟨?p3,⟨?p4,⟨?p5,⟨?p6,⟨?p7,⟨?p8,⟨?p9,⟨?p10,⟨?p11,⟨?p12,⟨?p13,⟨?p14,trivial⟩⟩⟩⟩⟩⟩⟩⟩⟩⟩⟩⟩⟩⟩⟩
    case p0 | p1 | p2 | p3 | p5 | p6 | p7 | p9 | p12 | p13 =>
     intro x wx A rest hDf hF hS hE H K hK
     replace hK:=Lib.hid hK
     clear hS hE hDf
     repeat (obtain ⟨_,hF⟩:=hF)
     change Oper.wp _ _ A wx K _
     go_step
     exact hK.out _ _ rfl H
    case p4 =>
     intro x wx A rest hDf hF hS hE H K hK0
     replace hDf:=Lib.hid hDf
     have e52:A.tmps[52]?.getD undef=.pointer (some ⟨g,0,none⟩):=((hS 3 (by decide)).2 52 rfl).trans (hS 3 (by decide)).1
     replace H:Sp w0 ((WrB g v' ww mm)::rest) wx:=H
     have hK:Hid (∀ (v:Value) (w' : World),v=v'→Sp w0 ((WrB g v' ww mm)::rest) w'→K (A.put (some 53) v) w'):=Lib.hid hK0
     clear hK0 hF hS hE
     have c:wx.cell? ⟨g,0,none⟩=some v':=H.cell 0 rfl 0
     change Oper.wp _ _ A wx K _
     go_step
     exact hK.out _ _ rfl (H)
    case p8 =>
     intro x wx A rest hDf hF hS hE H K hK0
     replace hDf:=Lib.hid hDf
     have e56:A.tmps[56]?.getD undef=.pointer (some ⟨g,1,none⟩):=((hS 7 (by decide)).2 56 rfl).trans (hS 7 (by decide)).1
     replace H:Sp w0 ((WrB g v' ww mm)::rest) wx:=H
     have hK:Hid (∀ (v:Value) (w' : World),v=.int .u64 (ww:Int)→Sp w0 ((WrB g v' ww mm)::rest) w'→K (A.put (some 57) v) w'):=Lib.hid hK0
     clear hK0 hF hS hE
     have c:wx.cell? ⟨g,1,none⟩=some (.int .u64 (ww:Int)):=H.cell 0 rfl 1
     change Oper.wp _ _ A wx K _
     go_step
     exact hK.out _ _ rfl (H)
    case p10 =>
     intro x wx A rest hDf hF hS hE H K hK0
     replace hDf:=Lib.hid hDf
     have e58:A.tmps[58]?.getD undef=.int .u8 ((ww:Int) % 256):=((hS 9 (by decide)).2 58 rfl).trans (hS 9 (by decide)).1
     replace H:Sp w0 (rest) wx:=H
     have hK:Hid (∀ (v:Value) (w' : World),v=.slice (some ⟨v.ownBlock.getD 0,0,none⟩) 1 1→Sp w0 ((Bk (v.ownBlock.getD 0) 5 [.int .u8 ((ww:Int) % 256)])::rest) w'→K (A.put (some 59) v) w'):=Lib.hid hK0
     clear hK0 hF hS hE
     change Oper.wp _ _ A wx K _
     go_step
     exact hK.out _ _ rfl (H.newBk _ _)
    case p11 =>
     intro x wx A rest hDf hF hS hE H K hK0
     replace hDf:=Lib.hid hDf
     have e53:A.tmps[53]?.getD undef=v':=((hS 4 (by decide)).2 53 rfl).trans (hS 4 (by decide)).1
     have q59:(x 10)=.slice (some ⟨(x 10).ownBlock.getD 0,0,none⟩) 1 1:=(hS 10 (by decide)).1
     have e59:A.tmps[59]?.getD undef=x 10:=(hS 10 (by decide)).2 59 rfl
     replace H:Sp w0 ((Row 5 1 v' q bs)::(Bk ((x 10).ownBlock.getD 0) 5 [.int .u8 ((ww:Int) % 256)])::rest) wx:=H
     have hK:Hid (∀ (v:Value) (w' : World),True→Sp w0 ((Row 5 1 v (q+1) (bs++[.int .u8 ((ww:Int) % 256)]))::rest) w'→K (A.put (some 60) v) w'):=Lib.hid hK0
     clear hK0 hF hS hE
     obtain ⟨g9,e9⟩:∃ g9,(x 10).ownBlock.getD 0=g9:=⟨_,rfl⟩
     rw [q59] at e59
     rw [e9] at e59 H
     change Oper.wp _ _ A wx K _
     obtain ⟨i0,hi,hz0,hz1,hz2⟩:=info_parts info8
     refine wp_append_sp _ _ 25 rfl 5 i0 (.int .u8 0) 1 1 Tryd.underlying25 hi hz0 hz1 hz2 rfl (by decide) v' q bs (ev e53) H (some ⟨g9,0,none⟩) 1 1 [.int .u8 ((ww:Int) % 256)] (ev e59) rfl (Rd.of_blk (H.blk 1 rfl)) (by intro u hu; rw [List.mem_singleton.1 hu]; rfl) (by simp only [maxLen]; omega) (by omega) ?_
     intro v1 w2 H2 _
     exact hK.out _ _ trivial H2.swap.tail
    case p14 =>
     intro x wx A rest hDf hF hS hE H K hK0
     replace hDf:=Lib.hid hDf
     have e62:A.tmps[62]?.getD undef=.pointer (some ⟨g,0,none⟩):=((hS 13 (by decide)).2 62 rfl).trans (hS 13 (by decide)).1
     have q60:True:=(hS 11 (by decide)).1
     have e60:A.tmps[60]?.getD undef=x 11:=(hS 11 (by decide)).2 60 rfl
     replace H:Sp w0 ((WrB g v' ww mm)::(Row 5 1 (x 11) (q+1) (bs++[.int .u8 ((ww:Int) % 256)]))::rest) wx:=H
     have hK:Hid (∀ (v:Value) (w' : World),v=undef→Sp w0 ((Ex fun u=>Star (WrB g u ww mm) (Row 5 1 u (q+1) (bs++[.int .u8 ((ww:Int) % 256)])))::rest) w'→K (A.put none v) w'):=Lib.hid hK0
     clear hK0 hF hS hE
     have c:wx.cell? ⟨g,0,none⟩=some v':=H.cell 0 rfl 0
     have z:wx.frozen? ⟨g,0,none⟩=false:=H.frozen 0 rfl 0
     obtain ⟨A1,c1,ea,_,_⟩:=Row.form H 1 rfl
     change Oper.wp _ _ A wx K _
     rw [ea] at e60 H
     go_step
     exact hK.out _ _ rfl (Sp.ex (.slice A1 (q+1) c1) (Sp.star (H.set 0 (.slice A1 (q+1) c1))))
   case hend =>
    intro x wx A hA hS H
    replace H:Sp w0 ((Ex fun u=>Star (WrB g u ww mm) (Row 5 1 u (q+1) (bs++[.int .u8 ((ww:Int) % 256)])))::L) wx:=H
    clear hS
    simp only [putAll,Act.put,List.setIfInBounds_toArray,List.set_cons_succ,List.set_cons_zero,Nat.reduceAdd] at hA
    subst hA
    obtain ⟨u,H⟩:=H.unex
    replace H:=H.unstar
    have d1:wx.cell? ⟨g,1,none⟩=some (.int .u64 (ww:Int)):=H.cell 0 rfl 1
    have d2:wx.cell? ⟨g,2,none⟩=some (.int .i64 (mm:Int)):=H.cell 0 rfl 2
    have z1:wx.frozen? ⟨g,1,none⟩=false:=H.frozen 0 rfl 1
    have z2:wx.frozen? ⟨g,2,none⟩=false:=H.frozen 0 rfl 2
    clear r2
    have hm8'' : mm≤1000000100:=by omega
    go_wp2
    go_roundw
    case rel =>
     refine ⟨q+1,mm - 8,u,by omega,by omega,?_⟩
     rw [PBits.byte_next,← PBits.div_next,← HW.out]
     have e8:cells8 (PBits.bytesOf (V+n * 2 ^ N) q++[UInt8.ofNat (ww % 256)])=bs++[.int .u8 ((ww:Int) % 256)]:=by
      rw [HB.out]; simp [cells8]
     rw [e8]
     have H2:=(H.set 1 (.int .u64 ((ww:Int) / 256))).set 2 (.int .i64 ((mm:Int) - 8))
     have ea:((ww / 256:Nat):Int)=(ww:Int) / 256:=by omega
     have eb:((mm - 8:Nat):Int)=(mm:Int) - 8:=by omega
     unfold WrB
     rw [ea,eb]
     exact H2
    case measure =>
     have m1:wr.cell? ⟨g,2,none⟩=some (.int .i64 (mm:Int)):=H0.cell 0 rfl 2
     have m2:=((H.set 1 (.int .u64 ((ww:Int) / 256))).set 2 (.int .i64 ((mm:Int) - 8))).cell 0 rfl 2
     simp only [m1,m2]
     simp [intOf]
     omega
  ·have h8' : ¬ (8:Int)≤mm:=by omega
   go_wp2
   go_ret
   obtain rfl:q=(N+k) / 8:=by omega
   obtain rfl:mm=(N+k) % 8:=by omega
   exact ⟨rfl,H.star.ex v'⟩
open Go.RowKit
theorem wr_made {w0 w:World} {L:List Pr} {g V N:Nat} (H:Sp w0 (Wr g V N::L) w):w.cell? ⟨g,3,none⟩=some (.bool true):=by
 obtain ⟨v,H⟩:=H.unex
 exact H.unstar.cell 0 rfl 3
theorem code_ok (g V N n k:Nat) {w0 w:World} {L:List Pr} (H:Sp w0 (Wr g V N::L) w) (hV:V<2 ^ N) (hk:k≤57) (hn:n<2 ^ k) (hN:N≤1000000000) :
  Calls Tryd.prog 146 #[.pointer (some ⟨g,0,none⟩),.int .u64 (n:Int),.int .i64 (k:Int)] w fun e w'=>e=.returned (.int .i64 0)∧Sp w0 (Wr g (V+PBits.rev n k * 2 ^ N) (N+k)::L) w':=by
 have d1:((n:Int) / 2 ^ k == 0)=true:=by
  rw [beq_iff_eq]
  have:n / 2 ^ k=0:=Nat.div_eq_of_lt hn
  exact_mod_cast this
 have c3:=wr_made H
 go_enter Tryd.func146,Tryd.ntmps146
 go_wp2_with fail
 refine (wasks_ok g k _ c3 (by omega) (by omega)).mono ?_
 rintro e w2 ⟨rfl,rfl⟩
 clear d1 c3
 go_wp2_with fail
 refine (reverse_any n k (k:Int) _ (Nat.lt_of_lt_of_le hn (two64 _ (by omega))) (by omega)).mono ?_
 rintro e w2 ⟨rfl,rfl⟩
 go_wp2_with fail
 refine (put_ok g V N (PBits.rev n k) k H hV hk (PBits.rev_lt n k) hN).mono ?_
 rintro e w2 ⟨rfl,H⟩
 go_wp2
 go_ret
 exact ⟨rfl,H⟩
theorem newWriter_ok {w0 w:World} {L:List Pr} (H:Sp w0 L w) :
  Calls Tryd.prog 51 #[] w (Ret fun v w'=>∃ g,v=.pointer (some ⟨g,0,none⟩)∧Sp w0 (Wr g 0 0::L) w'):=by
 go_enter Tryd.func51,Tryd.ntmps51
 go_wp2
 go_ret
 exact ⟨_,rfl,_,rfl,Sp.ex (.slice none 0 0) (Sp.star (((H.rowNil 5 1).newBk _ _)))⟩
theorem i64_and7 (x:Int):bits .and .i64 x 7=x % 8:=by
 have e2:(BitVec.ofInt 64 (7:Int)).toNat=7:=rfl
 show IntKind.i64.wrap ((BitVec.ofInt 64 x &&& BitVec.ofInt 64 (7:Int)).toNat:Int)=_
 rw [BitVec.toNat_and,BitVec.toNat_ofInt,e2,nat_mask3,IntKind.wrap_i64]
 omega
theorem align_ok (g V N:Nat) {w0 w:World} {L:List Pr} (H:Sp w0 (Wr g V N::L) w) (hV:V<2 ^ N) (hN:N≤1000000000) :
  Calls Tryd.prog 109 #[.pointer (some ⟨g,0,none⟩)] w fun e w'=>e=.returned (.int .i64 0)∧Sp w0 (Wr g V ((N+7) / 8 * 8)::L) w':=by
 have c3:=wr_made H
 obtain ⟨m,hm⟩:∃ m,m=N % 8:=⟨_,rfl⟩
 have c2:w.cell? ⟨g,2,none⟩=some (.int .i64 (m:Int)):=by
  obtain ⟨v,H⟩:=H.unex
  rw [hm]
  exact H.unstar.cell 0 rfl 2
 have hm8:m<8:=by omega
 have HM:=Lib.hid hm
 clear hm
 have ha:bits .and .i64 (-(m:Int)) 7=(((8 - m) % 8:Nat):Int):=by rw [i64_and7]; omega
 go_enter Tryd.func109,Tryd.ntmps109
 go_wp2_with fail
 refine (wnone_any g _ c3).mono ?_
 rintro e w2 ⟨rfl,rfl⟩
 go_wp2_with fail
 refine (put_ok g V N 0 ((8 - m) % 8) H hV (by omega) (Nat.two_pow_pos _) hN).mono ?_
 rintro e w2 ⟨rfl,H⟩
 clear ha
 go_wp2
 go_ret
 refine ⟨rfl,?_⟩
 have e1:N+(8 - m) % 8=(N+7) / 8 * 8:=by rw [HM.out]; omega
 rwa [Nat.zero_mul,Nat.add_zero,e1] at H
theorem bytes_ok (g V N:Nat) {v:Value} {l:List UInt8} {w0 w:World} {L:List Pr} (H:Sp w0 (Wr g V N::L) w) (hb:Byt w v l) (hN8:N % 8=0) (hV:V<2 ^ N) (hN:N≤1000000000) (hl:l.length≤1000000000) :
  Calls Tryd.prog 111 #[.pointer (some ⟨g,0,none⟩),v] w fun e w'=>e=.returned (.int .i64 0)∧Sp w0 (Wr g (V+PBits.le l * 2 ^ N) (N+8 * l.length)::L) w':=by
 have c3:=wr_made H
 have HN:=Lib.hid hN8
 obtain ⟨u,H⟩:=H.unex
 replace H:=H.unstar
 rw [hN8] at H
 clear hN8
 have c2:w.cell? ⟨g,2,none⟩=some (.int .i64 0):=H.cell 0 rfl 2
 have c0:w.cell? ⟨g,0,none⟩=some u:=H.cell 0 rfl 0
 have z0:w.frozen? ⟨g,0,none⟩=false:=H.frozen 0 rfl 0
 obtain ⟨A,c,rfl,hr,h1,h2⟩:=hb
 obtain ⟨i0,hi,hz0,hz1,hz2⟩:=info_parts info8
 go_enter Tryd.func111,Tryd.ntmps111
 go_wp2_with fail
 refine (wasks_ok g 0 _ c3 (by omega) (by omega)).mono ?_
 rintro e w2 ⟨rfl,rfl⟩
 go_wp2_with (at_builtin; refine wpList_append_sp rfl _ _ 25 rfl 5 i0 (.int .u8 0) 1 1 Tryd.underlying25 hi hz0 hz1 hz2 rfl (by decide) u (N / 8) (cells8 (PBits.bytesOf V (N / 8))) rfl H.swap A l.length c (cells8 l) rfl (by simp [cells8]) hr (cells8_one l) (by unfold maxLen; omega) (by omega) ?_)
 intro v' w' H2 _
 clear c0 z0 c2 c3
 have c0:w'.cell? ⟨g,0,none⟩=some u:=H2.cell 1 rfl 0
 have z0:w'.frozen? ⟨g,0,none⟩=false:=H2.frozen 1 rfl 0
 obtain ⟨A1,c1,rfl,_,_⟩:=Row.form H2 0 rfl
 go_wp2
 go_ret
 refine ⟨rfl,Sp.ex (.slice A1 (N / 8+l.length) c1) (Sp.star ?_)⟩
 have H3:=H2.swap.set 0 (.slice A1 (N / 8+l.length) c1)
 have e1:=HN.out
 have e2:(N+8 * l.length) / 8=N / 8+l.length:=by omega
 have e3:(N+8 * l.length) % 8=0:=by omega
 have hVl:V<256 ^ (N / 8):=by
  have:=PBits.pow_parts N
  rw [e1] at this
  simpa [this] using hV
 have e4:(V+PBits.le l * 2 ^ N) / 256 ^ (N / 8+l.length)=0:=by
  have h5:=PBits.le_lt l
  rw [PBits.pow_parts N,e1,Nat.pow_zero,Nat.one_mul,Nat.pow_add,← Nat.div_div_eq_div_mul,Nat.add_mul_div_right _ _ (Nat.pow_pos (by decide)),Nat.div_eq_of_lt hVl,Nat.zero_add,Nat.div_eq_of_lt h5]
 have e5:PBits.bytesOf (V+PBits.le l * 2 ^ N) (N / 8+l.length)=PBits.bytesOf V (N / 8)++l:=by
  rw [PBits.bytesOf_add,PBits.put_bytes,PBits.pow_parts N,e1,Nat.pow_zero,Nat.one_mul,Nat.add_mul_div_right _ _ (Nat.pow_pos (by decide)),Nat.div_eq_of_lt hVl,Nat.zero_add,PBits.bytesOf_le]
 have e6:V / 256 ^ (N / 8)=0:=Nat.div_eq_of_lt hVl
 rw [e2,e3,e4,e5]
 rw [e6] at H3
 have e7:cells8 (PBits.bytesOf V (N / 8)++l)=cells8 (PBits.bytesOf V (N / 8))++cells8 l:=by simp [cells8]
 rw [e7]
 exact H3
open Go.RowKit
theorem len_ok (g V N:Nat) {w0 w:World} {L:List Pr} (H:Sp w0 (Wr g V N::L) w) (hN:N≤2000000000) :
  Calls Tryd.prog 84 #[.pointer (some ⟨g,0,none⟩)] w fun e w'=>e=.returned (.int .i64 (N:Int))∧Keep w w':=by
 have c3:=wr_made H
 obtain ⟨v,H⟩:=H.unex
 replace H:=H.unstar
 obtain ⟨q,hq⟩:∃ q,q=N / 8:=⟨_,rfl⟩
 obtain ⟨m,hm⟩:∃ m,m=N % 8:=⟨_,rfl⟩
 rw [← hq,← hm] at H
 have hN' : N=8 * q+m:=by omega
 clear hq hm
 have HN:=Lib.hid hN'
 obtain ⟨A,c,rfl,h1,h2⟩:=Row.form H 1 rfl
 have c0:w.cell? ⟨g,0,none⟩=some (.slice A q c):=H.cell 0 rfl 0
 have c2:w.cell? ⟨g,2,none⟩=some (.int .i64 (m:Int)):=H.cell 0 rfl 2
 have hb:q≤250000000:=by omega
 have hb2:m≤2000000000:=by omega
 clear hN hN'
 go_enter Tryd.func84,Tryd.ntmps84
 go_wp2_with fail
 refine (wnone_any g _ c3).mono ?_
 rintro e w2 ⟨rfl,rfl⟩
 go_wp2
 go_quiet (fail)
 go_wp2
 go_ret
 exact ⟨ret_i64 (by rw [HN.out]; omega),Keep.drewN _ _⟩
theorem done_ok (g V N:Nat) {w0 w:World} {L:List Pr} (H:Sp w0 (Wr g V N::L) w) (hN:N≤1000000000) :
  Calls Tryd.prog 55 #[.pointer (some ⟨g,0,none⟩)] w (Ret fun v w'=>Sp w0 (Row 5 1 v ((N+7) / 8) (cells8 (PBits.bytesOf V ((N+7) / 8)))::Wr g V N::L) w'):=by
 have c3:=wr_made H
 obtain ⟨v,H⟩:=H.unex
 replace H:=H.unstar
 obtain ⟨q,hq⟩:∃ q,N / 8=q:=⟨_,rfl⟩
 obtain ⟨m,hm⟩:∃ m,N % 8=m:=⟨_,rfl⟩
 obtain ⟨wt,hwt⟩:∃ wt,V / 256 ^ q=wt:=⟨_,rfl⟩
 obtain ⟨bs,hbs⟩:∃ bs,PBits.bytesOf V q=bs:=⟨_,rfl⟩
 have hbl:bs.length=q:=by rw [← hbs]; exact PBits.bytesOf_length _ _
 have hF:∀ L' w',Sp w0 (WrB g v wt m::Row 5 1 v q (cells8 bs)::L') w'→Sp w0 (Wr g V N::L') w':=fun L' w' H'=>Sp.ex v (Sp.star (by rw [hq,hm,hwt,hbs]; exact H'))
 rw [hq,hm,hwt,hbs] at H
 have hq2:q≤130000000:=by omega
 have hm8:m<8:=by omega
 have hcase:(N+7) / 8=if 0<m then q+1 else q:=by split <;> omega
 have hlast:PBits.bytesOf V (q+1)=bs++[UInt8.ofNat (wt % 256)]:=by rw [PBits.byte_next,hbs,hwt]
 have hrow:Byt w v bs:=H.row_byt 1 (e:=5) (by rw [hbl]; rfl)
 have HA:=Lib.hid hF
 have HB:=Lib.hid hcase
 have HC:=Lib.hid hlast
 have HD:=Lib.hid hbl
 have HE:=Lib.hid hbs
 clear hF hcase hlast hbl hq hm hwt hbs hN
 obtain ⟨A,c,ev,_,_⟩:=Row.form H 1 rfl
 subst ev
 have c0:w.cell? ⟨g,0,none⟩=some (.slice A q c):=H.cell 0 rfl 0
 go_enter Tryd.func55,Tryd.ntmps55
 go_wp2_with fail
 refine (wnone_any g _ c3).mono ?_
 rintro e w2 ⟨rfl,rfl⟩
 go_wp2_with fail
 refine (clone_ok H hrow (by rw [HD.out]; omega)).mono ?_
 rintro e w2 ⟨u,rfl,H⟩
 rw [HD.out] at H
 clear c0 c3
 have c1:w2.cell? ⟨g,1,none⟩=some (.int .u64 (wt:Int)):=H.cell 1 rfl 1
 have c2:w2.cell? ⟨g,2,none⟩=some (.int .i64 (m:Int)):=H.cell 1 rfl 2
 obtain ⟨i0,hi,hz0,hz1,hz2⟩:=info_parts info8
 by_cases h0:0<m
 ·have h0' : (0:Int)<m:=by omega
  go_wp2_with (at_builtin; refine wpList_append_sp rfl _ _ 25 rfl 5 i0 (.int .u8 0) 1 1 Tryd.underlying25 hi hz0 hz1 hz2 rfl (by decide) u q (cells8 bs) rfl (H.newBk [.int .u8 ((wt:Int) % 256)] _).swap (some ⟨w2.heap.size,0,none⟩) 1 1 [.int .u8 ((wt:Int) % 256)] rfl rfl (Rd.of_blk ((H.newBk [.int .u8 ((wt:Int) % 256)] _).blk 0 rfl)) (by intro u hu; rw [List.mem_singleton.1 hu]; rfl) (by unfold maxLen; omega) (by omega) ?_)
  intro v' w' H2 _
  clear c1 c2
  go_wp2
  go_ret
  refine ⟨_,rfl,?_⟩
  have H3:=Sp.swap (HA.out _ _ (H2.pick 4 [2,3,0]))
  rw [HB.out,if_pos h0,HC.out]
  have e7:cells8 (bs++[UInt8.ofNat (wt % 256)])=cells8 bs++[.int .u8 ((wt:Int) % 256)]:=by simp [cells8]
  rw [e7]
  exact H3
 ·have h0' : ¬ (0:Int)<m:=by omega
  clear c1
  go_wp2
  go_ret
  refine ⟨_,rfl,?_⟩
  rw [HB.out,if_neg h0,HE.out]
  exact (HA.out _ _ (H.pick 3 [1,2,0])).swap
open Go.RowKit
namespace PBits
theorem le_drop (l:List UInt8) (q:Nat):le (l.drop q)=le l / 256 ^ q:=by
 by_cases h:q≤l.length
 ·conv=>rhs; rw [← List.take_append_drop q l,le_append]
  have h1:=le_lt (l.take q)
  have h2:(l.take q).length=q:=by simp [h]
  rw [h2] at h1 ⊢
  rw [Nat.add_mul_div_left _ _ (Nat.pow_pos (by decide)),Nat.div_eq_of_lt h1,Nat.zero_add]
 ·rw [List.drop_eq_nil_of_le (by omega)]
  have h1:=le_lt l
  rw [Nat.div_eq_of_lt (Nat.lt_of_lt_of_le h1 (Nat.pow_le_pow_right (by decide) (by omega)))]
  rfl
theorem le_byte (l:List UInt8) (i:Nat):le l / 256 ^ i % 256=(l.getD i 0).toNat:=by
 rw [← le_drop]
 by_cases h:i<l.length
 ·rw [List.drop_eq_getElem_cons h,le,List.getD_eq_getElem?_getD,List.getElem?_eq_getElem h]
  have:=l[i].toNat_lt
  simp only [Option.getD_some]
  omega
 ·rw [List.drop_eq_nil_of_le (by omega),List.getD_eq_getElem?_getD,List.getElem?_eq_none (by omega)]
  rfl
theorem mod_next (R k:Nat):R % 256 ^ (k+1)=R % 256 ^ k+256 ^ k * (R / 256 ^ k % 256):=by
 rw [Nat.pow_succ,Nat.mod_mul]
def peek (l:List UInt8) (at_ k:Nat):Nat:=le l / 2 ^ at_ % 2 ^ k
theorem peek_of (l:List UInt8) (at_ k K:Nat) (hK:k+7≤8 * K):(le l / 256 ^ (at_ / 8)) % 256 ^ K / 2 ^ (at_ % 8) % 2 ^ k=peek l at_ k:=by
 unfold peek
 have e1:(256:Nat) ^ K=2 ^ (at_ % 8) * (2 ^ k * 2 ^ (8 * K - k - at_ % 8)):=by
  rw [show (256:Nat)=2 ^ 8 by decide,← Nat.pow_mul,← Nat.pow_add,← Nat.pow_add]
  congr 1; omega
 have e2:(256:Nat) ^ (at_ / 8) * 2 ^ (at_ % 8)=2 ^ at_:=by
  rw [show (256:Nat)=2 ^ 8 by decide,← Nat.pow_mul,← Nat.pow_add]
  congr 1; omega
 rw [e1,Nat.mod_mul_right_div_self,Nat.mod_mul_right_mod,Nat.div_div_eq_div_mul,e2]
end PBits
def RrB (g:Nat) (v:Value) (at_:Nat):Pr:=Bk g 137 [v,.int .i64 (at_:Int),.bool true]
def Rr (g:Nat) (l:List UInt8) (at_:Nat):Pr:=Ex fun v:Value=>Star (RrB g v at_) (Row 5 1 v l.length (cells8 l))
theorem rnone_any (g:Nat) (w:World) (c2:w.cell? ⟨g,2,none⟩=some (.bool true)) :
  Calls Tryd.prog 63 #[.pointer (some ⟨g,0,none⟩)] w fun e w'=>e=.returned (.bool false)∧w=w':=by
 go_enter Tryd.func63,Tryd.ntmps63
 go_wp2
 go_ret
 exact ⟨rfl,rfl⟩
theorem rasks_ok (g:Nat) (m:Int) (w:World) (c2:w.cell? ⟨g,2,none⟩=some (.bool true)) (h0:0≤m) (h1:m≤57) :
  Calls Tryd.prog 145 #[.func (.func 63) #[.pointer (some ⟨g,0,none⟩)] #[],.int .i64 m,.bool true] w fun e w'=>e=.returned (.int .i64 0)∧w=w':=by
 go_enter Tryd.func145,Tryd.ntmps145
 go_wp2_with fail
 refine (rnone_any g _ c2).mono ?_
 rintro e w2 ⟨rfl,rfl⟩
 have k1:¬ (57:Int)<m:=by omega
 have k2:¬ m<0:=by omega
 go_wp2
 go_ret
 exact ⟨rfl,rfl⟩
theorem newReader_ok {w0 w:World} {L:List Pr} {v:Value} {l:List UInt8} (H:Sp w0 L w) (hb:Byt w v l) (hl:l.length≤1000000000) :
  Calls Tryd.prog 61 #[v] w (Ret fun u w'=>∃ g,u=.pointer (some ⟨g,0,none⟩)∧Sp w0 (Rr g l 0::L) w'):=by
 obtain ⟨A,c,rfl,hr,h1,h2⟩:=id hb
 have HR:=Lib.hid hr
 clear hr
 go_enter Tryd.func61,Tryd.ntmps61
 go_wp2_with fail
 refine (clone_ok H hb hl).mono ?_
 rintro e w2 ⟨u,rfl,H⟩
 obtain ⟨A1,c1,ev,_,_⟩:=Row.form H 0 rfl
 subst ev
 go_wp2
 go_ret
 exact ⟨_,rfl,_,rfl,Sp.ex (.slice A1 l.length c1) (Sp.star (H.newBk _ _))⟩
theorem rr_open {w0 w:World} {L:List Pr} {g at_:Nat} {l:List UInt8} (H:Sp w0 (Rr g l at_::L) w) :
  ∃ A c,Sp w0 (RrB g (.slice A l.length c) at_::Row 5 1 (.slice A l.length c) l.length (cells8 l)::L) w∧Byt w (.slice A l.length c) l ∧
   w.cell? ⟨g,0,none⟩=some (.slice A l.length c)∧w.cell? ⟨g,1,none⟩=some (.int .i64 (at_:Int))∧w.cell? ⟨g,2,none⟩=some (.bool true):=by
 obtain ⟨v,H⟩:=H.unex
 replace H:=H.unstar
 obtain ⟨A,c,rfl,_,_⟩:=Row.form H 1 rfl
 exact ⟨A,c,H,H.row_byt 1 rfl,H.cell 0 rfl 0,H.cell 0 rfl 1,H.cell 0 rfl 2⟩
theorem left_ok (g:Nat) (l:List UInt8) (at_:Nat) {w0 w:World} {L:List Pr} (H:Sp w0 (Rr g l at_::L) w) (ha:at_≤8 * l.length) (hl:l.length≤1000000000) :
  Calls Tryd.prog 130 #[.pointer (some ⟨g,0,none⟩)] w fun e w'=>e=.returned (.int .i64 ((8 * l.length - at_:Nat):Int))∧Keep w w':=by
 obtain ⟨A,c,_,_,c0,c1,c2⟩:=rr_open H
 clear H
 obtain ⟨n,hn⟩:∃ n,l.length=n:=⟨_,rfl⟩
 rw [hn] at c0 ha hl ⊢
 clear hn
 have h8:(at_:Int)≤8 * n:=by omega
 go_enter Tryd.func130,Tryd.ntmps130
 go_wp2_with fail
 refine (rnone_any g _ c2).mono ?_
 rintro e w2 ⟨rfl,rfl⟩
 go_wp2
 go_quiet (fail)
 go_wp2
 go_ret
 exact ⟨ret_i64 (by omega),Keep.drewN _ _⟩
theorem at_ok (g:Nat) (at_:Nat) {w:World} (c1:w.cell? ⟨g,1,none⟩=some (.int .i64 (at_:Int))) (c2:w.cell? ⟨g,2,none⟩=some (.bool true)) :
  Calls Tryd.prog 35 #[.pointer (some ⟨g,0,none⟩)] w fun e w'=>e=.returned (.int .i64 (at_:Int))∧w=w':=by
 go_enter Tryd.func35,Tryd.ntmps35
 go_wp2_with fail
 refine (rnone_any g _ c2).mono ?_
 rintro e w2 ⟨rfl,rfl⟩
 go_wp2
 go_ret
 exact ⟨rfl,rfl⟩
theorem skip_ok (g:Nat) (l:List UInt8) (at_ k:Nat) {w0 w:World} {L:List Pr} (H:Sp w0 (Rr g l at_::L) w) (ha:at_+k≤8 * l.length) (hk:k≤57) (hl:l.length≤1000000000) :
  Calls Tryd.prog 152 #[.pointer (some ⟨g,0,none⟩),.int .i64 (k:Int)] w fun e w'=>e=.returned (.int .i64 0)∧Sp w0 (Rr g l (at_+k)::L) w':=by
 obtain ⟨_,_,_,_,_,_,c2⟩:=rr_open H
 go_enter Tryd.func152,Tryd.ntmps152
 go_wp2_with fail
 refine (rasks_ok g k _ c2 (by omega) (by omega)).mono ?_
 rintro e w2 ⟨rfl,rfl⟩
 go_wp2_with fail
 refine (left_ok g l at_ H (by omega) hl).mono ?_
 rintro e w2 ⟨rfl,hK⟩
 replace H:=hK.sep H
 clear hK c2
 obtain ⟨A,c,H,_,c0,c1,c2⟩:=rr_open H
 have z1:w2.frozen? ⟨g,1,none⟩=false:=H.frozen 0 rfl 1
 have h1:¬ ((8 * l.length - at_:Nat):Int)<k:=by omega
 have h2:(at_:Int)≤9000000000:=by omega
 go_wp2
 go_ret
 refine ⟨rfl,Sp.ex (.slice A l.length c) (Sp.star ?_)⟩
 have:=H.set 1 (.int .i64 ((at_:Int)+k))
 unfold RrB
 rw [Int.natCast_add]
 exact this
theorem skip_short (g:Nat) (l:List UInt8) (at_ k:Nat) {w0 w:World} {L:List Pr} (H:Sp w0 (Rr g l at_::L) w) (ha:at_≤8 * l.length) (hs:8 * l.length<at_+k) (hk:k≤57) (hl:l.length≤1000000000) :
  Calls Tryd.prog 152 #[.pointer (some ⟨g,0,none⟩),.int .i64 (k:Int)] w fun e w'=>e=.returned (.int .i64 4)∧Keep w w':=by
 obtain ⟨_,_,_,_,_,_,c2⟩:=rr_open H
 go_enter Tryd.func152,Tryd.ntmps152
 go_wp2_with fail
 refine (rasks_ok g k _ c2 (by omega) (by omega)).mono ?_
 rintro e w2 ⟨rfl,rfl⟩
 go_wp2_with fail
 refine (left_ok g l at_ H (by omega) hl).mono ?_
 rintro e w2 ⟨rfl,hK⟩
 have h1:((8 * l.length - at_:Nat):Int)<k:=by omega
 go_wp2
 go_ret
 exact ⟨rfl,hK⟩
open Go.RowKit
theorem p256 (j:Nat):(256:Nat) ^ j=2 ^ (8 * j):=by rw [show (256:Nat)=2 ^ 8 by decide,← Nat.pow_mul]
theorem peek_step (R j b:Nat) (hj:j≤7) (hb:b=R / 256 ^ j % 256) :
  bits .or .u64 ((R:Int) % 256 ^ j) (IntKind.u64.wrap ((b:Int) * 2 ^ (8 * j)))=((R % 256 ^ (j+1):Nat):Int):=by
 have hb2:b<256:=by rw [hb]; exact Nat.mod_lt _ (by decide)
 have e0:((R:Int) % 256 ^ j)=((R % 256 ^ j:Nat):Int):=by simp
 have hx:R % 256 ^ j<2 ^ (8 * j):=by rw [← p256]; exact Nat.mod_lt _ (Nat.pow_pos (by decide))
 have h64:(2:Nat) ^ (8 * j)≤72057594037927936:=Nat.pow_le_pow_right (n:=2) (by decide) (show 8 * j≤56 by omega)
 have hy:b * 2 ^ (8 * j)<18446744073709551616:=by
  have:=Nat.mul_le_mul (show b≤255 by omega) h64
  omega
 have e1:IntKind.u64.wrap ((b:Int) * 2 ^ (8 * j))=((b * 2 ^ (8 * j):Nat):Int):=by
  rw [show ((b:Int) * 2 ^ (8 * j))=((b * 2 ^ (8 * j):Nat):Int) by simp,IntKind.wrap_u64]
  generalize b * 2 ^ (8 * j)=y at hy
  omega
 rw [e0,e1,u64_or_nat _ _ (by omega) hy,Nat.mul_comm b,Nat.or_comm,← Nat.two_pow_add_eq_or_of_lt hx,PBits.mod_next,← hb,p256,Nat.add_comm]
theorem u64_mask (x k:Nat) (hx:x<18446744073709551616) (hk:k≤63):bits .and .u64 (x:Int) (IntKind.u64.wrap (IntKind.u64.wrap (2 ^ k) - 1))=((x % 2 ^ k:Nat):Int):=by
 have h1:(2:Nat) ^ k≤9223372036854775808:=Nat.pow_le_pow_right (n:=2) (by decide) hk
 have h0:0<(2:Nat) ^ k:=Nat.two_pow_pos k
 have e1:((2:Int) ^ k)=((2 ^ k:Nat):Int):=by simp
 have e2:IntKind.u64.wrap (IntKind.u64.wrap (2 ^ k) - 1)=((2 ^ k - 1:Nat):Int):=by
  rw [e1,IntKind.wrap_u64,IntKind.wrap_u64]
  generalize (2:Nat) ^ k=y at h1 h0
  omega
 rw [e2,u64_and_nat _ _ hx (by omega),Nat.and_two_pow_sub_one_eq_mod]
theorem peek_end (R j r k:Nat) (hj:j≤8) (hk:k≤57) :
  bits .and .u64 ((R:Int) % 256 ^ j / 2 ^ r) (IntKind.u64.wrap (IntKind.u64.wrap (2 ^ k) - 1))=((R % 256 ^ j / 2 ^ r % 2 ^ k:Nat):Int):=by
 have e0:((R:Int) % 256 ^ j / 2 ^ r)=((R % 256 ^ j / 2 ^ r:Nat):Int):=by simp
 have h1:R % 256 ^ j<256 ^ j:=Nat.mod_lt _ (Nat.pow_pos (by decide))
 have h2:(256:Nat) ^ j≤18446744073709551616:=Nat.pow_le_pow_right (n:=256) (by decide) hj
 have h3:R % 256 ^ j / 2 ^ r≤R % 256 ^ j:=Nat.div_le_self _ _
 rw [e0,u64_mask _ _ (by omega) (by omega)]
set_option maxRecDepth 100000 in
set_option maxHeartbeats 1000000 in
theorem peek_ok (g:Nat) (l:List UInt8) (at_:Nat) (m:Int) (k:Nat) {w0 w:World} {L:List Pr} (H:Sp w0 (Rr g l at_::L) w) (ha:at_≤8 * l.length) (hl:l.length≤1000000000) (hk:(k:Int)=min (min (max m 0) 57) ((8 * l.length - at_:Nat):Int)) :
  Calls Tryd.prog 151 #[.pointer (some ⟨g,0,none⟩),.int .i64 m] w fun e w'=>e=.returned (.tuple #[.int .u64 (PBits.peek l at_ k:Nat),.int .i64 (k:Int)])∧Keep w w':=by
 obtain ⟨_,_,_,_,_,_,c2⟩:=rr_open H
 have hk57:k≤57:=by omega
 have f1:∀ W:World,(Builtin.max_ #[3,3] 3 #[.int .i64 m,.int .i64 0]).run Tryd.prog W=.ok (.int .i64 (max m 0)) W:=fun W=>by
  simp [Builtin.max_,Builtin.max2]
  split <;> omega
 have f2:∀ W:World,(Builtin.min_ #[3,3,3] 3 #[.int .i64 (max m 0),.int .i64 57,.int .i64 ((8 * l.length - at_:Nat):Int)]).run Tryd.prog W=.ok (.int .i64 (k:Int)) W:=fun W=>by
  rw [hk]
  simp [Builtin.min_,Builtin.min2]
  split <;> split <;> omega
 have HK:=Lib.hid hk
 clear hk
 go_enter Tryd.func151,Tryd.ntmps151
 go_wp2_with fail
 refine (rnone_any g _ c2).mono ?_
 rintro e w2 ⟨rfl,rfl⟩
 go_wp2_with fail
 refine (left_ok g l at_ H ha hl).mono ?_
 rintro e w2 ⟨rfl,hKp⟩
 replace H:=hKp.sep H
 clear c2
 go_wp2_with fail
 clear f1 f2
 obtain ⟨A,c,H,hB,c0,c1,c2⟩:=rr_open H
 obtain ⟨q,hq0⟩:∃ q,q=at_ / 8:=⟨_,rfl⟩
 have hq:(at_:Int) / 8=(q:Int):=by omega
 have hql:q≤l.length:=by omega
 obtain ⟨R,hR⟩:∃ R,R=PBits.le l / 256 ^ q:=⟨_,rfl⟩
 have HQ:=Lib.hid hq0
 have HR:=Lib.hid hR
 have HB:=Lib.hid hB
 clear hq0 hR hB
 obtain ⟨_,_,eA,_,_,hcm⟩:=id HB.out
 unfold maxLen at hcm
 clear eA
 go_loop [6,7] (fun n i=>∃ j:Nat,j≤8∧8 * j≤k+14∧i=.int .i64 (j:Int)∧n=.int .u64 ((R % 256 ^ j:Nat):Int)) (fun _ i=>8 - (intOf i).toNat)
 case atStart=>exact ⟨0,by omega,by omega,rfl,by simp [Nat.mod_one]⟩
 case round =>
  obtain ⟨j,hj1,hj2,rfl,rfl⟩:=hrel
  by_cases hlt:8 * j<k+7
  ·have hlt' : (8:Int) * j<k+7:=by omega
   by_cases hin:q+j<l.length
   ·have hin' : (q:Int)+j<l.length:=by omega
    have hin0:(0:Int)≤(q:Int)+j:=by omega
    obtain ⟨_,_,eA,hr,_,_⟩:=id HB.out
    injection eA with eA _ eC
    subst eA eC
    obtain ⟨ad,rfl,hc⟩:=hr.at8 hin
    clear hr
    obtain ⟨b,hb⟩:∃ b,l[q+j].toNat=b:=⟨_,rfl⟩
    rw [hb] at hc
    have hb2:b<256:=by rw [← hb]; exact (l[q+j]).toNat_lt
    have HBB:=Lib.hid hb
    clear hb
    have hst:=Lib.hid (peek_step R j b (by omega) (by rw [HR.out,Nat.div_div_eq_div_mul,← Nat.pow_add,PBits.le_byte,List.getD_eq_getElem?_getD,List.getElem?_eq_getElem hin]; exact HBB.out.symm))
    go_wp2
    go_round
    case rel=>exact ⟨j+1,by omega,by omega,by go_num,by rw [← hst.out]⟩
    case measure=>simp [intOf]; omega
   ·have hin' : ¬ (q:Int)+j<l.length:=by omega
    have hst:Hid (R % 256 ^ j=R % 256 ^ (j+1)):=by
     have h1:=PBits.le_lt (l.drop q)
     rw [PBits.le_drop,← HR.out] at h1
     have h2:R<256 ^ j:=Nat.lt_of_lt_of_le h1 (Nat.pow_le_pow_right (by decide) (by simp; omega))
     have h3:R<256 ^ (j+1):=Nat.lt_of_lt_of_le h2 (Nat.pow_le_pow_right (by decide) (by omega))
     show _=_
     rw [Nat.mod_eq_of_lt h2,Nat.mod_eq_of_lt h3]
    go_wp2
    go_round
    case rel=>exact ⟨j+1,by omega,by omega,by go_num,by rw [← hst.out]⟩
    case measure=>simp [intOf]; omega
  ·have hlt' : ¬ (8:Int) * j<k+7:=by omega
   obtain ⟨r,hr⟩:∃ r,at_ % 8=r:=⟨_,rfl⟩
   have hr' : (at_:Int) % 8=(r:Int):=by omega
   have hr8:r<8:=by omega
   have HX:=Lib.hid hr
   clear hr
   go_wp2
   go_quiet (fail)
   go_wp2
   go_ret2
   have e:=peek_end R j r k hj1 hk57
   have e2:=PBits.peek_of l at_ k j (by omega)
   rw [← HQ.out,← HR.out,HX.out] at e2
   rw [e2] at e
   exact ⟨congrArg (fun x=>Ending.returned (.tuple #[.int .u64 x,.int .i64 (k:Int)])) e,hKp.trans (Keep.drewN _ _)⟩
theorem get_ok (g:Nat) (l:List UInt8) (at_ k:Nat) {w0 w:World} {L:List Pr} (H:Sp w0 (Rr g l at_::L) w) (ha:at_+k≤8 * l.length) (hk:k≤57) (hl:l.length≤1000000000) :
  Calls Tryd.prog 127 #[.pointer (some ⟨g,0,none⟩),.int .i64 (k:Int)] w fun e w'=>e=.returned (.tuple #[.int .u64 (PBits.peek l at_ k:Nat),.int .i64 0])∧Sp w0 (Rr g l (at_+k)::L) w':=by
 obtain ⟨_,_,_,_,_,_,c2⟩:=rr_open H
 go_enter Tryd.func127,Tryd.ntmps127
 go_wp2_with fail
 refine (rnone_any g _ c2).mono ?_
 rintro e w2 ⟨rfl,rfl⟩
 clear c2
 go_wp2_with fail
 refine (peek_ok g l at_ k k H (by omega) hl (by omega)).mono ?_
 rintro e w2 ⟨rfl,hK⟩
 replace H:=hK.sep H
 clear hK
 go_wp2_with fail
 refine (skip_ok g l at_ k H ha hk hl).mono ?_
 rintro e w2 ⟨rfl,H⟩
 go_wp2
 go_ret2
 exact ⟨rfl,H⟩
theorem get_short (g:Nat) (l:List UInt8) (at_ k:Nat) {w0 w:World} {L:List Pr} (H:Sp w0 (Rr g l at_::L) w) (ha:at_≤8 * l.length) (hs:8 * l.length<at_+k) (hk:k≤57) (hl:l.length≤1000000000) :
  Calls Tryd.prog 127 #[.pointer (some ⟨g,0,none⟩),.int .i64 (k:Int)] w fun e w'=>e=.returned (.tuple #[.int .u64 0,.int .i64 4])∧Keep w w':=by
 obtain ⟨_,_,_,_,_,_,c2⟩:=rr_open H
 go_enter Tryd.func127,Tryd.ntmps127
 go_wp2_with fail
 refine (rnone_any g _ c2).mono ?_
 rintro e w2 ⟨rfl,rfl⟩
 clear c2
 go_wp2_with fail
 refine (peek_ok g l at_ k (8 * l.length - at_) H (by omega) hl (by omega)).mono ?_
 rintro e w2 ⟨rfl,hK⟩
 replace H:=hK.sep H
 go_wp2_with fail
 refine (skip_short g l at_ k H ha hs hk hl).mono ?_
 rintro e w2 ⟨rfl,hK2⟩
 go_wp2
 go_ret2
 exact ⟨rfl,hK.trans hK2⟩
open Go.RowKit
set_option maxRecDepth 100000 in
theorem ralign_ok (g:Nat) (l:List UInt8) (at_:Nat) {w0 w:World} {L:List Pr} (H:Sp w0 (Rr g l at_::L) w) (ha:at_≤8 * l.length) (hl:l.length≤1000000000) :
  Calls Tryd.prog 129 #[.pointer (some ⟨g,0,none⟩)] w fun e w'=>e=.returned (.int .i64 0)∧Sp w0 (Rr g l ((at_+7) / 8 * 8)::L) w':=by
 obtain ⟨A,c,H,_,c0,c1,c2⟩:=rr_open H
 have z1:w.frozen? ⟨g,1,none⟩=false:=H.frozen 0 rfl 1
 have h1:(at_:Int)≤9000000000:=by omega
 have e1:bits .and .i64 (-(at_:Int)) 7=(((8 - at_ % 8) % 8:Nat):Int):=by rw [i64_and7]; omega
 obtain ⟨d,hd⟩:∃ d,(8 - at_ % 8) % 8=d:=⟨_,rfl⟩
 rw [hd] at e1
 have hd8:d<8:=by omega
 have HD:=Lib.hid hd
 clear hd
 go_enter Tryd.func129,Tryd.ntmps129
 go_wp2_with fail
 refine (rnone_any g _ c2).mono ?_
 rintro e w2 ⟨rfl,rfl⟩
 go_wp2
 go_still_tail 13,(by kernel_rfl)
 change wpList _ _ _ _ _ w.drew
 go_wp2
 go_ret
 refine ⟨rfl,Sp.ex (.slice A l.length c) (Sp.star ?_)⟩
 have e2:(((at_+7) / 8 * 8:Nat):Int)=(at_:Int)+d:=by have:=HD.out; omega
 unfold RrB
 rw [e2,e1]
 exact (H.set 1 (.int .i64 ((at_:Int)+d))).drew
set_option maxRecDepth 100000 in
theorem rbytes_ok (g:Nat) (l:List UInt8) (q k:Nat) {w0 w:World} {L:List Pr} (H:Sp w0 (Rr g l (8 * q)::L) w) (ha:q+k≤l.length) (hl:l.length≤1000000000) :
  Calls Tryd.prog 132 #[.pointer (some ⟨g,0,none⟩),.int .i64 (k:Int)] w (Ret fun v w'=>∃ u,v=.tuple #[u,.int .i64 0]∧Sp w0 (Row 5 1 u k (cells8 ((l.drop q).take k))::Rr g l (8 * (q+k))::L) w'):=by
 obtain ⟨_,_,_,_,_,c1,c2⟩:=rr_open H
 rw [Int.natCast_mul] at c1
 have hq2:(q:Int)≤1000000000:=by omega
 have hk2:(k:Int)≤1000000000:=by omega
 have t0:((8:Int) * q % 8 == 0)=true:=by rw [beq_iff_eq]; omega
 go_enter Tryd.func132,Tryd.ntmps132
 go_wp2_with fail
 refine (rasks_ok g 0 _ c2 (by omega) (by omega)).mono ?_
 rintro e w2 ⟨rfl,rfl⟩
 clear t0 c1 c2
 go_wp2_with fail
 refine (left_ok g l (8 * q) H (by omega) hl).mono ?_
 rintro e w2 ⟨rfl,hK⟩
 replace H:=hK.sep H
 clear hK
 obtain ⟨A,c,H,hB,c0,c1,c2⟩:=rr_open H
 have z1:w2.frozen? ⟨g,1,none⟩=false:=H.frozen 0 rfl 1
 rw [Int.natCast_mul] at c1
 have hcm:c≤maxLen:=by obtain ⟨_,_,e,_,_,h⟩:=hB; injection e with _ _ e; omega
 have hcl:l.length≤c:=by obtain ⟨_,_,e,_,h,_⟩:=hB; injection e with _ _ e; omega
 unfold maxLen at hcm
 have t1:¬ ((8 * l.length - 8 * q:Nat):Int) / 8<k:=by omega
 have t2:(8:Int) * q / 8=q:=by omega
 have t3:(q:Int)+k≤c:=by omega
 have t4:(0:Int)≤(q:Int)+k:=by omega
 have e8:((8 * (q+k):Nat):Int)=8 * (q:Int)+8 * k:=by omega
 have H2:Sp w0 (RrB g (.slice A l.length c) (8 * (q+k))::Row 5 1 (.slice A l.length c) l.length (cells8 l)::L) (w2.setCell ⟨g,1,none⟩ (.int .i64 (8 * (q:Int)+8 * k))):=by
  have:=H.set 1 (.int .i64 (8 * (q:Int)+8 * k))
  unfold RrB
  rw [e8]
  exact this
 clear e8
 have hB2:Byt (w2.setCell ⟨g,1,none⟩ (.int .i64 (8 * (q:Int)+8 * k))) (.slice A l.length c) l:=H2.row_byt 1 rfl
 by_cases hcq:c=q
 ·subst hcq
  obtain rfl:k=0:=by omega
  go_wp2_with fail
  refine (clone_ok (l:=[]) H2 ⟨_,_,rfl,Rd.nil,Nat.zero_le _,by simp [maxLen]⟩ (by simp)).mono ?_
  rintro e w3 ⟨u,rfl,H3⟩
  go_wp2
  go_ret2
  exact ⟨_,rfl,_,rfl,Sp.swap (Sp.ex (.slice A l.length c) (Sp.star (by simpa using H3.pick 3 [1,2,0])))⟩
 ·have hs:=(hB2.drop q (by omega)).take k (by simp; omega)
  go_wp2_with fail
  refine (clone_ok H2 hs (by simp; omega)).mono ?_
  rintro e w3 ⟨u,rfl,H3⟩
  go_wp2
  go_ret2
  refine ⟨_,rfl,_,rfl,Sp.swap (Sp.ex (.slice A l.length c) (Sp.star ?_))⟩
  have e9:((l.drop q).take k).length=k:=by simp; omega
  rw [e9] at H3
  exact H3.pick 3 [1,2,0]
open Go.RowKit
structure Thing where
 n:Nat
 m:Nat
 c:Bool
 b:List UInt8
 v:Value
namespace Thing
def k (x:Thing):Nat:=x.m % 58
def num (x:Thing):Nat:=x.n % 2 ^ x.k
def by_ (x:Thing):List UInt8:=x.b.take 20
def lies (x:Thing):Nat:=if x.by_≠[] then PBits.le x.by_ else if x.c then PBits.rev x.num x.k else x.num
def from_ (x:Thing) (N:Nat):Nat:=if x.by_≠[] then (N+7) / 8 * 8 else N
def size (x:Thing):Nat:=if x.by_≠[] then 8 * x.by_.length else x.k
def stp (s:Nat × Nat) (x:Thing):Nat × Nat:=(s.1+x.lies * 2 ^ x.from_ s.2,x.from_ s.2+x.size)
def st (l:List Thing):Nat × Nat:=l.foldl stp (0,0)
def row (l:List Thing):List UInt8:=PBits.bytesOf (st l).1 (((st l).2+7) / 8)
end Thing
end Go.Proofs.YtloijdbkikccgaaDoor

