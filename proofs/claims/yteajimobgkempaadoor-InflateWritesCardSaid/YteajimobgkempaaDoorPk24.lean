/- A pack. -/
import Derived.Test.YteajimobgkempaaDoorPk23
set_option linter.all false
set_option maxRecDepth 100000
set_option maxHeartbeats 8000000
namespace Go.Proofs.YteajimobgkempaaDoor
variable {w0 w:World} {L:List Pr}
open Go.RowKit
theorem infoI:(Tryd.prog.info? 3).map (fun i=>(i.zero,i.size,i.bytes))=some (some (.int .i64 0),1,8):=by kernel_rfl
theorem WO (n:Nat) (H:Sp w0 L w) (hn:n<=1000000000) :
  Calls Tryd.prog 157 #[.slice none 0 0,.int .i64 n] w fun e w'=>∃v,e=.returned v/\Sp w0 (Row 3 1 v 0 []::L) w':=by
 obtain⟨h,i,a,b,d⟩:=info_parts infoI;by_cases j:0<n
 ·have k:(0:Int)<(n:Int):=by omega
  go_enter Tryd.func157,Tryd.ntmps157
  go_wp2_with (at_builtin; refine ZG rfl _ _ 51 3 rfl 3 h (.int .i64 0) 1 8 Tryd.underlying51 Tryd.underlying3 i a b d rfl (by decide) n rfl rfl j hn (by decide) H ?_)
  intro g c m o p l;have f:=l.rowCut 0 (Nat.zero_le _);rw [Nat.zero_mul,List.take_zero] at f;have q:(0:Int)<=(c:Int):=by omega
  go_wp2_with fail
  go_ret;exact⟨_,rfl,f⟩
 ·have k:¬ (0:Int)<(n:Int):=by omega
  obtain rfl:n=0:=by omega
  go_enter Tryd.func157,Tryd.ntmps157
  go_wp2_with fail
  go_ret;exact⟨_,rfl,H.rowNil _ _⟩
theorem concat_okI (ad:Addr) (k c:Nat) (qs:List Part) (H:Sp w0 L w) (hk:qs.length=k) (hb:Ent L (fun w=>Rd w (some ad) (qs.map Part.val))) (hq:∀q ∈ qs,q.Ok L 1) (hs:Part.sum qs<=1000000) (hkm:k<=1000000) :
  Calls Tryd.prog 138 #[.slice (some ad) k c] w fun e w'=>∃v,e=.returned v/\Sp w0 (Row 3 1 v (Part.sum qs) (Part.cat qs)::L) w':=by
 obtain⟨i0,E,F,G,I⟩:=info_parts infoI;obtain⟨N,B⟩:=exq (Part.sum qs);have p:∀i,Part.sum (qs.take i)<=N:=fun i=>by rw [<- B]; exact Part.sum_take qs i
 have T:=hid hk;have HB:=hid hb;have HQ:=hid hq;have U:=hid B;have f:=hid p;have a0:N<=1000000:=by omega
 rw [B];have g:∀i,i<k->∃q,qs[i]?=some q/\q.Ok L 1/\qs.take (i+1)=qs.take i++[q]/\∀w',Sp w0 L w'->w'.cell? (ad.add i)=some (.slice q.A q.n q.c):=fun i E=>by
  have b:i<qs.length:=by rw [hk]; exact E
  refine⟨qs[i],List.getElem?_eq_getElem b,hq _ (List.getElem_mem b),List.take_succ_eq_append_getElem b,fun w' H'=>?_⟩;obtain⟨a1,e,t⟩:=hb _ _ H' (by intro h; have:=congrArg List.length h; simp at this; subst this; simp at b);injection e with e
  subst e;refine t i _ ?_;rw [List.getElem?_map,List.getElem?_eq_getElem b]; rfl
 have V:=hid g;clear hk hb hq B p hs g;go_enter Tryd.func138,Tryd.ntmps138
 go_wp2_with fail
 go_loopw [3,11] (fun sv iv wr=>∃(i s:Nat),iv=.int .i64 i/\sv=.int .i64 s/\i<=k/\Hid (Part.sum (qs.take i)=s)/\Sp w0 L wr) (fun _ iv _=>k - (intOf iv).toNat)
 case atStart=>exact⟨0,0,rfl,rfl,Nat.zero_le _,hid rfl,H⟩
 case round =>
  clear H;obtain⟨i,s,rfl,rfl,a2,J,H⟩:=hrel;have a3:s<=N:=by rw [<- J.out]; exact f.out i
  by_cases K:i<k
  ·have M:(i:Int)<(k:Int):=by omega
   obtain⟨q,O,C,n,u⟩:=V.out i K;have t:=u _ H;have a:Part.sum (qs.take (i+1))=s+q.n:=by rw [n,Part.sum_snoc,J.out]
   have l:s+q.n<=N:=by rw [<- a]; exact f.out _
   have d:=hid a;obtain⟨W,D,Y,Z⟩:=q;simp only at t d l;have k2:¬ (s:Int)+(D:Int)<0:=by omega
   clear O C n u a;go_wp2_with fail
   go_roundw
   case rel=>exact⟨i+1,s+D,by go_num,by go_num,by omega,d,H⟩
   case measure=>first | (simp [intOf]; omega) | simp [intOf]
  ·have M:¬ (i:Int)<(k:Int):=by omega
   obtain rfl:i=k:=by omega
   have x:s=N:=by rw [<- J.out,<- U.out,List.take_of_length_le (by rw [T.out]; exact Nat.le_refl _)]
   subst x;have hg:=WO s H (by omega);have y:=hid hg;clear hg;go_wp2_with fail
   refine y.out.mono ?_;rintro _ w2 ⟨v,rfl,H2⟩;clear y H;go_wp2_with fail
   go_loopw [6,27] (fun vv jv wr=>∃(j:Nat),jv=.int .i64 j/\j<=i/\Sp w0 (Row 3 1 vv (Part.sum (qs.take j)) (Part.cat (qs.take j))::L) wr) (fun _ jv _=>i - (intOf jv).toNat)
   case atStart=>exact⟨0,rfl,Nat.zero_le _,H2⟩
   case round =>
    rename_i v0 _
    clear H2
    rename_i u6 u27
    obtain⟨j,rfl,a4,H⟩:=hrel;obtain⟨r,m⟩:=exq (Part.sum (qs.take j));obtain⟨X,o⟩:=exq (Part.cat (qs.take j));have a5:r<=s:=by rw [<- m]; exact f.out j
    rw [m,o] at H;obtain⟨VA,Vc,P,_,_⟩:=Row.form H 0 rfl;subst P;by_cases Q:j<i
    ·have M:(j:Int)<(i:Int):=by omega
     obtain⟨q,O,C,n,u⟩:=V.out j Q;have t:=u _ H.tail;have a:Part.sum (qs.take (j+1))=r+q.n:=by rw [n,Part.sum_snoc,m]
     have l:r+q.n<=s:=by rw [<- a]; exact f.out _
     have z:Part.cat (qs.take (j+1))=X++q.xs:=by rw [n,Part.cat_snoc,o]
     have d:=hid a;have A:=hid z;have R:=hid C;obtain⟨W,D,Y,Z⟩:=q;simp only at t d A l;clear O C n u a z m o;go_wp2_with (at_builtin; refine wpList_append_sp rfl _ _ 51 rfl 3 i0 (.int .i64 0) 1 8 Tryd.underlying51 E F G I rfl (by decide) _ r X rfl H W D Y Z rfl R.out.1 (R.out.2.1 _ _ H.tail) R.out.2.2 (by unfold maxLen; omega) (by omega) ?_)
     intro v9 w9 H9 _;go_wp2_with fail
     go_roundw
     case rel=>exact⟨j+1,by go_num,by omega,by rw [d.out,A.out]; exact H9⟩
     case measure=>first | (simp [intOf]; omega) | simp [intOf]
    ·have M:¬ (j:Int)<(i:Int):=by omega
     obtain rfl:j=i:=by omega
     have S:qs.take j=qs:=List.take_of_length_le (by rw [T.out]; exact Nat.le_refl _);rw [S,U.out] at m;rw [S] at o;have HR:=hid m;have HX:=hid o;clear m o S;go_wp2_with fail
     go_ret;exact⟨_,rfl,by rw [HX.out,HR.out]; exact H⟩
theorem cellsN_cast (m:List Nat):cells64 (castI m)=cellsN m:=by
 unfold cells64 castI cellsN;rw [List.map_map]; rfl
theorem xbook_yes (A:Option Addr) (n c:Nat) (m:List Nat) (H:Sp w0 L w) (hn:n=m.length) (hb:Ent L fun w=>Rd w A (cellsN m)) (hk:PI.book m=true) :
  Calls Tryd.prog 140 #[.slice A n c] w fun e w'=>∃g,e=.returned (.pointer (some ⟨g,0,none⟩))/\Sp w0 (Bok g m::L) w':=by
 have a : Ent L fun w=>Rd w A (cells64 (castI m)):=by rw [cellsN_cast]; exact hb
 have b : n=(castI m).length:=by unfold castI; rw [List.length_map]; exact hn
 have d:=Y9 A n c (castI m) H b a hk;rw [PI.PH.nat_cast,PI.mostN_of] at d;have f:=hid d;clear d hb a b hk hn;go_enter Tryd.func140,Tryd.ntmps140
 go_wp2_with fail
 refine f.out.mono ?_;rintro _ i ⟨g,v,rfl,h⟩;go_wp2;go_ret;exact⟨g,rfl,Sp.ex v h.star⟩
theorem YO (A:Option Addr) (n c:Nat) (m:List Nat) (H:Sp w0 L w) (hn:n=m.length) (hb:Ent L fun w=>Rd w A (cellsN m)) (hl:n<=1000) (hk:PI.book m=false) :
  Calls Tryd.prog 140 #[.slice A n c] w fun e w'=>e=.panicked (pan 20)/\Sp w0 L w':=by
 have a : Ent L fun w=>Rd w A (cells64 (castI m)):=by rw [cellsN_cast]; exact hb
 have b : n=(castI m).length:=by unfold castI; rw [List.length_map]; exact hn
 have d:=XJ A n c (castI m) H b a (by omega) hk;have f:PH.enI (castI m)=1∨PH.enI (castI m)=20:=by
  unfold PH.enI;split
  ·exact .inr rfl
  ·exact .inl rfl
 obtain⟨x,g⟩:=exq (PH.enI (castI m));rw [g] at d f;have h:=hid d;have i:¬ x=0:=by omega
 have k:(x != 0)=true:=by simpa using i
 clear d hb a b hk f g hn;go_enter Tryd.func140,Tryd.ntmps140
 go_wp2_with fail
 refine h.out.mono ?_;rintro _ l ⟨rfl,j⟩;go_wp2;exact⟨rfl,rfl,j⟩
theorem row_ent {e:TypeId} {V:Option Addr} {n kk:Nat} {xs:List Value} {M:List Pr} (j:Nat) (hj:M[j]?=some (Row e 1 (.slice V n kk) n xs)):Ent M fun w=>Rd w V xs:=fun _ _ H=>by
 obtain⟨c,d,a,b,_,_⟩:=H.row_rd j hj;injection a with a
 subst a;exact b
theorem fixed_book:PI.book PI.fixedL=true/\PI.book PI.fixedD=true:=by decide +kernel
theorem fixed_len:PI.fixedL.length=288/\PI.fixedD.length=32:=by decide +kernel
theorem xfixed_ok {w0 w:World} {L:List Pr} (H:Sp w0 L w) :
    Calls Tryd.prog 98 #[] w fun e w'=>∃g1 g2,e=.returned (.tuple #[.pointer (some ⟨g1,0,none⟩),.pointer (some ⟨g2,0,none⟩)])/\Sp w0 (Bok g2 PI.fixedD::Bok g1 PI.fixedL::L) w':=by
  have H1:=H.newBk [.int .i64 8] 3
  go_enter Tryd.func98,Tryd.ntmps98
  go_wp2_with fail
  refine(repeatI_ok _ 1 (.int .i64 8) 144 H1 (fun _ _ H=>Rd.of_blk (H.blk 0 rfl)) rfl (by omega) (by omega)).mono ?_
  rintro _ w1 ⟨ga,rfl,H2⟩
  replace H2:=H2.pick 2 [0]
  clear H1
  have H3:=H2.newBk [.int .i64 9] 3
  go_wp2_with fail
  refine(repeatI_ok _ 1 (.int .i64 9) 112 H3 (fun _ _ H=>Rd.of_blk (H.blk 0 rfl)) rfl (by omega) (by omega)).mono ?_
  rintro _ w2 ⟨gb,rfl,H4⟩
  replace H4:=H4.pick 2 [0]
  clear H3 H2
  have H5:=H4.newBk [.int .i64 7] 3
  go_wp2_with fail
  refine(repeatI_ok _ 1 (.int .i64 7) 24 H5 (fun _ _ H=>Rd.of_blk (H.blk 0 rfl)) rfl (by omega) (by omega)).mono ?_
  rintro _ w3 ⟨gc,rfl,H6⟩
  replace H6:=H6.pick 2 [0]
  clear H5 H4
  have H7:=H6.newBk [.int .i64 8] 3
  go_wp2_with fail
  refine(repeatI_ok _ 1 (.int .i64 8) 8 H7 (fun _ _ H=>Rd.of_blk (H.blk 0 rfl)) rfl (by omega) (by omega)).mono ?_
  rintro _ w4 ⟨gd,rfl,H8⟩
  replace H8:=H8.pick 2 [0]
  clear H7 H6
  have H9:=H8.newBk [.slice (some ⟨ga,0,none⟩) 144 144,.slice (some ⟨gb,0,none⟩) 112 112,.slice (some ⟨gc,0,none⟩) 24 24,.slice (some ⟨gd,0,none⟩) 8 8] 51
  have hc:=concat_okI ⟨w4.heap.size,0,none⟩ 4 4 [⟨some ⟨ga,0,none⟩,144,144,List.replicate 144 (.int .i64 8)⟩,⟨some ⟨gb,0,none⟩,112,112,List.replicate 112 (.int .i64 9)⟩,⟨some ⟨gc,0,none⟩,24,24,List.replicate 24 (.int .i64 7)⟩,⟨some ⟨gd,0,none⟩,8,8,List.replicate 8 (.int .i64 8)⟩] H9 rfl (fun _ _ H=>Rd.of_blk (H.blk 0 rfl))
    (fun q hq=>by
      have one:∀(n:Nat) (v:Int),∀u ∈ List.replicate n (Value.int .i64 v),u.oneCell'=true:=fun n v u hu=>by rw [(List.mem_replicate.1 hu).2]; rfl
      rcases List.mem_cons.1 hq with rfl | hq
      · exact⟨by simp only [List.length_replicate],row_ent 4 rfl,one _ _⟩
      rcases List.mem_cons.1 hq with rfl | hq
      · exact⟨by simp only [List.length_replicate],row_ent 3 rfl,one _ _⟩
      rcases List.mem_cons.1 hq with rfl | hq
      · exact⟨by simp only [List.length_replicate],row_ent 2 rfl,one _ _⟩
      · rw [List.mem_singleton.1 hq]
        exact⟨by simp only [List.length_replicate],row_ent 1 rfl,one _ _⟩) (by simp [Part.sum]) (by omega)
  have hsum:Part.sum [⟨some ⟨ga,0,none⟩,144,144,List.replicate 144 (.int .i64 8)⟩,⟨some ⟨gb,0,none⟩,112,112,List.replicate 112 (.int .i64 9)⟩,⟨some ⟨gc,0,none⟩,24,24,List.replicate 24 (.int .i64 7)⟩,⟨some ⟨gd,0,none⟩,8,8,List.replicate 8 (.int .i64 8)⟩]=288:=rfl
  have hcat:Part.cat [⟨some ⟨ga,0,none⟩,144,144,List.replicate 144 (.int .i64 8)⟩,⟨some ⟨gb,0,none⟩,112,112,List.replicate 112 (.int .i64 9)⟩,⟨some ⟨gc,0,none⟩,24,24,List.replicate 24 (.int .i64 7)⟩,⟨some ⟨gd,0,none⟩,8,8,List.replicate 8 (.int .i64 8)⟩]=cellsN PI.fixedL:=by
    unfold Part.cat PI.fixedL cellsN
    simp only [List.flatMap_cons,List.flatMap_nil,List.map_append,List.map_replicate,List.append_nil,List.append_assoc]
    rfl
  rw [hsum,hcat] at hc
  have HC:=Lib.hid hc
  clear hc hsum hcat H8
  go_wp2_with fail
  refine HC.out.mono ?_
  rintro _ w5 ⟨vl,rfl,H10⟩
  obtain⟨VA,vc,rfl,_,_⟩:=Row.form H10 0 rfl
  have hb:=xbook_yes VA 288 vc PI.fixedL H10 fixed_len.1.symm (row_ent 0 rfl) fixed_book.1
  have HB:=Lib.hid hb
  clear hb HC H9
  go_wp2_with fail
  refine HB.out.mono ?_
  rintro _ w6 ⟨g1,rfl,H11⟩
  have H12:=H11.newBk [.int .i64 5] 3
  clear HB H10
  go_wp2_with fail
  refine(repeatI_ok _ 1 (.int .i64 5) 32 H12 (fun _ _ H=>Rd.of_blk (H.blk 0 rfl)) rfl (by omega) (by omega)).mono ?_
  rintro _ w7 ⟨ge,rfl,H13⟩
  have hrep:List.replicate 32 (Value.int .i64 5)=cellsN PI.fixedD:=by unfold cellsN PI.fixedD; rw [List.map_replicate]; rfl
  rw [hrep] at H13
  have hb:=xbook_yes (some ⟨ge,0,none⟩) 32 32 PI.fixedD H13 fixed_len.2.symm (row_ent 0 rfl) fixed_book.2
  clear hrep
  have HB:=Lib.hid hb
  clear hb H11 H12
  go_wp2_with fail
  refine HB.out.mono ?_
  rintro _ w8 ⟨g2,rfl,H14⟩
  go_wp2_with fail
  go_ret2
  exact⟨g1,g2,rfl,H14.pick 10 [0,3]⟩
end Go.Proofs.YteajimobgkempaaDoor

