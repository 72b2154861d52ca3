/- A pack. -/
import Derived.Test.YteajimobgkempaaDoorPk39
set_option linter.all false
set_option maxRecDepth 100000
set_option maxHeartbeats 8000000
namespace Go.Proofs.YteajimobgkempaaDoor
variable {w0 w:World} {L:List Pr}
open Go.RowKit
theorem PI.tellsO_most:∀(rows:List (Nat × Nat)) (acc:List Nat),(∀t ∈ rows,t.2<128)->(PI.tellsO acc rows).length<=acc.length+138 * rows.length:=by
 intro rows;induction rows with
 | nil=>intro acc _; exact Nat.le_refl _
 | cons t rows ih =>
  intro acc h;have a:=ih (PI.tellO acc t) (fun q hq=>h q (List.mem_cons_of_mem _ hq));have b:=h t (List.mem_cons_self ..);have c:(PI.tellO acc t).length<=acc.length+138:=by
   unfold PI.tellO;split
   ·rw [List.length_append,List.length_replicate]; omega
   split
   ·rw [List.length_append,List.length_replicate]; omega
   split
   ·rw [List.length_append,List.length_replicate]; omega
   ·rw [List.length_append,List.length_replicate]; omega
  show(PI.tellsO (PI.tellO acc t) rows).length<=_;rw [List.length_cons];omega
theorem PI.rows_many (l:List Nat) (h15:∀x ∈ l,x<=15) (hl:l.length=316):2<=(PI.rle l.length l).length:=by
 have b:=PI.rle_out l.length l [] (Nat.le_refl _) h15;have a:=PI.tellsO_most (PI.rle l.length l) [] (PI.rle_val _ _);rw [b,List.nil_append,hl] at a;simp only [List.length_nil] at a;rw [hl];omega
theorem ZI {w:World} {A:Option Addr} {l:List Nat} (h:Rd w A (cellsN l)) {k:Nat} (hk:k<l.length):∃ad,A=some ad/\w.cell? (ad.add k)=some (.int .i64 (l.getD k 0:Nat)):=by
 obtain⟨ad,e,a⟩:=h (fun h0=>by
  have:=congrArg List.length h0;simp [cellsN] at this;rw [this] at hk; simp at hk)
 exact⟨ad,e,a k _ (by simp [cellsN,List.getD_eq_getElem?_getD,hk])⟩
theorem add0 (a:Addr):a.add 0=a:=by unfold Addr.add; simp
theorem row3 {M:List Pr} {A:Option Addr} {n c z:Nat} {e:TypeId} {xs:List Value} (H:Sp w0 M w) (k:Nat) (hk:M[k]?=some (Row e z (.slice A n c) n xs)):Rd w A xs:=by
 obtain⟨b,d,a,h,_⟩:=H.row_rd k hk;injection a with a _ _
 subst a;exact h
theorem Y4:∀(j:Nat),j<19->∀w:World,(Instr.index 87 (.agg #[.int .i64 16,.int .i64 17,.int .i64 18,.int .i64 0,.int .i64 8,.int .i64 7,.int .i64 9,.int .i64 6,.int .i64 10,.int .i64 5,.int .i64 11,.int .i64 4,.int .i64 12,.int .i64 3,.int .i64 13,.int .i64 2,.int .i64 14,.int .i64 1,.int .i64 15]) (.int .i64 j)).run Tryd.prog w=.ok (.int .i64 (PI.orderT.getD j 0:Nat)) w
 | 0,_,w=>by kernel_rfl
 | 1,_,w=>by kernel_rfl
 | 2,_,w=>by kernel_rfl
 | 3,_,w=>by kernel_rfl
 | 4,_,w=>by kernel_rfl
 | 5,_,w=>by kernel_rfl
 | 6,_,w=>by kernel_rfl
 | 7,_,w=>by kernel_rfl
 | 8,_,w=>by kernel_rfl
 | 9,_,w=>by kernel_rfl
 | 10,_,w=>by kernel_rfl
 | 11,_,w=>by kernel_rfl
 | 12,_,w=>by kernel_rfl
 | 13,_,w=>by kernel_rfl
 | 14,_,w=>by kernel_rfl
 | 15,_,w=>by kernel_rfl
 | 16,_,w=>by kernel_rfl
 | 17,_,w=>by kernel_rfl
 | 18,_,w=>by kernel_rfl
 | n+19,h,_=>absurd h (by omega)
theorem YC (l:List Nat):∀u ∈ cellsN l,u.oneCell'=true:=by
 intro u a;obtain⟨x,_,rfl⟩:=List.mem_map.1 a;rfl
theorem Ww (gp ca cb:Nat) (VA VB:Option Addr) (m d:List Nat) (l1:List Bool) (H:Sp w0 (Pen gp l1::L) w) (hm:m.length=286) (hd:d.length=30) (hm15:∀x ∈ m,x<=15) (hd15:∀x ∈ d,x<=15) (hl:l1.length<=50000000)
  (hva:Ent L fun w=>Rd w VA (cellsN m)) (hvb:Ent L fun w=>Rd w VB (cellsN d)) :
  Calls Tryd.prog 20 #[.pointer (some ⟨gp,0,none⟩),.slice VA 286 ca,.slice VB 30 cb] w fun e w'=>e=.returned (.tuple #[])/\Sp w0 (Pen gp (l1++PI.headsW m d)::L) w':=by
 obtain⟨i0,hi,k4,l0,l5⟩:=info_parts infoJ;obtain⟨i1,hj,b6,b7,b8⟩:=info_parts infoS;obtain⟨X,g4⟩:=exq (m++d);obtain⟨RW,l6⟩:=exq (PI.rowsOf m d);have Z:X.length=316:=by rw [<- g4,List.length_append,hm,hd]
 have b3:∀x ∈ X,x<=15:=fun x hx=>by
  rw [<- g4] at hx;rcases List.mem_append.1 hx with h | h
  ·exact hm15 x h
  ·exact hd15 x h
 have g1:PI.rle 316 X=RW:=by
  rw [<- l6]; unfold PI.rowsOf;rw [g4,Z]
 have e6:=PI.rows_many X b3 Z;rw [Z,g1] at e6;have l7:RW.length<=316:=by
  have h:=PI.tellsO_len [] RW;rw [<- g1,PI.rle_out 316 X [] (by omega) b3,g1] at h;simp [Z] at h;exact h
 have j3:∀t ∈ RW,t.1<19/\t.2<128:=fun t ht=>by
  rw [<- g1] at ht;exact⟨PI.rle_small _ _ b3 t ht,PI.rle_val _ _ t ht⟩
 have j4:=hid g1;have l8:Hid (2<=RW.length):=hid e6;have g5:=hid j3;have o0:=hid Z;have l9:=hid b3;have j5:=hid l6;have g6:Hid (cellsN m++cellsN d=cellsN X):=by rw [<- g4,ZZ]; exact hid rfl
 have o1:=hid hvb;have r6:=hid hva;have j6:=H.rowNil 3 1;have o2:=hid j6;have m0:(cellsN m).length=286/\(cellsN d).length=30:=by
  simp [cellsN,hm,hd]
 have o3:=hid m0.1;have g2:=hid m0.2;have o4:=hid (hva _ _ H.tail);clear hva hvb g1 l7 j3 b3 Z e6 g4 l6 j6 m0;go_enter Tryd.func20,Tryd.ntmps20
 go_wp2_with (at_builtin; refine wpList_append_sp rfl _ _ 51 rfl 3 i0 (.int .i64 0) 1 8 Tryd.underlying51 hi k4 l0 l5 rfl (by decide) (.slice none 0 0) 0 [] rfl o2.out VA 286 ca (cellsN m) rfl (by rw [o3.out]) o4.out (YC _) (by unfold maxLen; omega) (by omega) ?_)
 intro v1 w1 H1 _;have o5:=hid H1;have o6:=hid (o1.out _ _ H1.tail2);clear o2 o4 H H1;go_wp2_with (at_builtin; refine wpList_append_sp rfl _ _ 51 rfl 3 i0 (.int .i64 0) 1 8 Tryd.underlying51 hi k4 l0 l5 rfl (by decide) _ _ _ rfl o5.out VB 30 cb (cellsN d) rfl (by rw [g2.out]) o6.out (YC _) (by unfold maxLen; omega) (by omega) ?_)
 intro v2 w2 H2 _;have H3:Sp w0 (Row 3 1 v2 316 (cellsN X)::Pen gp l1::L) w2:=by
  have h:=H2;first | rw [List.nil_append,g6.out] at h | rw [g6.out] at h
  exact h
 obtain⟨VL,o7,rfl,_,_⟩:=Row.form H3 0 rfl;have HX:=hid ((H3.rowNil 83 3).pick 3 [1,2,0]);clear o5 o6 H2 H3 o3 g2 g6 r6 o1;go_wp2_with fail
 go_loopw [7,8] (fun rv iv wr=>∃(i f:Nat) (R:List (Nat × Nat)),iv=.int .i64 i/\i<=316/\316<=i+f/\R.length<=i/\R++PI.rle f (X.drop i)=RW/\Sp w0 (Row 3 1 (.slice VL 316 o7) 316 (cellsN X)::Pen gp l1::Row 83 3 rv R.length (cellsS (R.map PI.sgR))::L) wr) (fun _ iv _=>316 - (intOf iv).toNat)
 case atStart=>exact⟨0,316,[],rfl,by omega,by omega,by simp,by rw [List.nil_append,List.drop_zero]; exact j4.out,HX.out⟩
 case round =>
  obtain⟨i,f,R,rfl,m1,hf,r7,j7,H4⟩:=hrel;clear HX j4;have HI:=hid j7;clear j7;by_cases a5:i<316
  ·have k1:(i:Int)<316:=by omega
   obtain⟨f,rfl⟩:∃f',f=f'+1:=⟨f - 1,by omega⟩;have t1:=o0.out;obtain⟨av,rfl,c1⟩:=ZI (row_ent 0 rfl _ _ H4) (k:=i) (by omega);obtain⟨x,hx⟩:=exq (X.getD i 0);rw [hx] at c1;have d3:=hid hx;have g0:x<=15:=by
    rw [<- hx,List.getD_eq_getElem?_getD,List.getElem?_eq_getElem (by omega)];exact l9.out _ (List.getElem_mem _)
   have o8:=hid H4;clear hx c1 H4;go_wp2_with fail
   go_loopw [9] (fun kv wr=>∃k:Nat,kv=.int .i64 k/\i<=k/\k<=316/\(∀j,i<=j->j<k->X.getD j 0=X.getD i 0)/\Sp w0 (Row 3 1 (.slice (some av) 316 o7) 316 (cellsN X)::Pen gp l1::Row 83 3 u7 R.length (cellsS (R.map PI.sgR))::L) wr) (fun kv _=>316 - (intOf kv).toNat)
   case atStart=>exact⟨i,rfl,Nat.le_refl _,m1,fun j h1 h2=>by omega,o8.out⟩
   case round =>
    obtain⟨k,rfl,r8,r9,g7,H4⟩:=hrel;clear o8;have e7:=hid g7;have c1:wr.cell? (av.add i)=some (.int .i64 x):=by
     obtain⟨a9,e9,h9⟩:=ZI (row_ent 0 rfl _ _ H4) (k:=i) (by omega);injection e9 with e9
     subst e9;rw [h9,d3.out]
    clear g7;by_cases hk:k<316
    ·have k2:(k:Int)<316:=by omega
     have o9:wr.cell? (av.add k)=some (.int .i64 (X.getD k 0:Nat)):=by
      obtain⟨a9,e9,h9⟩:=ZI (row_ent 0 rfl _ _ H4) (k:=k) (by omega);injection e9 with e9
      subst e9;exact h9
     obtain⟨xk,m2⟩:=exq (X.getD k 0);rw [m2] at o9;have m3:=hid m2;clear m2;by_cases he:xk=x
     ·have k3:((xk:Int) == (x:Int))=true:=by rw [he]; simp
      have s1 : (xk:Int)=(x:Int):=by rw [he]
      have HE:=hid he;clear he;go_wp2_with fail
      go_quiet (fail)
      have H5:=H4.drewN nq;generalize wr.drewN nq=w5 at H5 ⊢;go_wp2;go_roundw
      case rel =>
       refine⟨k+1,by go_num,by omega,by omega,fun j h1 h2=>?_,H5⟩;by_cases e:j=k
       ·subst e; rw [m3.out,HE.out,d3.out]
       ·exact e7.out j h1 (by omega)
      case measure=>first | (simp [intOf]; omega) | simp [intOf]
     ·have k3:((xk:Int) == (x:Int))=false:=by rw [beq_eq_false_iff_ne]; omega
      have s1 : ¬ (xk:Int)=(x:Int):=by omega
      have p0:i<k:=by
       refine Nat.lt_of_le_of_ne r8 fun e=>he ?_;subst e;rw [<- m3.out,d3.out]
      have e8:Hid (k<X.length->X.getD k 0≠X.getD i 0):=hid fun _=>by rw [m3.out,d3.out]; exact he
      clear he;go_wp2_with fail
      go_quiet (fail)
      have H5:=H4.drewN nq;have c1:(wr.drewN nq).cell? (av.add i)=some (.int .i64 x):=c1;generalize wr.drewN nq=w5 at H5 c1 ⊢;clear H4 o9;have f0:=PI.runL_at (l:=X) (i:=i) (k:=k) (by omega) (by omega) (by omega) e7.out e8.out;rw [d3.out] at f0;have c2:=PI.rle_at (l:=X) (i:=i) (f:=f) (by omega);rw [d3.out,f0] at c2;obtain⟨o,f1⟩:=exq (k - i);rw [f1] at c2;have b4:=hid c2;have y2:(k:Int) - (i:Int)=(o:Int):=by omega
      have p1:1<=o/\i+o<=316:=by omega
      have s2:=hid f1;clear f0 c2 f1;by_cases m4:x=0
      ·have x1:(x:Int)=0:=by omega
       have x2:((x:Int) == 0)=true:=by rw [x1]; rfl
       by_cases s3:11<=o
       ·have x3:(o:Int)≥11:=by omega
        obtain⟨z,r⟩:=exq (min o 138);have y3:min (o:Int) 138=(z:Int):=by omega
        obtain⟨y,I⟩:=exq (z - 11);have y4:(z:Int) - 11=(y:Int):=by omega
        obtain⟨i9,g⟩:=exq (i+z);have y5:(i:Int)+(z:Int)=(i9:Int):=by omega
        have B:i9<=316/\i<i9:=by omega
        have S:Hid ((R++[(18,y)])++PI.rle f (X.drop i9)=RW):=hid (by
         have h:=b4.out;rw [if_pos (show x=0/\11<=o from⟨by omega,by omega⟩)] at h;rw [r,I,g] at h;rw [<- HI.out,h];simp)
        have c:cellsS (([(18,y)]:List (Nat × Nat)).map PI.sgR)=(sgC (PI.sgR (18,y))):=by
         simp [cellsS]
        have C:=hid c;have T:R.length+1<=i9/\i9<=316:=by omega
        have G:=H5.newBk (sgC (PI.sgR (18,y))) 83;have D:=hid (Rd.of_blk (G.blk 0 rfl));have E:=hid (G.pick 4 [3,0,1,2]);have c3:=hid g;clear r I g G H5 c;go_wp2_with (at_builtin; refine wpList_append_sp rfl _ _ 48 rfl 83 i1 (.agg #[.int .i64 0,.int .i64 0,.int .i64 0]) 3 24 Tryd.underlying48 hj b6 b7 b8 rfl (by decide) _ R.length (cellsS (R.map PI.sgR)) rfl E.out (some ⟨_,0,none⟩) 1 1 (sgC (PI.sgR (18,y))) rfl rfl D.out (Zh _) (by unfold maxLen; omega) (by omega) ?_)
        intro v6 w6 H6 _;have U:=hid (H6.pick 4 [2,3,0]);clear D E H6;go_wp2_with fail
        go_roundw
        case rel =>
         refine⟨i9,f,R++[(18,y)],rfl,B.1,by omega,by rw [List.length_append]; exact T.1,S.out,?_⟩;have e1:cellsS ((R++[(18,y)]).map PI.sgR)=cellsS (R.map PI.sgR)++(sgC (PI.sgR (18,y))):=by rw [List.map_append,Zb,C.out]
         have e2:(R++[(18,y)]).length=R.length+1:=by rw [List.length_append]; rfl
         rw [e1,e2];exact U.out
        case measure=>first | (simp [intOf]; omega) | simp [intOf]
       ·have x3:¬ (o:Int)≥11:=by omega
        by_cases h3:3<=o
        ·have x4:(o:Int)≥3:=by omega
         obtain⟨z,r⟩:=exq o;obtain⟨y,I⟩:=exq (o - 3);have y4:(o:Int) - 3=(y:Int):=by omega
         obtain⟨i9,g⟩:=exq (i+o);have y5:(i:Int)+(o:Int)=(i9:Int):=by omega
         have B:i9<=316/\i<i9:=by omega
         have S:Hid ((R++[(17,y)])++PI.rle f (X.drop i9)=RW):=hid (by
          have h:=b4.out;rw [if_neg (show ¬ (x=0/\11<=o) by omega),if_pos (show x=0/\3<=o from⟨by omega,by omega⟩)] at h;rw [I,g] at h;rw [<- HI.out,h];simp)
         have c:cellsS (([(17,y)]:List (Nat × Nat)).map PI.sgR)=(sgC (PI.sgR (17,y))):=by
          simp [cellsS]
         have C:=hid c;have T:R.length+1<=i9/\i9<=316:=by omega
         have G:=H5.newBk (sgC (PI.sgR (17,y))) 83;have D:=hid (Rd.of_blk (G.blk 0 rfl));have E:=hid (G.pick 4 [3,0,1,2]);have c3:=hid g;clear r I g G H5 c;go_wp2_with (at_builtin; refine wpList_append_sp rfl _ _ 48 rfl 83 i1 (.agg #[.int .i64 0,.int .i64 0,.int .i64 0]) 3 24 Tryd.underlying48 hj b6 b7 b8 rfl (by decide) _ R.length (cellsS (R.map PI.sgR)) rfl E.out (some ⟨_,0,none⟩) 1 1 (sgC (PI.sgR (17,y))) rfl rfl D.out (Zh _) (by unfold maxLen; omega) (by omega) ?_)
         intro v6 w6 H6 _;have U:=hid (H6.pick 4 [2,3,0]);clear D E H6;go_wp2_with fail
         go_roundw
         case rel =>
          refine⟨i9,f,R++[(17,y)],rfl,B.1,by omega,by rw [List.length_append]; exact T.1,S.out,?_⟩;have e1:cellsS ((R++[(17,y)]).map PI.sgR)=cellsS (R.map PI.sgR)++(sgC (PI.sgR (17,y))):=by rw [List.map_append,Zb,C.out]
          have e2:(R++[(17,y)]).length=R.length+1:=by rw [List.length_append]; rfl
          rw [e1,e2];exact U.out
         case measure=>first | (simp [intOf]; omega) | simp [intOf]
        ·have x4:¬ (o:Int)≥3:=by omega
         have x5:¬ (o:Int)≥4:=by omega
         obtain⟨z,r⟩:=exq o;obtain⟨y,I⟩:=exq 0;obtain⟨i9,g⟩:=exq (i+1);have y5:(i:Int)+1=(i9:Int):=by omega
         have B:i9<=316/\i<i9:=by omega
         have S:Hid ((R++[(x,0)])++PI.rle f (X.drop i9)=RW):=hid (by
          have h:=b4.out;rw [if_neg (show ¬ (x=0/\11<=o) by omega),if_neg (show ¬ (x=0/\3<=o) by omega),if_neg (show ¬ 4<=o by omega)] at h;rw [g] at h;rw [<- HI.out,h];simp)
         have c:cellsS (([(x,0)]:List (Nat × Nat)).map PI.sgR)=[.int .i64 0,.int .i64 0,.int .i64 0]:=by
          rw [m4]; rfl
         have C:=hid c;have T:R.length+1<=i9/\i9<=316:=by omega
         have G:=H5.newBk [.int .i64 0,.int .i64 0,.int .i64 0] 83;have D:=hid (Rd.of_blk (G.blk 0 rfl));have E:=hid (G.pick 4 [3,0,1,2]);have c3:=hid g;clear r I g G H5 c;go_wp2_with (at_builtin; refine wpList_append_sp rfl _ _ 48 rfl 83 i1 (.agg #[.int .i64 0,.int .i64 0,.int .i64 0]) 3 24 Tryd.underlying48 hj b6 b7 b8 rfl (by decide) _ R.length (cellsS (R.map PI.sgR)) rfl E.out (some ⟨_,0,none⟩) 1 1 [.int .i64 0,.int .i64 0,.int .i64 0] rfl rfl D.out (by intro u hu; simp only [List.mem_cons,List.mem_nil_iff,or_false] at hu; rcases hu with rfl | rfl | rfl <;> rfl) (by unfold maxLen; omega) (by omega) ?_)
         intro v6 w6 H6 _;have U:=hid (H6.pick 4 [2,3,0]);clear D E H6;go_wp2_with fail
         go_roundw
         case rel =>
          refine⟨i9,f,R++[(x,0)],rfl,B.1,by omega,by rw [List.length_append]; exact T.1,S.out,?_⟩;have e1:cellsS ((R++[(x,0)]).map PI.sgR)=cellsS (R.map PI.sgR)++[.int .i64 0,.int .i64 0,.int .i64 0]:=by rw [List.map_append,Zb,C.out]
          have e2:(R++[(x,0)]).length=R.length+1:=by rw [List.length_append]; rfl
          rw [e1,e2];exact U.out
         case measure=>first | (simp [intOf]; omega) | simp [intOf]
      ·have x1:¬ (x:Int)=0:=by omega
       have x2:((x:Int) == 0)=false:=by rw [beq_eq_false_iff_ne]; exact x1
       by_cases h4:4<=o
       ·have x5:(o:Int)≥4:=by omega
        obtain⟨z,r⟩:=exq (min o 7);have y3:min (o:Int) 7=(z:Int):=by omega
        obtain⟨y,I⟩:=exq (z - 4);have y4:(z:Int) - 4=(y:Int):=by omega
        obtain⟨i9,g⟩:=exq (i+z);have y5:(i:Int)+(z:Int)=(i9:Int):=by omega
        have B:i9<=316/\i<i9:=by omega
        have S:Hid ((R++[(x,0),(16,y)])++PI.rle f (X.drop i9)=RW):=hid (by
         have h:=b4.out;rw [if_neg (show ¬ (x=0/\11<=o) by omega),if_neg (show ¬ (x=0/\3<=o) by omega),if_pos (show 4<=o by omega)] at h;rw [r,I,g] at h;rw [<- HI.out,h];simp)
        have c:cellsS (([(x,0),(16,y)]:List (Nat × Nat)).map PI.sgR)=[.int .i64 x,.int .i64 0,.int .i64 0,.int .i64 16,.int .i64 y,.int .i64 2]:=by
         show sgC (PI.sgR (x,0))++(sgC (PI.sgR (16,y))++[])=_; unfold PI.sgR sgC; simp only; rw [PI.tellB_small x g0]; rfl
        have C:=hid c;have T:R.length+2<=i9/\i9<=316:=by omega
        have G:=H5.newBk [.int .i64 x,.int .i64 0,.int .i64 0,.int .i64 16,.int .i64 y,.int .i64 2] 83;have D:=hid (Rd.of_blk (G.blk 0 rfl));have E:=hid (G.pick 4 [3,0,1,2]);have c3:=hid g;clear r I g G H5 c;go_wp2_with (at_builtin; refine wpList_append_sp rfl _ _ 48 rfl 83 i1 (.agg #[.int .i64 0,.int .i64 0,.int .i64 0]) 3 24 Tryd.underlying48 hj b6 b7 b8 rfl (by decide) _ R.length (cellsS (R.map PI.sgR)) rfl E.out (some ⟨_,0,none⟩) 2 2 [.int .i64 x,.int .i64 0,.int .i64 0,.int .i64 16,.int .i64 y,.int .i64 2] rfl rfl D.out (by intro u hu; simp only [List.mem_cons,List.mem_nil_iff,or_false] at hu; rcases hu with rfl | rfl | rfl | rfl | rfl | rfl <;> rfl) (by unfold maxLen; omega) (by omega) ?_)
        intro v6 w6 H6 _;have U:=hid (H6.pick 4 [2,3,0]);clear D E H6;go_wp2_with fail
        go_roundw
        case rel =>
         refine⟨i9,f,R++[(x,0),(16,y)],rfl,B.1,by omega,by rw [List.length_append]; exact T.1,S.out,?_⟩;have e1:cellsS ((R++[(x,0),(16,y)]).map PI.sgR)=cellsS (R.map PI.sgR)++[.int .i64 x,.int .i64 0,.int .i64 0,.int .i64 16,.int .i64 y,.int .i64 2]:=by rw [List.map_append,Zb,C.out]
         have e2:(R++[(x,0),(16,y)]).length=R.length+2:=by rw [List.length_append]; rfl
         rw [e1,e2];exact U.out
        case measure=>first | (simp [intOf]; omega) | simp [intOf]
       ·have x5:¬ (o:Int)≥4:=by omega
        obtain⟨z,r⟩:=exq o;obtain⟨y,I⟩:=exq 0;obtain⟨i9,g⟩:=exq (i+1);have y5:(i:Int)+1=(i9:Int):=by omega
        have B:i9<=316/\i<i9:=by omega
        have S:Hid ((R++[(x,0)])++PI.rle f (X.drop i9)=RW):=hid (by
         have h:=b4.out;rw [if_neg (show ¬ (x=0/\11<=o) by omega),if_neg (show ¬ (x=0/\3<=o) by omega),if_neg (show ¬ 4<=o by omega)] at h;rw [g] at h;rw [<- HI.out,h];simp)
        have c:cellsS (([(x,0)]:List (Nat × Nat)).map PI.sgR)=[.int .i64 x,.int .i64 0,.int .i64 0]:=by
         show sgC (PI.sgR (x,0))++[]=_; unfold PI.sgR sgC; simp only; rw [PI.tellB_small x g0]; rfl
        have C:=hid c;have T:R.length+1<=i9/\i9<=316:=by omega
        have G:=H5.newBk [.int .i64 x,.int .i64 0,.int .i64 0] 83;have D:=hid (Rd.of_blk (G.blk 0 rfl));have E:=hid (G.pick 4 [3,0,1,2]);have c3:=hid g;clear r I g G H5 c;go_wp2_with (at_builtin; refine wpList_append_sp rfl _ _ 48 rfl 83 i1 (.agg #[.int .i64 0,.int .i64 0,.int .i64 0]) 3 24 Tryd.underlying48 hj b6 b7 b8 rfl (by decide) _ R.length (cellsS (R.map PI.sgR)) rfl E.out (some ⟨_,0,none⟩) 1 1 [.int .i64 x,.int .i64 0,.int .i64 0] rfl rfl D.out (by intro u hu; simp only [List.mem_cons,List.mem_nil_iff,or_false] at hu; rcases hu with rfl | rfl | rfl <;> rfl) (by unfold maxLen; omega) (by omega) ?_)
        intro v6 w6 H6 _;have U:=hid (H6.pick 4 [2,3,0]);clear D E H6;go_wp2_with fail
        go_roundw
        case rel =>
         refine⟨i9,f,R++[(x,0)],rfl,B.1,by omega,by rw [List.length_append]; exact T.1,S.out,?_⟩;have e1:cellsS ((R++[(x,0)]).map PI.sgR)=cellsS (R.map PI.sgR)++[.int .i64 x,.int .i64 0,.int .i64 0]:=by rw [List.map_append,Zb,C.out]
         have e2:(R++[(x,0)]).length=R.length+1:=by rw [List.length_append]; rfl
         rw [e1,e2];exact U.out
        case measure=>first | (simp [intOf]; omega) | simp [intOf]
    ·have k2:¬ (k:Int)<316:=by omega
     have n1:decide ((k:Int)<316)=false:=by simp; omega
     have p0:i<k:=by omega
     have e8:Hid (k<X.length->X.getD k 0≠X.getD i 0):=hid fun h=>by omega
     go_wp2_with fail
     go_quiet (fail)
     have H5:=H4.drewN nq;have c1:(wr.drewN nq).cell? (av.add i)=some (.int .i64 x):=c1;generalize wr.drewN nq=w5 at H5 c1 ⊢;clear H4;have f0:=PI.runL_at (l:=X) (i:=i) (k:=k) (by omega) (by omega) (by omega) e7.out e8.out;rw [d3.out] at f0;have c2:=PI.rle_at (l:=X) (i:=i) (f:=f) (by omega);rw [d3.out,f0] at c2;obtain⟨o,f1⟩:=exq (k - i);rw [f1] at c2;have b4:=hid c2;have y2:(k:Int) - (i:Int)=(o:Int):=by omega
     have p1:1<=o/\i+o<=316:=by omega
     have s2:=hid f1;clear f0 c2 f1;by_cases m4:x=0
     ·have x1:(x:Int)=0:=by omega
      have x2:((x:Int) == 0)=true:=by rw [x1]; rfl
      by_cases s3:11<=o
      ·have x3:(o:Int)≥11:=by omega
       obtain⟨z,r⟩:=exq (min o 138);have y3:min (o:Int) 138=(z:Int):=by omega
       obtain⟨y,I⟩:=exq (z - 11);have y4:(z:Int) - 11=(y:Int):=by omega
       obtain⟨i9,g⟩:=exq (i+z);have y5:(i:Int)+(z:Int)=(i9:Int):=by omega
       have B:i9<=316/\i<i9:=by omega
       have S:Hid ((R++[(18,y)])++PI.rle f (X.drop i9)=RW):=hid (by
        have h:=b4.out;rw [if_pos (show x=0/\11<=o from⟨by omega,by omega⟩)] at h;rw [r,I,g] at h;rw [<- HI.out,h];simp)
       have c:cellsS (([(18,y)]:List (Nat × Nat)).map PI.sgR)=(sgC (PI.sgR (18,y))):=by
        simp [cellsS]
       have C:=hid c;have T:R.length+1<=i9/\i9<=316:=by omega
       have G:=H5.newBk (sgC (PI.sgR (18,y))) 83;have D:=hid (Rd.of_blk (G.blk 0 rfl));have E:=hid (G.pick 4 [3,0,1,2]);have c3:=hid g;clear r I g G H5 c;go_wp2_with (at_builtin; refine wpList_append_sp rfl _ _ 48 rfl 83 i1 (.agg #[.int .i64 0,.int .i64 0,.int .i64 0]) 3 24 Tryd.underlying48 hj b6 b7 b8 rfl (by decide) _ R.length (cellsS (R.map PI.sgR)) rfl E.out (some ⟨_,0,none⟩) 1 1 (sgC (PI.sgR (18,y))) rfl rfl D.out (Zh _) (by unfold maxLen; omega) (by omega) ?_)
       intro v6 w6 H6 _;have U:=hid (H6.pick 4 [2,3,0]);clear D E H6;go_wp2_with fail
       go_roundw
       case rel =>
        refine⟨i9,f,R++[(18,y)],rfl,B.1,by omega,by rw [List.length_append]; exact T.1,S.out,?_⟩;have e1:cellsS ((R++[(18,y)]).map PI.sgR)=cellsS (R.map PI.sgR)++(sgC (PI.sgR (18,y))):=by rw [List.map_append,Zb,C.out]
        have e2:(R++[(18,y)]).length=R.length+1:=by rw [List.length_append]; rfl
        rw [e1,e2];exact U.out
       case measure=>first | (simp [intOf]; omega) | simp [intOf]
      ·have x3:¬ (o:Int)≥11:=by omega
       by_cases h3:3<=o
       ·have x4:(o:Int)≥3:=by omega
        obtain⟨z,r⟩:=exq o;obtain⟨y,I⟩:=exq (o - 3);have y4:(o:Int) - 3=(y:Int):=by omega
        obtain⟨i9,g⟩:=exq (i+o);have y5:(i:Int)+(o:Int)=(i9:Int):=by omega
        have B:i9<=316/\i<i9:=by omega
        have S:Hid ((R++[(17,y)])++PI.rle f (X.drop i9)=RW):=hid (by
         have h:=b4.out;rw [if_neg (show ¬ (x=0/\11<=o) by omega),if_pos (show x=0/\3<=o from⟨by omega,by omega⟩)] at h;rw [I,g] at h;rw [<- HI.out,h];simp)
        have c:cellsS (([(17,y)]:List (Nat × Nat)).map PI.sgR)=(sgC (PI.sgR (17,y))):=by
         simp [cellsS]
        have C:=hid c;have T:R.length+1<=i9/\i9<=316:=by omega
        have G:=H5.newBk (sgC (PI.sgR (17,y))) 83;have D:=hid (Rd.of_blk (G.blk 0 rfl));have E:=hid (G.pick 4 [3,0,1,2]);have c3:=hid g;clear r I g G H5 c;go_wp2_with (at_builtin; refine wpList_append_sp rfl _ _ 48 rfl 83 i1 (.agg #[.int .i64 0,.int .i64 0,.int .i64 0]) 3 24 Tryd.underlying48 hj b6 b7 b8 rfl (by decide) _ R.length (cellsS (R.map PI.sgR)) rfl E.out (some ⟨_,0,none⟩) 1 1 (sgC (PI.sgR (17,y))) rfl rfl D.out (Zh _) (by unfold maxLen; omega) (by omega) ?_)
        intro v6 w6 H6 _;have U:=hid (H6.pick 4 [2,3,0]);clear D E H6;go_wp2_with fail
        go_roundw
        case rel =>
         refine⟨i9,f,R++[(17,y)],rfl,B.1,by omega,by rw [List.length_append]; exact T.1,S.out,?_⟩;have e1:cellsS ((R++[(17,y)]).map PI.sgR)=cellsS (R.map PI.sgR)++(sgC (PI.sgR (17,y))):=by rw [List.map_append,Zb,C.out]
         have e2:(R++[(17,y)]).length=R.length+1:=by rw [List.length_append]; rfl
         rw [e1,e2];exact U.out
        case measure=>first | (simp [intOf]; omega) | simp [intOf]
       ·have x4:¬ (o:Int)≥3:=by omega
        have x5:¬ (o:Int)≥4:=by omega
        obtain⟨z,r⟩:=exq o;obtain⟨y,I⟩:=exq 0;obtain⟨i9,g⟩:=exq (i+1);have y5:(i:Int)+1=(i9:Int):=by omega
        have B:i9<=316/\i<i9:=by omega
        have S:Hid ((R++[(x,0)])++PI.rle f (X.drop i9)=RW):=hid (by
         have h:=b4.out;rw [if_neg (show ¬ (x=0/\11<=o) by omega),if_neg (show ¬ (x=0/\3<=o) by omega),if_neg (show ¬ 4<=o by omega)] at h;rw [g] at h;rw [<- HI.out,h];simp)
        have c:cellsS (([(x,0)]:List (Nat × Nat)).map PI.sgR)=[.int .i64 0,.int .i64 0,.int .i64 0]:=by
         rw [m4]; rfl
        have C:=hid c;have T:R.length+1<=i9/\i9<=316:=by omega
        have G:=H5.newBk [.int .i64 0,.int .i64 0,.int .i64 0] 83;have D:=hid (Rd.of_blk (G.blk 0 rfl));have E:=hid (G.pick 4 [3,0,1,2]);have c3:=hid g;clear r I g G H5 c;go_wp2_with (at_builtin; refine wpList_append_sp rfl _ _ 48 rfl 83 i1 (.agg #[.int .i64 0,.int .i64 0,.int .i64 0]) 3 24 Tryd.underlying48 hj b6 b7 b8 rfl (by decide) _ R.length (cellsS (R.map PI.sgR)) rfl E.out (some ⟨_,0,none⟩) 1 1 [.int .i64 0,.int .i64 0,.int .i64 0] rfl rfl D.out (by intro u hu; simp only [List.mem_cons,List.mem_nil_iff,or_false] at hu; rcases hu with rfl | rfl | rfl <;> rfl) (by unfold maxLen; omega) (by omega) ?_)
        intro v6 w6 H6 _;have U:=hid (H6.pick 4 [2,3,0]);clear D E H6;go_wp2_with fail
        go_roundw
        case rel =>
         refine⟨i9,f,R++[(x,0)],rfl,B.1,by omega,by rw [List.length_append]; exact T.1,S.out,?_⟩;have e1:cellsS ((R++[(x,0)]).map PI.sgR)=cellsS (R.map PI.sgR)++[.int .i64 0,.int .i64 0,.int .i64 0]:=by rw [List.map_append,Zb,C.out]
         have e2:(R++[(x,0)]).length=R.length+1:=by rw [List.length_append]; rfl
         rw [e1,e2];exact U.out
        case measure=>first | (simp [intOf]; omega) | simp [intOf]
     ·have x1:¬ (x:Int)=0:=by omega
      have x2:((x:Int) == 0)=false:=by rw [beq_eq_false_iff_ne]; exact x1
      by_cases h4:4<=o
      ·have x5:(o:Int)≥4:=by omega
       obtain⟨z,r⟩:=exq (min o 7);have y3:min (o:Int) 7=(z:Int):=by omega
       obtain⟨y,I⟩:=exq (z - 4);have y4:(z:Int) - 4=(y:Int):=by omega
       obtain⟨i9,g⟩:=exq (i+z);have y5:(i:Int)+(z:Int)=(i9:Int):=by omega
       have B:i9<=316/\i<i9:=by omega
       have S:Hid ((R++[(x,0),(16,y)])++PI.rle f (X.drop i9)=RW):=hid (by
        have h:=b4.out;rw [if_neg (show ¬ (x=0/\11<=o) by omega),if_neg (show ¬ (x=0/\3<=o) by omega),if_pos (show 4<=o by omega)] at h;rw [r,I,g] at h;rw [<- HI.out,h];simp)
       have c:cellsS (([(x,0),(16,y)]:List (Nat × Nat)).map PI.sgR)=[.int .i64 x,.int .i64 0,.int .i64 0,.int .i64 16,.int .i64 y,.int .i64 2]:=by
        show sgC (PI.sgR (x,0))++(sgC (PI.sgR (16,y))++[])=_; unfold PI.sgR sgC; simp only; rw [PI.tellB_small x g0]; rfl
       have C:=hid c;have T:R.length+2<=i9/\i9<=316:=by omega
       have G:=H5.newBk [.int .i64 x,.int .i64 0,.int .i64 0,.int .i64 16,.int .i64 y,.int .i64 2] 83;have D:=hid (Rd.of_blk (G.blk 0 rfl));have E:=hid (G.pick 4 [3,0,1,2]);have c3:=hid g;clear r I g G H5 c;go_wp2_with (at_builtin; refine wpList_append_sp rfl _ _ 48 rfl 83 i1 (.agg #[.int .i64 0,.int .i64 0,.int .i64 0]) 3 24 Tryd.underlying48 hj b6 b7 b8 rfl (by decide) _ R.length (cellsS (R.map PI.sgR)) rfl E.out (some ⟨_,0,none⟩) 2 2 [.int .i64 x,.int .i64 0,.int .i64 0,.int .i64 16,.int .i64 y,.int .i64 2] rfl rfl D.out (by intro u hu; simp only [List.mem_cons,List.mem_nil_iff,or_false] at hu; rcases hu with rfl | rfl | rfl | rfl | rfl | rfl <;> rfl) (by unfold maxLen; omega) (by omega) ?_)
       intro v6 w6 H6 _;have U:=hid (H6.pick 4 [2,3,0]);clear D E H6;go_wp2_with fail
       go_roundw
       case rel =>
        refine⟨i9,f,R++[(x,0),(16,y)],rfl,B.1,by omega,by rw [List.length_append]; exact T.1,S.out,?_⟩;have e1:cellsS ((R++[(x,0),(16,y)]).map PI.sgR)=cellsS (R.map PI.sgR)++[.int .i64 x,.int .i64 0,.int .i64 0,.int .i64 16,.int .i64 y,.int .i64 2]:=by rw [List.map_append,Zb,C.out]
        have e2:(R++[(x,0),(16,y)]).length=R.length+2:=by rw [List.length_append]; rfl
        rw [e1,e2];exact U.out
       case measure=>first | (simp [intOf]; omega) | simp [intOf]
      ·have x5:¬ (o:Int)≥4:=by omega
       obtain⟨z,r⟩:=exq o;obtain⟨y,I⟩:=exq 0;obtain⟨i9,g⟩:=exq (i+1);have y5:(i:Int)+1=(i9:Int):=by omega
       have B:i9<=316/\i<i9:=by omega
       have S:Hid ((R++[(x,0)])++PI.rle f (X.drop i9)=RW):=hid (by
        have h:=b4.out;rw [if_neg (show ¬ (x=0/\11<=o) by omega),if_neg (show ¬ (x=0/\3<=o) by omega),if_neg (show ¬ 4<=o by omega)] at h;rw [g] at h;rw [<- HI.out,h];simp)
       have c:cellsS (([(x,0)]:List (Nat × Nat)).map PI.sgR)=[.int .i64 x,.int .i64 0,.int .i64 0]:=by
        show sgC (PI.sgR (x,0))++[]=_; unfold PI.sgR sgC; simp only; rw [PI.tellB_small x g0]; rfl
       have C:=hid c;have T:R.length+1<=i9/\i9<=316:=by omega
       have G:=H5.newBk [.int .i64 x,.int .i64 0,.int .i64 0] 83;have D:=hid (Rd.of_blk (G.blk 0 rfl));have E:=hid (G.pick 4 [3,0,1,2]);have c3:=hid g;clear r I g G H5 c;go_wp2_with (at_builtin; refine wpList_append_sp rfl _ _ 48 rfl 83 i1 (.agg #[.int .i64 0,.int .i64 0,.int .i64 0]) 3 24 Tryd.underlying48 hj b6 b7 b8 rfl (by decide) _ R.length (cellsS (R.map PI.sgR)) rfl E.out (some ⟨_,0,none⟩) 1 1 [.int .i64 x,.int .i64 0,.int .i64 0] rfl rfl D.out (by intro u hu; simp only [List.mem_cons,List.mem_nil_iff,or_false] at hu; rcases hu with rfl | rfl | rfl <;> rfl) (by unfold maxLen; omega) (by omega) ?_)
       intro v6 w6 H6 _;have U:=hid (H6.pick 4 [2,3,0]);clear D E H6;go_wp2_with fail
       go_roundw
       case rel =>
        refine⟨i9,f,R++[(x,0)],rfl,B.1,by omega,by rw [List.length_append]; exact T.1,S.out,?_⟩;have e1:cellsS ((R++[(x,0)]).map PI.sgR)=cellsS (R.map PI.sgR)++[.int .i64 x,.int .i64 0,.int .i64 0]:=by rw [List.map_append,Zb,C.out]
        have e2:(R++[(x,0)]).length=R.length+1:=by rw [List.length_append]; rfl
        rw [e1,e2];exact U.out
       case measure=>first | (simp [intOf]; omega) | simp [intOf]
  ·have k1:¬ (i:Int)<316:=by omega
   obtain rfl:i=316:=by omega
   have p2:R=RW:=by
    have h:=HI.out;rw [List.drop_eq_nil_iff.2 (by rw [o0.out]; exact Nat.le_refl _),show PI.rle f []=[] by cases f <;> rfl,List.append_nil] at h
    exact h
   subst p2;obtain⟨nR,m5⟩:=exq R.length;obtain⟨VS,W,rfl,_,_⟩:=Row.form H4 2 rfl;rw [m5] at H4 r7 ⊢;have b9:=hid m5;have HX:=hid (H4.pick 3 [2,1]);clear H4 HI hf m5;go_wp2_with (at_make; refine wpList_make_sp rfl _ _ _ rfl 3 i0 (.int .i64 0) Tryd.underlying51 hi k4 l0 rfl 19 rfl rfl (by rw [l5]; omega) (by unfold maxLen; omega) HX.out ?_)
   intro a1 w3 H5;have p3 : Sp w0 (Row 3 1 (.slice (some a1) 19 19) 19 (cellsN (PI.cnts 19 ((R.take 0).map Prod.fst)))::Row 83 3 (.slice VS nR W) nR (cellsS (R.map PI.sgR))::Pen gp l1::L) w3:=by rw [List.take_zero]; exact H5
   have p4:=hid p3;clear HX H5 p3;go_wp2_with fail
   go_loopw [121] (fun jv wr=>∃j:Nat,jv=.int .i64 j/\j<=nR/\Sp w0 (Row 3 1 (.slice (some a1) 19 19) 19 (cellsN (PI.cnts 19 ((R.take j).map Prod.fst)))::Row 83 3 (.slice VS nR W) nR (cellsS (R.map PI.sgR))::Pen gp l1::L) wr) (fun jv _=>nR - (intOf jv).toNat)
   case atStart=>exact⟨0,rfl,Nat.zero_le _,p4.out⟩
   case round =>
    obtain⟨j,rfl,hj,H7⟩:=hrel;clear p4;by_cases a5:j<nR
    ·have k1:(j:Int)<(nR:Int):=by omega
     have O:j<R.length:=by rw [b9.out]; exact a5
     obtain⟨P,rfl,Y⟩:=rdS (row3 H7 1 rfl) (i:=j) (by rw [List.length_map]; exact O);rw [show(R.map PI.sgR).getD j (0,0,0)=PI.sgR (R.getD j (0,0)) by rw [List.getD_eq_getElem?_getD,List.getD_eq_getElem?_getD,List.getElem?_map,List.getElem?_eq_getElem O]; rfl] at Y;have Q:(R.take (j+1)).map Prod.fst=(R.take j).map Prod.fst++[(R.getD j (0,0)).1]:=by rw [Zq R j (0,0) O,List.map_append]; rfl
     have a6:=g5.out (R.getD j (0,0)) (by rw [List.getD_eq_getElem?_getD,List.getElem?_eq_getElem O]; exact List.getElem_mem O);obtain⟨⟨s,v⟩,hx⟩:∃x,R.getD j (0,0)=x:=⟨_,rfl⟩;rw [hx] at Y Q a6;obtain⟨tb,b2⟩:=exq (PI.tellB s);have d4:PI.sgR (s,v)=(s,v,tb):=by rw [<- b2]; rfl
     rw [d4] at Y;simp only at Q a6;have g9:PI.cnts 19 ((R.take (j+1)).map Prod.fst)=(PI.cnts 19 ((R.take j).map Prod.fst)).set s ((PI.cnts 19 ((R.take j).map Prod.fst)).getD s 0+1):=by rw [Q]; exact PI.cnts_snoc 19 s _ a6.1
     obtain⟨C0,j0⟩:=exq (PI.cnts 19 ((R.take j).map Prod.fst));have j8:C0.length=19:=by rw [<- j0]; exact PI.cnts_len _ _
     have p5:C0.getD s 0<=1000:=by
      rw [<- j0,PI.cnts_get 19 s _ a6.1];refine Nat.le_trans List.count_le_length ?_;rw [List.length_map,List.length_take]; omega
     rw [j0] at H7 g9;have j9:=hid g9;have d5:=hid Y;have a0:s<19:=a6.1;have d6:=H7.newBk [.int .i64 0,.int .i64 0,.int .i64 0] 83;have d7:=hid d6;have p6:=hid j8;clear Y Q hx d4 b2 g9 j0 d6 H7 a6 j8 O;go_wp2_with (first | (refine Zf rfl 83 _ rfl (P.add (j * 3)) (sgC (s,v,tb)) rfl d5.out Tryd.isAgg83 Tryd.sizeOf83 ?_) | (refine Za rfl 83 _ _ rfl wr.heap.size 83 [.int .i64 0,.int .i64 0,.int .i64 0] (sgC (s,v,tb)) rfl rfl d7.out rfl Tryd.sizeOf83 (Zh _) ?_))
     intro w8 H8;generalize wr.heap.size=g8 at H8 ⊢;have c0:w8.cell? ⟨g8,0,none⟩=some (.int .i64 s):=H8.cell 0 rfl 0;obtain⟨t2,c9,e9,_,h5,s8,k0⟩:=(H8.pick 2 [1,0]).rowSet a0;injection e9 with e9 _ _
     injection e9 with e9
     subst e9;obtain⟨xc,m6⟩:=exq (C0.getD s 0);have t3:w8.cell? (a1.add s)=some (.int .i64 xc):=by
      rw [h5,<- m6]; simp [cellsN,List.getD_eq_getElem?_getD,p6.out,a0]
     rw [m6] at j9 p5;have m7:=k0 (.int .i64 ((xc+1:Nat):Int));rw [show(cellsN C0).set s (.int .i64 ((xc+1:Nat):Int))=cellsN (C0.set s (xc+1)) by simp [cellsN,List.map_set]] at m7;have s4:=hid (m7.pick 2 [0]);have k2:(s:Int)<19:=by omega
     clear d7 d5 H8 h5 k0 m7 m6;go_wp2_with fail
     go_roundw
     case rel=>exact⟨j+1,by go_num,by omega,by rw [j9.out]; exact s4.out⟩
     case measure=>first | (simp [intOf]; omega) | simp [intOf]
    ·have k1:¬ (j:Int)<(nR:Int):=by omega
     obtain rfl:nR=j:=by omega
     rw [List.take_of_length_le (by rw [b9.out]; exact Nat.le_refl _)] at H7;obtain⟨F1,F2,F3,F4,F5⟩:=PI.lens_fits 19 7 (R.map Prod.fst) (by decide) (by decide) (by decide) (by decide)
     have m8:=YQ (some a1) 19 19 (PI.cnts 19 (R.map Prod.fst)) 7 H7 (PI.cnts_len _ _).symm (row_ent 0 rfl) (by omega) (by omega) (by omega) (fun x hx=>by
      obtain⟨q,hq,rfl⟩:=List.mem_map.1 hx;refine Nat.le_trans List.count_le_length ?_;rw [List.length_map,b9.out]; omega) (by decide)
     obtain⟨b,m9⟩:=exq (PL.lens (PI.cnts 19 (R.map Prod.fst)) 7);rw [m9] at m8 F1 F2 F3;have p7:=hid m8;have p8:Hid (PI.firstOf R=b):=hid m9;have j1:=hid F1;have d8:=hid F2;have d9:=hid F3;clear m8 m9 F1 F2 F3 F4 F5 H7;go_wp2_with fail
     refine p7.out.mono ?_;rintro _ w4 ⟨vf,rfl,H8⟩;obtain⟨VF,vfc,rfl,_,_⟩:=Row.form H8 0 rfl;have G:=H8.pick 3 [0,2];clear p7 H8;have t4:2<=nR:=by rw [<- b9.out]; exact l8.out
     obtain⟨P,rfl,n0⟩:=rdS (row3 G 1 rfl) (i:=0) (by rw [List.length_map,b9.out]; omega);obtain⟨q,hq⟩:=exq (nR - 1);have yq:(nR:Int) - 1=(q:Int):=by omega
     obtain⟨p9,e2,n2⟩:=rdS (row3 G 1 rfl) (i:=q) (by rw [List.length_map,b9.out]; omega);injection e2 with e2
     subst e2;obtain⟨⟨s0,t0⟩,g3⟩:∃x,(R.map PI.sgR).getD 0 (0,0,0)=x:=⟨_,rfl⟩;obtain⟨⟨s9,t9⟩,q0⟩:∃x,(R.map PI.sgR).getD q (0,0,0)=x:=⟨_,rfl⟩;rw [g3] at n0;rw [q0] at n2;have d0:=n0 0 _ rfl;have d1:=n2 0 _ rfl;simp only [Nat.zero_mul,add0] at d0 d1;have k5:¬ (nR:Int)=1:=by omega
     have k6:((nR:Int) == 1)=false:=by rw [beq_eq_false_iff_ne]; exact k5
     have k7:(q:Int)<(nR:Int):=by omega
     have k8:(0:Int)<(nR:Int):=by omega
     have j2:=hid G;clear n0 n2 g3 q0 hq G;go_wp2_with fail
     have q1:∀nq:Nat,Code.wp Tryd.prog (Code.skip) (fun _ _ _=>True) ⟨#[],[]⟩ w4->True:=fun _ _=>trivial;clear q1;by_cases g3:s0=s9
     ·have k9:((s0:Int) == (s9:Int))=true:=by rw [g3]; simp
      clear g3;go_quiet (fail)
      have f2:=j2.out.drewN nq;generalize w4.drewN nq=w5 at f2 ⊢;have e3:=hid f2;clear f2 j2 d0 d1;go_wp2_with fail
      refine(Zj gp 29 5 l1 (e3.out.pick 3 [2,0,1]) (by omega) (by omega)).mono ?_;rintro _ w6 ⟨rfl,h6⟩;clear e3;go_wp2_with fail
      refine(Zj gp 29 5 _ h6 (by omega) (by rw [List.length_append,PBits.bitsOf_length]; omega)).mono ?_;rintro _ w7 ⟨rfl,h7⟩;clear h6;go_wp2_with fail
      refine(Zj gp 15 4 _ h7 (by omega) (by rw [List.length_append,List.length_append,PBits.bitsOf_length]; omega)).mono ?_;rintro _ w8 ⟨rfl,f3⟩;clear h7;obtain⟨l2,c4⟩:=exq (l1++PBits.bitsOf 29 5++PBits.bitsOf 29 5++PBits.bitsOf 15 4);rw [c4] at f3;have h8:l2.length=l1.length+14:=by rw [<- c4,List.length_append,List.length_append,List.length_append,PBits.bitsOf_length,PBits.bitsOf_length]
      have g2:=hid c4;have e4:Hid (Sp w0 (Pen gp (l2++PI.firstsW b (PI.orderT.take 0))::Row 3 1 (.slice VF 19 vfc) 19 (cellsN b)::Row 83 3 (.slice (some P) nR W) nR (cellsS (R.map PI.sgR))::L) w8):=hid (by
       rw [List.take_zero,show PI.firstsW b []=[] from rfl,List.append_nil]; exact f3)
      clear c4 f3;go_wp2_with fail
      go_loopw [16,160] (fun _ jv wr=>∃j:Nat,jv=.int .i64 j/\j<=19/\Sp w0 (Pen gp (l2++PI.firstsW b (PI.orderT.take j))::Row 3 1 (.slice VF 19 vfc) 19 (cellsN b)::Row 83 3 (.slice (some P) nR W) nR (cellsS (R.map PI.sgR))::L) wr) (fun _ jv _=>19 - (intOf jv).toNat)
      case atStart=>exact⟨0,rfl,Nat.zero_le _,e4.out⟩
      case round =>
       obtain⟨j,rfl,hj,b5⟩:=hrel;clear e4;by_cases a5:j<19
       ·have k1:(j:Int)<19:=by omega
        have i2:=Y4 j a5;obtain⟨od,c7⟩:=exq (PI.orderT.getD j 0);have f4:od<19:=by rw [<- c7]; exact PI.orderT_lt j a5
        rw [c7] at i2;have Q:PI.firstsW b (PI.orderT.take (j+1))=PI.firstsW b (PI.orderT.take j)++PBits.bitsOf (b.getD od 0) 3:=by
         rw [Zq PI.orderT j 0 (by show j<19; exact a5),c7];unfold PI.firstsW;rw [List.flatMap_append];simp
        obtain⟨fv,f5⟩:=exq (b.getD od 0);rw [f5] at Q;obtain⟨N,rfl,n3⟩:=ZI (row_ent 1 rfl _ _ b5) (k:=od) (by rw [d8.out]; exact f4);rw [f5] at n3;have k2:(od:Int)<19:=by omega
        have a7:(PI.firstsW b (PI.orderT.take j)).length<=3 * 19:=by
         have:∀l:List Nat,(PI.firstsW b l).length=3 * l.length:=fun l=>by
          unfold PI.firstsW;induction l with
          | nil=>rfl
          | cons x l ih=>rw [List.flatMap_cons,List.length_append,ih,PBits.bitsOf_length,List.length_cons]; omega
         rw [this,List.length_take]; omega
        have a2:=Zj gp fv 3 _ b5 (by omega) (by rw [List.length_append]; omega);rw [List.append_assoc,<- Q] at a2;have i3:=hid a2;clear a2 Q f5 c7 a7 b5;go_wp2_with fail
        refine i3.out.mono ?_;rintro _ w9 ⟨rfl,b1⟩;clear i3 i2;go_wp2_with fail
        go_roundw
        case rel=>exact⟨j+1,by go_num,by omega,b1⟩
        case measure=>first | (simp [intOf]; omega) | simp [intOf]
       ·have k1:¬ (j:Int)<19:=by omega
        obtain rfl:j=19:=by omega
        have i4:=Z1 VF 19 vfc b (b5.pick 3 [1,2,0]) d8.out.symm (row_ent 0 rfl) (by omega) (fun x hx=>by have:=d9.out x hx; omega) (PI.book_sum j1.out);have i5:=hid i4;have a7:(PI.firstsW b (PI.orderT.take 19)).length=57:=by
         have:∀l:List Nat,(PI.firstsW b l).length=3 * l.length:=fun l=>by
          unfold PI.firstsW;induction l with
          | nil=>rfl
          | cons x l ih=>rw [List.flatMap_cons,List.length_append,ih,PBits.bitsOf_length,List.length_cons]; omega
         rw [this]; rfl
        clear i4 b5;go_wp2_with fail
        refine i5.out.mono ?_;rintro _ w9 ⟨vc,rfl,b1⟩;obtain⟨VC,cvc,rfl,_,_⟩:=Row.form b1 0 rfl;obtain⟨l3,c8⟩:=exq (l2++PI.firstsW b (PI.orderT.take 19));have q2:l3.length=l1.length+71:=by rw [<- c8,List.length_append,a7,h8]
        rw [c8] at b1;have n4:=hid c8;have e5:Hid (Sp w0 (Row 47 1 (.slice VC 19 cvc) 19 (rowU (PH.codeAt b) 19)::Row 3 1 (.slice VF 19 vfc) 19 (cellsN b)::Row 83 3 (.slice (some P) nR W) nR (cellsS (R.map PI.sgR))::Pen gp (l3++PI.tellsW b (R.take 0))::L) w9):=hid (by
         rw [List.take_zero,show PI.tellsW b []=[] from rfl,List.append_nil]; exact b1)
        clear i5 a7 c8 b1;go_wp2_with fail
        go_loopw [174] (fun jv wr=>∃j:Nat,jv=.int .i64 j/\j<=nR/\Sp w0 (Row 47 1 (.slice VC 19 cvc) 19 (rowU (PH.codeAt b) 19)::Row 3 1 (.slice VF 19 vfc) 19 (cellsN b)::Row 83 3 (.slice (some P) nR W) nR (cellsS (R.map PI.sgR))::Pen gp (l3++PI.tellsW b (R.take j))::L) wr) (fun jv _=>nR - (intOf jv).toNat)
        case atStart=>exact⟨0,rfl,Nat.zero_le _,e5.out⟩
        case round =>
         obtain⟨j,rfl,hj,H7⟩:=hrel;clear e5;by_cases a5:j<nR
         ·have k1:(j:Int)<(nR:Int):=by omega
          have O:j<R.length:=by rw [b9.out]; exact a5
          obtain⟨p9,e2,Y⟩:=rdS (row3 H7 2 rfl) (i:=j) (by rw [List.length_map]; exact O);injection e2 with e2
          subst e2;rw [show(R.map PI.sgR).getD j (0,0,0)=PI.sgR (R.getD j (0,0)) by rw [List.getD_eq_getElem?_getD,List.getD_eq_getElem?_getD,List.getElem?_map,List.getElem?_eq_getElem O]; rfl] at Y;have Q:PI.tellsW b (R.take (j+1))=PI.tellsW b (R.take j)++PI.tellW b (R.getD j (0,0)):=by rw [Zq R j (0,0) O]; unfold PI.tellsW; rw [List.flatMap_append]; simp
          have a6:=g5.out (R.getD j (0,0)) (by rw [List.getD_eq_getElem?_getD,List.getElem?_eq_getElem O]; exact List.getElem_mem O);have n5:(PI.tellsW b (R.take j)).length<=14 * j:=by
           have h9:∀l:List (Nat × Nat),(PI.tellsW b l).length<=14 * l.length:=fun l=>by
            unfold PI.tellsW;induction l with
            | nil=>exact Nat.le_refl _
            | cons x l ih =>
             rw [List.flatMap_cons,List.length_append,List.length_cons];have h1:(PI.tellW b x).length<=14:=by
              unfold PI.tellW PI.sayW;rw [List.length_append,PI.codeW_len,PBits.bitsOf_length];have h2:=PI.tellB_le x.1;have h3:b.getD x.1 0<=7:=by
               rw [List.getD_eq_getElem?_getD];rcases Nat.lt_or_ge x.1 b.length with h | h
               ·rw [List.getElem?_eq_getElem h]; exact d9.out _ (List.getElem_mem h)
               ·rw [List.getElem?_eq_none h]; exact Nat.zero_le _
              omega
             omega
           refine Nat.le_trans (h9 _) ?_;rw [List.length_take]; omega
          obtain⟨⟨s,v⟩,hx⟩:∃x,R.getD j (0,0)=x:=⟨_,rfl⟩;rw [hx] at Y Q a6;obtain⟨tb,b2⟩:=exq (PI.tellB s);have q3:tb<=7:=by rw [<- b2]; exact PI.tellB_le s
          have d4:PI.sgR (s,v)=(s,v,tb):=by rw [<- b2]; rfl
          rw [d4] at Y;have a0:s<19:=a6.1;have k2:(s:Int)<19:=by omega
          obtain⟨a3,a8⟩:=exq (PH.codeAt b s);obtain⟨a4,b0⟩:=exq (b.getD s 0);have i6:a3<4294967296:=by rw [<- a8]; exact ZR b (fun x hx=>by have:=d9.out x hx; omega) (PI.book_sum j1.out) s
          have s5:a4<=7:=by
           rw [<- b0,List.getD_eq_getElem?_getD,List.getElem?_eq_getElem (by rw [d8.out]; exact a0)];exact d9.out _ (List.getElem_mem _)
          have i7:PI.tellsW b (R.take (j+1))=PI.tellsW b (R.take j)++(PH.bitsC a4 a3++PBits.bitsOf v tb):=by
           rw [Q]; unfold PI.tellW PI.sayW PI.codeW; simp only; rw [a8,b0,b2]
          have gc:(rowU (PH.codeAt b) 19)[s]?=some (.int .u32 a3):=by rw [Zp _ _ _ a0,a8]
          have gl:(cellsN b)[s]?=some (.int .i64 a4):=by
           have:s<b.length:=by rw [d8.out]; exact a0
           rw [<- b0]; simp [cellsN,List.getD_eq_getElem?_getD,this]
          obtain⟨V,rfl,_⟩:=(row3 H7 0 rfl) (fun h0=>by rw [h0] at gc; cases gc);obtain⟨N,rfl,_⟩:=(row3 H7 1 rfl) (fun h0=>by rw [h0] at gl; cases gl);have d5:=hid Y;have n6:=hid i7;have n7:=hid i6;have f6:Hid (∀g8:Nat,Ent (Row 47 1 (.slice (some V) 19 cvc) 19 (rowU (PH.codeAt b) 19)::Row 3 1 (.slice (some N) 19 vfc) 19 (cellsN b)::Bk g8 83 (sgC (s,v,tb))::Row 83 3 (.slice (some P) nR W) nR (cellsS (R.map PI.sgR))::L) fun w=>w.cell? (V.add s)=some (.int .u32 a3)):=hid fun g8 w0 w h=>by
           obtain⟨a9,e9,f7⟩:=row3 h 0 rfl (fun h0=>by rw [h0] at gc; cases gc);injection e9 with e9
           subst e9;exact f7 _ _ gc
          have f8:Hid (∀g8:Nat,Ent (Row 47 1 (.slice (some V) 19 cvc) 19 (rowU (PH.codeAt b) 19)::Row 3 1 (.slice (some N) 19 vfc) 19 (cellsN b)::Bk g8 83 (sgC (s,v,tb))::Row 83 3 (.slice (some P) nR W) nR (cellsS (R.map PI.sgR))::L) fun w=>w.cell? (N.add s)=some (.int .i64 a4)):=hid fun g8 w0 w h=>by
           obtain⟨a9,e9,f7⟩:=row3 h 1 rfl (fun h0=>by rw [h0] at gl; cases gl);injection e9 with e9
           subst e9;exact f7 _ _ gl
          obtain⟨l4,d2⟩:=exq (l3++PI.tellsW b (R.take j));have q4:l4.length<=l1.length+71+14 * 316:=by rw [<- d2,List.length_append]; omega
          rw [d2] at H7;have n8:=hid d2;have d6:=H7.newBk [.int .i64 0,.int .i64 0,.int .i64 0] 83;have d7:=hid d6;clear Y Q hx d4 b2 d6 H7 a6 O a8 b0 i7 i6 gc gl d2 n5;go_wp2_with (first | (refine Zf rfl 83 _ rfl (P.add (j * 3)) (sgC (s,v,tb)) rfl d5.out Tryd.isAgg83 Tryd.sizeOf83 ?_) | (refine Za rfl 83 _ _ rfl wr.heap.size 83 [.int .i64 0,.int .i64 0,.int .i64 0] (sgC (s,v,tb)) rfl rfl d7.out rfl Tryd.sizeOf83 (Zh _) ?_))
          intro w8 H8;generalize wr.heap.size=g8 at H8 ⊢;replace f6:=hid (f6.out g8);replace f8:=hid (f8.out g8);have HX:=hid (H8.pick 5 [4,1,2,0,3]);clear d7 d5 H8;go_wp2_with fail
          refine Zg (L:=(Row 47 1 (.slice (some V) 19 cvc) 19 (rowU (PH.codeAt b) 19)::Row 3 1 (.slice (some N) 19 vfc) 19 (cellsN b)::Bk g8 83 (sgC (s,v,tb))::Row 83 3 (.slice (some P) nR W) nR (cellsS (R.map PI.sgR))::L)) (fun ix vx=>([(·=.pointer (some ⟨gp,0,none⟩)),(·=.slice (some V) 19 cvc),(·=.pointer (some ⟨g8,0,none⟩)),(·=.int .i64 s),(·=.pointer (some (V.add s))),(·=.int .u32 a3),(·=.slice (some N) 19 vfc),(·=.pointer (some ⟨g8,0,none⟩)),(·=.int .i64 s),(·=.pointer (some (N.add s))),(·=.int .i64 a4),(·=.tuple #[])]:List (Value->Prop)).getD ix (fun _=>True) vx)
           (fun ix vx=>([fun _=>[],fun _=>[],fun _=>[],fun _=>[],fun _=>[],fun _=>[],fun _=>[],fun _=>[],fun _=>[],fun _=>[],fun _=>[],fun _=>[Pen gp (l4++PH.bitsC a4 a3)]]:List (Value->List Pr)).getD ix (fun _=>[]) vx) (fun ix=>([[],[],[],[],[],[],[],[],[],[],[],[Pen gp l4]]:List (List Pr)).getD ix []) 12 197
           [some 178,some 179,some 180,some 181,some 182,some 183,some 184,some 185,some 186,some 187,some 188,some 189]
           [[],[],[],[2],[1,3],[4],[],[],[7],[6,8],[9],[0,5,10]]
           [[],[],[],[2],[1,2,3],[1,2,3,4],[],[],[7],[6,7,8],[6,7,8,9],[0,1,2,3,4,5,6,7,8,9,10]]
           [[],[],[],[],[],[],[],[],[],[],[],[]]
           [[],[],[],[],[],[],[],[],[],[],[],[]]
           [(0,.pointer (some ⟨gp,0,none⟩)),(14,.slice (some N) 19 vfc),(17,.slice (some V) 19 cvc),(19,.pointer (some ⟨g8,0,none⟩))]
           (by kernel_rfl) rfl (by decide) (by rfl) rfl (by decide +kernel) (by decide +kernel) (by rfl) rfl rfl (by decide) (by simp) (by rfl) (HX.out) ?hstep ?hend
          case hstep =>
           refine⟨?_,⟨?_,⟨?_,⟨?_,⟨?_,⟨?_,⟨?_,⟨?_,⟨?_,⟨?_,⟨?_,⟨?_,trivial⟩⟩⟩⟩⟩⟩⟩⟩⟩⟩⟩⟩
           ·intro x wx A n F p J H K a;have e0:A.tmps[0]?.getD undef=.pointer (some ⟨gp,0,none⟩):=F (0,_) (by simp);have M:=hid a;clear a F p J;refine so ?_;go_step;exact M.out _ _ rfl H
           ·intro x wx A n F p J H K a;have s6:A.tmps[17]?.getD undef=.slice (some V) 19 cvc:=F (17,_) (by simp);have M:=hid a;clear a F p J;refine so ?_;go_step;exact M.out _ _ rfl H
           ·intro x wx A n F p J H K a;have n9:A.tmps[19]?.getD undef=.pointer (some ⟨g8,0,none⟩):=F (19,_) (by simp);have M:=hid a;clear a F p J;refine so ?_;go_step;exact M.out _ _ rfl H
           ·intro x wx A n F p J H K a;have q5:=tq p 2;have M:=hid a;clear a F p;have f9:=J (fun w=>w.cell? ⟨g8,0,none⟩=some (.int .i64 s)) (fun w0 w h=>h.cell 2 rfl 0) _ _ H;refine so ?_;go_step;exact M.out _ _ rfl H
           ·intro x wx A n F p J H K a;have q6:=tq p 1;have q7:=tq p 3;have M:=hid a;clear a F p J;refine so ?_;go_step;exact M.out _ _ rfl H
           ·intro x wx A n F p J H K a;have q8:=tq p 4;have M:=hid a;clear a F p;have f9:=J _ f6.out _ _ H;refine so ?_;go_step;exact M.out _ _ rfl H
           ·intro x wx A n F p J H K a;have s7:A.tmps[14]?.getD undef=.slice (some N) 19 vfc:=F (14,_) (by simp);have M:=hid a;clear a F p J;refine so ?_;go_step;exact M.out _ _ rfl H
           ·intro x wx A n F p J H K a;have n9:A.tmps[19]?.getD undef=.pointer (some ⟨g8,0,none⟩):=F (19,_) (by simp);have M:=hid a;clear a F p J;refine so ?_;go_step;exact M.out _ _ rfl H
           ·intro x wx A n F p J H K a;have q9:=tq p 7;have M:=hid a;clear a F p;have f9:=J (fun w=>w.cell? ⟨g8,0,none⟩=some (.int .i64 s)) (fun w0 w h=>h.cell 2 rfl 0) _ _ H;refine so ?_;go_step;exact M.out _ _ rfl H
           ·intro x wx A n F p J H K a;have r0:=tq p 6;have r1:=tq p 8;have M:=hid a;clear a F p J;refine so ?_;go_step;exact M.out _ _ rfl H
           ·intro x wx A n F p J H K a;have r2:=tq p 9;have M:=hid a;clear a F p;have f9:=J _ f8.out _ _ H;refine so ?_;go_step;exact M.out _ _ rfl H
           ·intro x wx A n F p J H K a;have r3:=tq p 0;have r4:=tq p 5;have r5:=tq p 10;replace H:Sp w0 (_::n) wx:=H;have M:=hid a;clear a F p J;refine so ?_;go_wp2_with fail
            refine(Yb gp a3 a4 l4 H n7.out (by omega) (by omega)).mono ?_;rintro _ w9 ⟨rfl,G⟩;exact M.out _ _ rfl G
          case hend =>
           intro x wx A hA p H;replace H:Sp w0 (_::(Row 47 1 (.slice (some V) 19 cvc) 19 (rowU (PH.codeAt b) 19)::Row 3 1 (.slice (some N) 19 vfc) 19 (cellsN b)::Bk g8 83 (sgC (s,v,tb))::Row 83 3 (.slice (some P) nR W) nR (cellsS (R.map PI.sgR))::L)) wx:=H;clear p;simp only [putAll,Act.put,List.setIfInBounds_toArray,List.set_cons_succ,List.set_cons_zero,Nat.reduceAdd] at hA;subst hA;have HZ:=hid H;clear H HX;have c5:wx.cell? ⟨g8,1,none⟩=some (.int .i64 v):=HZ.out.cell 3 rfl 1;have c6:wx.cell? ⟨g8,2,none⟩=some (.int .i64 tb):=HZ.out.cell 3 rfl 2;have a2:=Zj gp v tb _ HZ.out (by omega) (by rw [List.length_append,PH.bitsC_len]; omega);rw [<- n8.out,List.append_assoc,List.append_assoc,<- n6.out] at a2;have i8:=hid a2;clear a2;go_wp2_with fail
           refine i8.out.mono ?_;rintro _ w9 ⟨rfl,G⟩;clear i8 HZ;go_wp2_with fail
           go_roundw
           case rel=>exact⟨j+1,by go_num,by omega,G.pick 5 [1,2,4,0]⟩
           case measure=>first | (simp [intOf]; omega) | simp [intOf]
         ·have k1:¬ (j:Int)<(nR:Int):=by omega
          obtain rfl:nR=j:=by omega
          rw [List.take_of_length_le (by rw [b9.out]; exact Nat.le_refl _)] at H7;go_wp2_with fail
          go_end0;refine⟨rfl,?_⟩;have e:l1++PI.headsW m d=l3++PI.tellsW b R:=by
           unfold PI.headsW PI.headW;rw [j5.out,p8.out,<- n4.out,<- g2.out];simp only [List.append_assoc]
          rw [e];exact H7.pick 4 [3]
     ·have k9:((s0:Int) == (s9:Int))=false:=by rw [beq_eq_false_iff_ne]; omega
      clear g3;go_quiet (fail)
      have f2:=j2.out.drewN nq;generalize w4.drewN nq=w5 at f2 ⊢;have e3:=hid f2;clear f2 j2 d0 d1;go_wp2_with fail
      refine(Zj gp 29 5 l1 (e3.out.pick 3 [2,0,1]) (by omega) (by omega)).mono ?_;rintro _ w6 ⟨rfl,h6⟩;clear e3;go_wp2_with fail
      refine(Zj gp 29 5 _ h6 (by omega) (by rw [List.length_append,PBits.bitsOf_length]; omega)).mono ?_;rintro _ w7 ⟨rfl,h7⟩;clear h6;go_wp2_with fail
      refine(Zj gp 15 4 _ h7 (by omega) (by rw [List.length_append,List.length_append,PBits.bitsOf_length]; omega)).mono ?_;rintro _ w8 ⟨rfl,f3⟩;clear h7;obtain⟨l2,c4⟩:=exq (l1++PBits.bitsOf 29 5++PBits.bitsOf 29 5++PBits.bitsOf 15 4);rw [c4] at f3;have h8:l2.length=l1.length+14:=by rw [<- c4,List.length_append,List.length_append,List.length_append,PBits.bitsOf_length,PBits.bitsOf_length]
      have g2:=hid c4;have e4:Hid (Sp w0 (Pen gp (l2++PI.firstsW b (PI.orderT.take 0))::Row 3 1 (.slice VF 19 vfc) 19 (cellsN b)::Row 83 3 (.slice (some P) nR W) nR (cellsS (R.map PI.sgR))::L) w8):=hid (by
       rw [List.take_zero,show PI.firstsW b []=[] from rfl,List.append_nil]; exact f3)
      clear c4 f3;go_wp2_with fail
      go_loopw [16,160] (fun _ jv wr=>∃j:Nat,jv=.int .i64 j/\j<=19/\Sp w0 (Pen gp (l2++PI.firstsW b (PI.orderT.take j))::Row 3 1 (.slice VF 19 vfc) 19 (cellsN b)::Row 83 3 (.slice (some P) nR W) nR (cellsS (R.map PI.sgR))::L) wr) (fun _ jv _=>19 - (intOf jv).toNat)
      case atStart=>exact⟨0,rfl,Nat.zero_le _,e4.out⟩
      case round =>
       obtain⟨j,rfl,hj,b5⟩:=hrel;clear e4;by_cases a5:j<19
       ·have k1:(j:Int)<19:=by omega
        have i2:=Y4 j a5;obtain⟨od,c7⟩:=exq (PI.orderT.getD j 0);have f4:od<19:=by rw [<- c7]; exact PI.orderT_lt j a5
        rw [c7] at i2;have Q:PI.firstsW b (PI.orderT.take (j+1))=PI.firstsW b (PI.orderT.take j)++PBits.bitsOf (b.getD od 0) 3:=by
         rw [Zq PI.orderT j 0 (by show j<19; exact a5),c7];unfold PI.firstsW;rw [List.flatMap_append];simp
        obtain⟨fv,f5⟩:=exq (b.getD od 0);rw [f5] at Q;obtain⟨N,rfl,n3⟩:=ZI (row_ent 1 rfl _ _ b5) (k:=od) (by rw [d8.out]; exact f4);rw [f5] at n3;have k2:(od:Int)<19:=by omega
        have a7:(PI.firstsW b (PI.orderT.take j)).length<=3 * 19:=by
         have:∀l:List Nat,(PI.firstsW b l).length=3 * l.length:=fun l=>by
          unfold PI.firstsW;induction l with
          | nil=>rfl
          | cons x l ih=>rw [List.flatMap_cons,List.length_append,ih,PBits.bitsOf_length,List.length_cons]; omega
         rw [this,List.length_take]; omega
        have a2:=Zj gp fv 3 _ b5 (by omega) (by rw [List.length_append]; omega);rw [List.append_assoc,<- Q] at a2;have i3:=hid a2;clear a2 Q f5 c7 a7 b5;go_wp2_with fail
        refine i3.out.mono ?_;rintro _ w9 ⟨rfl,b1⟩;clear i3 i2;go_wp2_with fail
        go_roundw
        case rel=>exact⟨j+1,by go_num,by omega,b1⟩
        case measure=>first | (simp [intOf]; omega) | simp [intOf]
       ·have k1:¬ (j:Int)<19:=by omega
        obtain rfl:j=19:=by omega
        have i4:=Z1 VF 19 vfc b (b5.pick 3 [1,2,0]) d8.out.symm (row_ent 0 rfl) (by omega) (fun x hx=>by have:=d9.out x hx; omega) (PI.book_sum j1.out);have i5:=hid i4;have a7:(PI.firstsW b (PI.orderT.take 19)).length=57:=by
         have:∀l:List Nat,(PI.firstsW b l).length=3 * l.length:=fun l=>by
          unfold PI.firstsW;induction l with
          | nil=>rfl
          | cons x l ih=>rw [List.flatMap_cons,List.length_append,ih,PBits.bitsOf_length,List.length_cons]; omega
         rw [this]; rfl
        clear i4 b5;go_wp2_with fail
        refine i5.out.mono ?_;rintro _ w9 ⟨vc,rfl,b1⟩;obtain⟨VC,cvc,rfl,_,_⟩:=Row.form b1 0 rfl;obtain⟨l3,c8⟩:=exq (l2++PI.firstsW b (PI.orderT.take 19));have q2:l3.length=l1.length+71:=by rw [<- c8,List.length_append,a7,h8]
        rw [c8] at b1;have n4:=hid c8;have e5:Hid (Sp w0 (Row 47 1 (.slice VC 19 cvc) 19 (rowU (PH.codeAt b) 19)::Row 3 1 (.slice VF 19 vfc) 19 (cellsN b)::Row 83 3 (.slice (some P) nR W) nR (cellsS (R.map PI.sgR))::Pen gp (l3++PI.tellsW b (R.take 0))::L) w9):=hid (by
         rw [List.take_zero,show PI.tellsW b []=[] from rfl,List.append_nil]; exact b1)
        clear i5 a7 c8 b1;go_wp2_with fail
        go_loopw [174] (fun jv wr=>∃j:Nat,jv=.int .i64 j/\j<=nR/\Sp w0 (Row 47 1 (.slice VC 19 cvc) 19 (rowU (PH.codeAt b) 19)::Row 3 1 (.slice VF 19 vfc) 19 (cellsN b)::Row 83 3 (.slice (some P) nR W) nR (cellsS (R.map PI.sgR))::Pen gp (l3++PI.tellsW b (R.take j))::L) wr) (fun jv _=>nR - (intOf jv).toNat)
        case atStart=>exact⟨0,rfl,Nat.zero_le _,e5.out⟩
        case round =>
         obtain⟨j,rfl,hj,H7⟩:=hrel;clear e5;by_cases a5:j<nR
         ·have k1:(j:Int)<(nR:Int):=by omega
          have O:j<R.length:=by rw [b9.out]; exact a5
          obtain⟨p9,e2,Y⟩:=rdS (row3 H7 2 rfl) (i:=j) (by rw [List.length_map]; exact O);injection e2 with e2
          subst e2;rw [show(R.map PI.sgR).getD j (0,0,0)=PI.sgR (R.getD j (0,0)) by rw [List.getD_eq_getElem?_getD,List.getD_eq_getElem?_getD,List.getElem?_map,List.getElem?_eq_getElem O]; rfl] at Y;have Q:PI.tellsW b (R.take (j+1))=PI.tellsW b (R.take j)++PI.tellW b (R.getD j (0,0)):=by rw [Zq R j (0,0) O]; unfold PI.tellsW; rw [List.flatMap_append]; simp
          have a6:=g5.out (R.getD j (0,0)) (by rw [List.getD_eq_getElem?_getD,List.getElem?_eq_getElem O]; exact List.getElem_mem O);have n5:(PI.tellsW b (R.take j)).length<=14 * j:=by
           have h9:∀l:List (Nat × Nat),(PI.tellsW b l).length<=14 * l.length:=fun l=>by
            unfold PI.tellsW;induction l with
            | nil=>exact Nat.le_refl _
            | cons x l ih =>
             rw [List.flatMap_cons,List.length_append,List.length_cons];have h1:(PI.tellW b x).length<=14:=by
              unfold PI.tellW PI.sayW;rw [List.length_append,PI.codeW_len,PBits.bitsOf_length];have h2:=PI.tellB_le x.1;have h3:b.getD x.1 0<=7:=by
               rw [List.getD_eq_getElem?_getD];rcases Nat.lt_or_ge x.1 b.length with h | h
               ·rw [List.getElem?_eq_getElem h]; exact d9.out _ (List.getElem_mem h)
               ·rw [List.getElem?_eq_none h]; exact Nat.zero_le _
              omega
             omega
           refine Nat.le_trans (h9 _) ?_;rw [List.length_take]; omega
          obtain⟨⟨s,v⟩,hx⟩:∃x,R.getD j (0,0)=x:=⟨_,rfl⟩;rw [hx] at Y Q a6;obtain⟨tb,b2⟩:=exq (PI.tellB s);have q3:tb<=7:=by rw [<- b2]; exact PI.tellB_le s
          have d4:PI.sgR (s,v)=(s,v,tb):=by rw [<- b2]; rfl
          rw [d4] at Y;have a0:s<19:=a6.1;have k2:(s:Int)<19:=by omega
          obtain⟨a3,a8⟩:=exq (PH.codeAt b s);obtain⟨a4,b0⟩:=exq (b.getD s 0);have i6:a3<4294967296:=by rw [<- a8]; exact ZR b (fun x hx=>by have:=d9.out x hx; omega) (PI.book_sum j1.out) s
          have s5:a4<=7:=by
           rw [<- b0,List.getD_eq_getElem?_getD,List.getElem?_eq_getElem (by rw [d8.out]; exact a0)];exact d9.out _ (List.getElem_mem _)
          have i7:PI.tellsW b (R.take (j+1))=PI.tellsW b (R.take j)++(PH.bitsC a4 a3++PBits.bitsOf v tb):=by
           rw [Q]; unfold PI.tellW PI.sayW PI.codeW; simp only; rw [a8,b0,b2]
          have gc:(rowU (PH.codeAt b) 19)[s]?=some (.int .u32 a3):=by rw [Zp _ _ _ a0,a8]
          have gl:(cellsN b)[s]?=some (.int .i64 a4):=by
           have:s<b.length:=by rw [d8.out]; exact a0
           rw [<- b0]; simp [cellsN,List.getD_eq_getElem?_getD,this]
          obtain⟨V,rfl,_⟩:=(row3 H7 0 rfl) (fun h0=>by rw [h0] at gc; cases gc);obtain⟨N,rfl,_⟩:=(row3 H7 1 rfl) (fun h0=>by rw [h0] at gl; cases gl);have d5:=hid Y;have n6:=hid i7;have n7:=hid i6;have f6:Hid (∀g8:Nat,Ent (Row 47 1 (.slice (some V) 19 cvc) 19 (rowU (PH.codeAt b) 19)::Row 3 1 (.slice (some N) 19 vfc) 19 (cellsN b)::Bk g8 83 (sgC (s,v,tb))::Row 83 3 (.slice (some P) nR W) nR (cellsS (R.map PI.sgR))::L) fun w=>w.cell? (V.add s)=some (.int .u32 a3)):=hid fun g8 w0 w h=>by
           obtain⟨a9,e9,f7⟩:=row3 h 0 rfl (fun h0=>by rw [h0] at gc; cases gc);injection e9 with e9
           subst e9;exact f7 _ _ gc
          have f8:Hid (∀g8:Nat,Ent (Row 47 1 (.slice (some V) 19 cvc) 19 (rowU (PH.codeAt b) 19)::Row 3 1 (.slice (some N) 19 vfc) 19 (cellsN b)::Bk g8 83 (sgC (s,v,tb))::Row 83 3 (.slice (some P) nR W) nR (cellsS (R.map PI.sgR))::L) fun w=>w.cell? (N.add s)=some (.int .i64 a4)):=hid fun g8 w0 w h=>by
           obtain⟨a9,e9,f7⟩:=row3 h 1 rfl (fun h0=>by rw [h0] at gl; cases gl);injection e9 with e9
           subst e9;exact f7 _ _ gl
          obtain⟨l4,d2⟩:=exq (l3++PI.tellsW b (R.take j));have q4:l4.length<=l1.length+71+14 * 316:=by rw [<- d2,List.length_append]; omega
          rw [d2] at H7;have n8:=hid d2;have d6:=H7.newBk [.int .i64 0,.int .i64 0,.int .i64 0] 83;have d7:=hid d6;clear Y Q hx d4 b2 d6 H7 a6 O a8 b0 i7 i6 gc gl d2 n5;go_wp2_with (first | (refine Zf rfl 83 _ rfl (P.add (j * 3)) (sgC (s,v,tb)) rfl d5.out Tryd.isAgg83 Tryd.sizeOf83 ?_) | (refine Za rfl 83 _ _ rfl wr.heap.size 83 [.int .i64 0,.int .i64 0,.int .i64 0] (sgC (s,v,tb)) rfl rfl d7.out rfl Tryd.sizeOf83 (Zh _) ?_))
          intro w8 H8;generalize wr.heap.size=g8 at H8 ⊢;replace f6:=hid (f6.out g8);replace f8:=hid (f8.out g8);have HX:=hid (H8.pick 5 [4,1,2,0,3]);clear d7 d5 H8;go_wp2_with fail
          refine Zg (L:=(Row 47 1 (.slice (some V) 19 cvc) 19 (rowU (PH.codeAt b) 19)::Row 3 1 (.slice (some N) 19 vfc) 19 (cellsN b)::Bk g8 83 (sgC (s,v,tb))::Row 83 3 (.slice (some P) nR W) nR (cellsS (R.map PI.sgR))::L)) (fun ix vx=>([(·=.pointer (some ⟨gp,0,none⟩)),(·=.slice (some V) 19 cvc),(·=.pointer (some ⟨g8,0,none⟩)),(·=.int .i64 s),(·=.pointer (some (V.add s))),(·=.int .u32 a3),(·=.slice (some N) 19 vfc),(·=.pointer (some ⟨g8,0,none⟩)),(·=.int .i64 s),(·=.pointer (some (N.add s))),(·=.int .i64 a4),(·=.tuple #[])]:List (Value->Prop)).getD ix (fun _=>True) vx)
           (fun ix vx=>([fun _=>[],fun _=>[],fun _=>[],fun _=>[],fun _=>[],fun _=>[],fun _=>[],fun _=>[],fun _=>[],fun _=>[],fun _=>[],fun _=>[Pen gp (l4++PH.bitsC a4 a3)]]:List (Value->List Pr)).getD ix (fun _=>[]) vx) (fun ix=>([[],[],[],[],[],[],[],[],[],[],[],[Pen gp l4]]:List (List Pr)).getD ix []) 12 197
           [some 178,some 179,some 180,some 181,some 182,some 183,some 184,some 185,some 186,some 187,some 188,some 189]
           [[],[],[],[2],[1,3],[4],[],[],[7],[6,8],[9],[0,5,10]]
           [[],[],[],[2],[1,2,3],[1,2,3,4],[],[],[7],[6,7,8],[6,7,8,9],[0,1,2,3,4,5,6,7,8,9,10]]
           [[],[],[],[],[],[],[],[],[],[],[],[]]
           [[],[],[],[],[],[],[],[],[],[],[],[]]
           [(0,.pointer (some ⟨gp,0,none⟩)),(14,.slice (some N) 19 vfc),(17,.slice (some V) 19 cvc),(19,.pointer (some ⟨g8,0,none⟩))]
           (by kernel_rfl) rfl (by decide) (by rfl) rfl (by decide +kernel) (by decide +kernel) (by rfl) rfl rfl (by decide) (by simp) (by rfl) (HX.out) ?hstep ?hend
          case hstep =>
           refine⟨?_,⟨?_,⟨?_,⟨?_,⟨?_,⟨?_,⟨?_,⟨?_,⟨?_,⟨?_,⟨?_,⟨?_,trivial⟩⟩⟩⟩⟩⟩⟩⟩⟩⟩⟩⟩
           ·intro x wx A n F p J H K a;have e0:A.tmps[0]?.getD undef=.pointer (some ⟨gp,0,none⟩):=F (0,_) (by simp);have M:=hid a;clear a F p J;refine so ?_;go_step;exact M.out _ _ rfl H
           ·intro x wx A n F p J H K a;have s6:A.tmps[17]?.getD undef=.slice (some V) 19 cvc:=F (17,_) (by simp);have M:=hid a;clear a F p J;refine so ?_;go_step;exact M.out _ _ rfl H
           ·intro x wx A n F p J H K a;have n9:A.tmps[19]?.getD undef=.pointer (some ⟨g8,0,none⟩):=F (19,_) (by simp);have M:=hid a;clear a F p J;refine so ?_;go_step;exact M.out _ _ rfl H
           ·intro x wx A n F p J H K a;have q5:=tq p 2;have M:=hid a;clear a F p;have f9:=J (fun w=>w.cell? ⟨g8,0,none⟩=some (.int .i64 s)) (fun w0 w h=>h.cell 2 rfl 0) _ _ H;refine so ?_;go_step;exact M.out _ _ rfl H
           ·intro x wx A n F p J H K a;have q6:=tq p 1;have q7:=tq p 3;have M:=hid a;clear a F p J;refine so ?_;go_step;exact M.out _ _ rfl H
           ·intro x wx A n F p J H K a;have q8:=tq p 4;have M:=hid a;clear a F p;have f9:=J _ f6.out _ _ H;refine so ?_;go_step;exact M.out _ _ rfl H
           ·intro x wx A n F p J H K a;have s7:A.tmps[14]?.getD undef=.slice (some N) 19 vfc:=F (14,_) (by simp);have M:=hid a;clear a F p J;refine so ?_;go_step;exact M.out _ _ rfl H
           ·intro x wx A n F p J H K a;have n9:A.tmps[19]?.getD undef=.pointer (some ⟨g8,0,none⟩):=F (19,_) (by simp);have M:=hid a;clear a F p J;refine so ?_;go_step;exact M.out _ _ rfl H
           ·intro x wx A n F p J H K a;have q9:=tq p 7;have M:=hid a;clear a F p;have f9:=J (fun w=>w.cell? ⟨g8,0,none⟩=some (.int .i64 s)) (fun w0 w h=>h.cell 2 rfl 0) _ _ H;refine so ?_;go_step;exact M.out _ _ rfl H
           ·intro x wx A n F p J H K a;have r0:=tq p 6;have r1:=tq p 8;have M:=hid a;clear a F p J;refine so ?_;go_step;exact M.out _ _ rfl H
           ·intro x wx A n F p J H K a;have r2:=tq p 9;have M:=hid a;clear a F p;have f9:=J _ f8.out _ _ H;refine so ?_;go_step;exact M.out _ _ rfl H
           ·intro x wx A n F p J H K a;have r3:=tq p 0;have r4:=tq p 5;have r5:=tq p 10;replace H:Sp w0 (_::n) wx:=H;have M:=hid a;clear a F p J;refine so ?_;go_wp2_with fail
            refine(Yb gp a3 a4 l4 H n7.out (by omega) (by omega)).mono ?_;rintro _ w9 ⟨rfl,G⟩;exact M.out _ _ rfl G
          case hend =>
           intro x wx A hA p H;replace H:Sp w0 (_::(Row 47 1 (.slice (some V) 19 cvc) 19 (rowU (PH.codeAt b) 19)::Row 3 1 (.slice (some N) 19 vfc) 19 (cellsN b)::Bk g8 83 (sgC (s,v,tb))::Row 83 3 (.slice (some P) nR W) nR (cellsS (R.map PI.sgR))::L)) wx:=H;clear p;simp only [putAll,Act.put,List.setIfInBounds_toArray,List.set_cons_succ,List.set_cons_zero,Nat.reduceAdd] at hA;subst hA;have HZ:=hid H;clear H HX;have c5:wx.cell? ⟨g8,1,none⟩=some (.int .i64 v):=HZ.out.cell 3 rfl 1;have c6:wx.cell? ⟨g8,2,none⟩=some (.int .i64 tb):=HZ.out.cell 3 rfl 2;have a2:=Zj gp v tb _ HZ.out (by omega) (by rw [List.length_append,PH.bitsC_len]; omega);rw [<- n8.out,List.append_assoc,List.append_assoc,<- n6.out] at a2;have i8:=hid a2;clear a2;go_wp2_with fail
           refine i8.out.mono ?_;rintro _ w9 ⟨rfl,G⟩;clear i8 HZ;go_wp2_with fail
           go_roundw
           case rel=>exact⟨j+1,by go_num,by omega,G.pick 5 [1,2,4,0]⟩
           case measure=>first | (simp [intOf]; omega) | simp [intOf]
         ·have k1:¬ (j:Int)<(nR:Int):=by omega
          obtain rfl:nR=j:=by omega
          rw [List.take_of_length_le (by rw [b9.out]; exact Nat.le_refl _)] at H7;go_wp2_with fail
          go_end0;refine⟨rfl,?_⟩;have e:l1++PI.headsW m d=l3++PI.tellsW b R:=by
           unfold PI.headsW PI.headW;rw [j5.out,p8.out,<- n4.out,<- g2.out];simp only [List.append_assoc]
          rw [e];exact H7.pick 4 [3]
end Go.Proofs.YteajimobgkempaaDoor

