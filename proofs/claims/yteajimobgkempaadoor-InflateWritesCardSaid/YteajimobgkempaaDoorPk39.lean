/- A pack. -/
import Derived.Test.YteajimobgkempaaDoorPk27
import Derived.Test.YteajimobgkempaaDoorPk38
set_option linter.all false
set_option maxRecDepth 100000
set_option maxHeartbeats 8000000
namespace Go.Proofs.YteajimobgkempaaDoor
variable {w0 w:World} {L:List Pr}
open Go.RowKit
theorem infoS:(Tryd.prog.info? 83).map (fun i=>(i.zero,i.size,i.bytes))=some (some (.agg #[.int .i64 0,.int .i64 0,.int .i64 0]),3,24):=by kernel_rfl
def litS (l:List UInt8):List PI.Sg:=l.map fun c=>(c.toNat,0,0)
theorem Wu (l:List UInt8):(PI.lits l).flatMap PI.sgsT=litS l:=by
 induction l with
 | nil=>rfl
 | cons c l ih =>
  show PI.sgsT (.lit c)++(PI.lits l).flatMap PI.sgsT=_;rw [ih]; rfl
theorem Zb (a b:List PI.Sg):cellsS (a++b)=cellsS a++cellsS b:=List.flatMap_append ..
theorem Zq {α:Type} (l:List α) (i:Nat) (z:α) (h:i<l.length):l.take (i+1)=l.take i++[l.getD i z]:=by
 rw [List.take_succ_eq_append_getElem h,List.getD_eq_getElem?_getD,List.getElem?_eq_getElem h]; rfl
theorem PI.cps_none (l:List (Nat × Nat)):PI.cps l []=[]:=by cases l <;> rfl
theorem PI.cps_cons {c:Nat × Nat} {r:List (Nat × Nat)} {out:List UInt8} (h:0<out.length):PI.cps (c::r) out=.cpy (3+c.1 % 256) (1+c.2 % min out.length 32768)::PI.cps r (PI.copy (1+c.2 % min out.length 32768) (3+c.1 % 256) out):=by
 rw [PI.cps,if_neg (by omega)]
theorem rdPr {w:World} {A:Option Addr} {l:List (Nat × Nat)} (h:Rd w A (cellsPr l)) {i:Nat} (hi:i<l.length):∃ad,A=some ad/\w.cell? (ad.add (i * 2))=some (.int .u16 ((l.getD i (0,0)).1:Int))/\w.cell? ⟨(ad.add (i * 2)).block,(ad.add (i * 2)).off+1,none⟩=some (.int .u16 ((l.getD i (0,0)).2:Int)):=by
 obtain⟨ad,e,b⟩:=h (fun h0=>by
  have:=congrArg List.length h0;unfold cellsPr at this;rw [ZC _ 2 (fun _=>rfl)] at this;simp at this;omega)
 have a:∀j,j<2->(cellsPr l)[i * 2+j]?=([Value.int .u16 ((l.getD i (0,0)).1:Int),.int .u16 ((l.getD i (0,0)).2:Int)]:List Value)[j]?:=fun j hj=>by
  obtain⟨p,d,f⟩:=ZQ (fun c:Nat × Nat=>[Value.int .u16 c.1,.int .u16 c.2]) 2 (fun _=>rfl) l i j hj hi;have g:p=l.getD i (0,0):=by rw [List.getD_eq_getElem?_getD,d]; rfl
  rw [<- g]; exact f
 refine⟨ad,e,b _ _ (a 0 (by omega)),?_⟩;rw [Yw ad (i * 2) 1 (by omega)];exact b _ _ (a 1 (by omega))
theorem Wv (x:PartV) (out:List UInt8) (vo:Value) (H:Sp w0 (Row 5 1 vo out.length (cells8 out)::L) w) (hx:Ent L fun w=>x.Ok w) (ho:out.length<=1000000) :
  Calls Tryd.prog 15 #[.agg x.cells.toArray,vo] w fun e w'=>∃v1 v2,e=.returned (.tuple #[v1,v2])/\Sp w0 (Row 83 3 v1 (PI.sgs (PI.toks x.p out)).length (cellsS (PI.sgs (PI.toks x.p out)))::Row 5 1 v2 (PI.toksO out (PI.toks x.p out)).length (cells8 (PI.toksO out (PI.toks x.p out)))::L) w':=by
 obtain⟨i0,hi,e8,e9,f0⟩:=info_parts info8;obtain⟨i1,hj,V,W,X⟩:=info_parts infoS;obtain⟨kb,i9,⟨C,cc,h3,h4,j0,k7⟩,f1⟩:=hx _ _ H.tail;obtain⟨B,bc,O,h5,j1,k8⟩:=i9
 obtain⟨⟨P,d,m⟩,bv,cv⟩:=x;simp only at kb O h5 j1 h3 h4 j0 f1;subst O h3;obtain⟨E,f2⟩:=exq d.length;obtain⟨cn,f3⟩:=exq m.length;obtain⟨FQ9,f4⟩:=exq (PI.sgs (PI.toks ⟨P,d,m⟩ out));obtain⟨FO,f5⟩:=exq (PI.toksO out (PI.toks ⟨P,d,m⟩ out));show Calls _ _ _ _ fun e w'=>∃v1 v2,e=.returned (.tuple #[v1,v2])/\Sp w0 (Row _ 3 v1 (PI.sgs (PI.toks ⟨P,d,m⟩ out)).length (cellsS (PI.sgs (PI.toks ⟨P,d,m⟩ out)))::Row _ 1 v2 (PI.toksO out (PI.toks ⟨P,d,m⟩ out)).length (cells8 (PI.toksO out (PI.toks ⟨P,d,m⟩ out)))::L) w';rw [f4,f5];have h1:litS (d.take 80)++(PI.cps (m.take 6) (out++d.take 80)).flatMap PI.sgsT++[(256,0,0)]=FQ9:=by
  rw [<- f4]; unfold PI.sgs PI.toks;rw [List.flatMap_append,Wu]
 have h2:PI.toksO (out++d.take 80) (PI.cps (m.take 6) (out++d.take 80))=FO:=by
  rw [<- f5]; unfold PI.toks;rw [PI.toksO_app,PI.lits_out]
 have e5:=hid h1;have e6:=hid h2;have Y:=hid f2;have e7:=hid f3;have i2:=hid f1;have HX:Hid (Ent L fun w=>Rd w B (cells8 d)/\Rd w C (cellsPr m)):=hid fun w0 w h=>by
  obtain⟨_,⟨B2,c2,D,r2,_⟩,⟨C3,c3,e3,r3,_⟩,_⟩:=hx w0 w h;simp only at D e3 r2 r3;injection D with D _ _
  injection e3 with e3 _ _
  subst D e3;exact⟨r2,r3⟩
 show Calls _ _ #[.agg #[.int .u8 P,.slice B d.length bc,.slice C m.length cc],vo] _ _;rw [f2,f3];have F:=(H.newBk [.int .u8 P,.slice B E bc,.slice C cn cc] 41).rowNil 83 3;have H2:=F.pick 3 [1,0,2];clear hx h1 h2 f1 h5 h4 F H f4 f5 f2 f3;go_enter Tryd.func15,Tryd.ntmps15
 go_wp2_with fail
 generalize w.heap.size=gb at H2 ⊢;generalize World.alloc _ _=w1 at H2 ⊢;go_loopw [1,6,7] (fun ov rv iv wr=>∃i:Nat,iv=.int .i64 i/\i<=E/\i<=80/\Sp w0 (Bk gb 41 [.int .u8 P,.slice B E bc,.slice C cn cc]::Row 83 3 rv i (cellsS (litS (d.take i)))::Row 5 1 ov (out.length+i) (cells8 (out++d.take i))::L) wr) (fun _ _ iv _=>80 - (intOf iv).toNat)
 case atStart=>exact⟨0,rfl,Nat.zero_le _,Nat.zero_le _,by rw [List.take_zero,List.append_nil]; exact H2⟩
 case round =>
  obtain⟨i,rfl,k9,k5,U⟩:=hrel;clear H2;have c1:wr.cell? ⟨gb,1,none⟩=some (.slice B E bc):=U.cell 0 rfl 1;by_cases f6:i<E/\i<80
  ·obtain⟨f7,k6⟩:=f6;have k1:(i:Int)<(E:Int):=by omega
   have k2:(i:Int)<80:=by omega
   have p:i<d.length:=by rw [Y.out]; exact f7
   obtain⟨VR,Q,rfl,_,_⟩:=Row.form U 1 rfl;obtain⟨VO,S,rfl,_,_⟩:=Row.form U 2 rfl;obtain⟨ab,rfl,I⟩:=(HX.out _ _ (U.pick 3 [])).1 (fun h0=>by
    have:=congrArg List.length h0;simp [cells8] at this;rw [this] at p; simp at p)
   have I:=I i _ (Zw d i p);obtain⟨cu,f8⟩:∃cu:UInt8,d.getD i 0=cu:=⟨_,rfl⟩;rw [f8] at I;have i3:d.take (i+1)=d.take i++[cu]:=by rw [Zq d i 0 p,f8]
   have T:=hid i3;have f9:=cu.toNat_lt;obtain⟨a8,b6⟩:=exq cu.toNat;rw [b6] at I f9;have g0:=hid b6;have v:=U.newBk (sgC ((a8,0,0):PI.Sg)) 83;have g:=hid (Rd.of_blk (v.blk 0 rfl));have l:=hid (v.pick 4 [2,0,1,3]);clear f8 i3 b6 p v;go_wp2_with (at_builtin; refine wpList_append_sp rfl _ _ 48 rfl 83 i1 (.agg #[.int .i64 0,.int .i64 0,.int .i64 0]) 3 24 Tryd.underlying48 hj V W X rfl (by decide) _ i (cellsS (litS (d.take i))) rfl l.out (some ⟨wr.heap.size,0,none⟩) 1 1 (sgC ((a8,0,0):PI.Sg)) rfl rfl g.out (Zh _) (by unfold maxLen; omega) (by omega) ?_)
   intro v5 w5 G _;clear l g U;have c1:w5.cell? ⟨gb,1,none⟩=some (.slice (some ab) E bc):=G.cell 2 rfl 1;have I:w5.cell? (ab.add i)=some (.int .u8 a8):=by
    obtain⟨l0,D,hc⟩:=(HX.out _ _ (G.pick 4 [])).1 (fun h0=>by
     have:=congrArg List.length h0;simp [cells8] at this;have h9:=Y.out;rw [this] at h9; simp at h9; omega)
    injection D with D
    subst D;have p:i<d.length:=by rw [Y.out]; exact f7
    have h8:=hc i _ (Zw d i p);have h7:=T.out;rw [Zq d i 0 p] at h7;have h6:d.getD i 0=cu:=by simpa using h7
    rw [h6,g0.out] at h8;exact h8
   have z:=G.newBk [.int .u8 a8] 5;have i4:=hid (Rd.of_blk (z.blk 0 rfl));have a5:=hid (z.pick 5 [4,0,1,2,3]);clear z;go_wp2_with (at_builtin; refine wpList_append_sp rfl _ _ 25 rfl 5 i0 (.int .u8 0) 1 1 Tryd.underlying25 hi e8 e9 f0 rfl (by decide) _ (out.length+i) (cells8 (out++d.take i)) rfl a5.out (some ⟨w5.heap.size,0,none⟩) 1 1 [.int .u8 a8] rfl rfl i4.out (by intro u hu; rw [List.mem_singleton.1 hu]; rfl) (by unfold maxLen; omega) (by omega) ?_)
   intro v7 w7 H7 _;clear a5 i4 G;have j2:=hid (H7.pick 5 [4,2,0]);clear H7;go_wp2_with fail
   go_roundw
   case rel =>
    refine⟨i+1,by go_num,by omega,by omega,?_⟩;have h:=j2.out;rw [T.out];have e1:cellsS (litS (d.take i++[cu]))=cellsS (litS (d.take i))++sgC ((a8,0,0):PI.Sg):=by
     unfold litS;rw [List.map_append,Zb];congr 1;rw [<- g0.out]; simp [cellsS]
    have D:cells8 (out++(d.take i++[cu]))=cells8 (out++d.take i)++[.int .u8 a8]:=by
     rw [<- List.append_assoc,<- g0.out]; simp [cells8]
    rw [e1,D];exact h
   case measure=>first | (simp [intOf]; omega) | simp [intOf]
  ·by_cases f7:i<E
   ·have k1:(i:Int)<(E:Int):=by omega
    have k2:¬ (i:Int)<80:=by omega
    have b7:i=min E 80:=by omega
    clear f6;have b9:Hid (d.take i=d.take 80):=hid (by
     rw [List.take_eq_take_iff,Y.out]; omega)
    have l1:(litS (d.take 80)).length=i:=by
     unfold litS; rw [List.length_map,List.length_take,Y.out]; omega
    have l2:(out++d.take 80).length=out.length+i:=by
     rw [List.length_append,List.length_take,Y.out]; omega
    rw [b9.out,<- l2] at U;rw [<- l1] at U;have c0:=hid U;clear l1 l2 U;have a9:(out++d.take 80).length<=out.length+80:=by rw [List.length_append,List.length_take]; omega
    have c4:(litS (d.take 80)).length<=80:=by unfold litS; rw [List.length_map,List.length_take]; omega
    clear b7;go_wp2_with fail
    clear c1;go_loopw [1,6,8] (fun ov rv iv wr=>∃(i:Nat) (R:List PI.Sg) (o:List UInt8),iv=.int .i64 i/\i<=6/\i<=cn/\R.length<=80+2 * i/\o.length<=out.length+80+258 * i/\R++(PI.cps ((m.take 6).drop i) o).flatMap PI.sgsT++[(256,0,0)]=FQ9/\PI.toksO o (PI.cps ((m.take 6).drop i) o)=FO/\Sp w0 (Bk gb 41 [.int .u8 P,.slice B E bc,.slice C cn cc]::Row 83 3 rv R.length (cellsS R)::Row 5 1 ov o.length (cells8 o)::L) wr) (fun _ _ iv _=>6 - (intOf iv).toNat)
    case atStart=>exact⟨0,_,_,rfl,Nat.zero_le _,Nat.zero_le _,c4,a9,e5.out,e6.out,c0.out⟩
    case round =>
     obtain⟨i,R,o,rfl,j3,j4,c4,a9,J,K,F⟩:=hrel;clear c0 e5 e6 b9;have Z:=hid J;have a0:=hid K;clear J K;have c2:wr.cell? ⟨gb,2,none⟩=some (.slice C cn cc):=F.cell 0 rfl 2;obtain⟨VR,Q,rfl,_,_⟩:=Row.form F 1 rfl;obtain⟨VO,S,rfl,_,_⟩:=Row.form F 2 rfl;obtain⟨ol,A⟩:=exq o.length;have r:=hid A;rw [A] at F a9 ⊢;by_cases hc:i<cn
     ·have k1:(i:Int)<(cn:Int):=by omega
      by_cases h6:i<6
      ·have k2:(i:Int)<6:=by omega
       by_cases h0:0<ol
       ·have k3:(ol:Int) > 0:=by omega
        clear A;have p:i<m.length:=by rw [e7.out]; exact hc
        obtain⟨ac,rfl,c5,c6⟩:=rdPr (HX.out _ _ (F.pick 3 [])).2 p;obtain⟨⟨x1,x2⟩,a1⟩:∃c,m.getD i (0,0)=c:=⟨_,rfl⟩;have a2:=i2.out (x1,x2) (by rw [<- a1,List.getD_eq_getElem?_getD,List.getElem?_eq_getElem p]; exact List.getElem_mem p);rw [a1] at c5 c6;simp only at c5 c6 a2;have c7:(m.take 6).drop i=(x1,x2)::(m.take 6).drop (i+1):=by
         have g1:i<(m.take 6).length:=by rw [List.length_take]; omega
         rw [PI.getD_cons_drop (0,0) g1];congr 1;rw [<- a1,List.getD_eq_getElem?_getD,List.getD_eq_getElem?_getD,List.getElem?_take_of_lt h6]
        obtain⟨n,hn⟩:=exq (3+x1 % 256);obtain⟨a,y⟩:=exq (1+x2 % min ol 32768);have f:PI.cps ((m.take 6).drop i) o=.cpy n a::PI.cps ((m.take 6).drop (i+1)) (PI.copy a n o):=by
         rw [c7,PI.cps_cons (by rw [r.out]; exact h0),r.out,hn,y]
        obtain⟨OT,a3⟩:=exq (PI.copy a n o);have c8:3<=n/\n<=258:=by omega
        have g2:x2 % min ol 32768<min ol 32768:=Nat.mod_lt _ (by omega);have a4:1<=a/\a<=32768/\a<=ol:=by omega
        rw [a3] at f;have g3:Hid ((R++PI.sgsT (.cpy n a))++(PI.cps ((m.take 6).drop (i+1)) OT).flatMap PI.sgsT++[(256,0,0)]=FQ9):=by
         rw [<- Z.out,f,List.flatMap_cons,<- List.append_assoc R]; exact hid rfl
        have g4:Hid (PI.toksO OT (PI.cps ((m.take 6).drop (i+1)) OT)=FO):=by
         rw [<- a0.out,f,<- a3]; exact hid rfl
        have c9:=hid a3;obtain⟨n0,g5⟩:=exq (x1 % 256);obtain⟨mm,a6⟩:=exq (min ol 32768);obtain⟨r0,b0⟩:=exq (x2 % mm);have y1:(x1:Int) % 256=(n0:Int):=by omega
        have y2:3+(n0:Int)=(n:Int):=by omega
        have y3:min (ol:Int) 32768=(mm:Int):=by omega
        have y4:(x2:Int) % (mm:Int)=(r0:Int):=by rw [<- b0]; simp
        have y5:1+(r0:Int)=(a:Int):=by rw [a6,b0] at y; omega
        have y6:¬ (mm:Int)=0:=by omega
        have i5:0<mm:=by omega
        have i6:=a2.1;have i7:=a2.2;have j5:=hid c2;obtain⟨⟨s1,v1,b1⟩,b3⟩:∃x:PI.Sg,(257+(PI.longS n).1,(PI.longS n).2.2,(PI.longS n).2.1)=x:=⟨_,rfl⟩;obtain⟨⟨s2,v2,b2⟩,b4⟩:∃x:PI.Sg,((PI.farS a).1,(PI.farS a).2.2,(PI.farS a).2.1)=x:=⟨_,rfl⟩;have d0:Hid (∀w9:World,Sp w0 (Bk gb 41 [.int .u8 P,.slice B E bc,.slice (some ac) cn cc]::Row 83 3 (.slice VR R.length Q) R.length (cellsS R)::Row 5 1 (.slice VO ol S) ol (cells8 o)::L) w9->Calls Tryd.prog 30 #[.int .i64 n] w9 fun e w'=>e=.returned (.agg #[.int .i64 s1,.int .i64 v1,.int .i64 b1])/\Sp w0 (Bk gb 41 [.int .u8 P,.slice B E bc,.slice (some ac) cn cc]::Row 83 3 (.slice VR R.length Q) R.length (cellsS R)::Row 5 1 (.slice VO ol S) ol (cells8 o)::L) w'):=hid fun w9 Hq=>by
         have h:=Xw n Hq c8.1 c8.2;rw [b3] at h;exact h
        have d1:Hid (∀w9:World,Sp w0 (Bk gb 41 [.int .u8 P,.slice B E bc,.slice (some ac) cn cc]::Row 83 3 (.slice VR R.length Q) R.length (cellsS R)::Row 5 1 (.slice VO ol S) ol (cells8 o)::L) w9->Calls Tryd.prog 31 #[.int .i64 a] w9 fun e w'=>e=.returned (.agg #[.int .i64 s2,.int .i64 v2,.int .i64 b2])/\Sp w0 (Bk gb 41 [.int .u8 P,.slice B E bc,.slice (some ac) cn cc]::Row 83 3 (.slice VR R.length Q) R.length (cellsS R)::Row 5 1 (.slice VO ol S) ol (cells8 o)::L) w'):=hid fun w9 Hq=>by
         have h:=Wp a Hq a4.1 a4.2.1;rw [b4] at h;exact h
        have T:Hid (PI.sgsT (.cpy n a)=[(s1,v1,b1),(s2,v2,b2)]):=hid (by
         show [((257+(PI.longS n).1,(PI.longS n).2.2,(PI.longS n).2.1):PI.Sg),((PI.farS a).1,(PI.farS a).2.2,(PI.farS a).2.1)]=_;rw [b3,b4])
        clear b3 b4;have j6:=a4.2.2;have d2:=hid F;clear f a3 hn y c7 a1 p b0 a6 g2 g5 a2 F;have i8:=a4.1;go_wp2_with fail
        refine(d0.out _ d2.out).mono ?_;rintro _ w3 ⟨rfl,U⟩;clear d2 d0 c2;go_wp2_with fail
        refine(d1.out _ U).mono ?_;rintro _ w4 ⟨rfl,v⟩;have G:=v.newBk (sgC ((s1,v1,b1):PI.Sg)++sgC ((s2,v2,b2):PI.Sg)) 83;have d3:=hid (Rd.of_blk (G.blk 0 rfl));have d4:=hid (G.pick 4 [2,0,1,3]);clear d1 U G v;go_wp2_with (at_builtin; refine wpList_append_sp rfl _ _ 48 rfl 83 i1 (.agg #[.int .i64 0,.int .i64 0,.int .i64 0]) 3 24 Tryd.underlying48 hj V W X rfl (by decide) _ R.length (cellsS R) rfl d4.out (some ⟨w4.heap.size,0,none⟩) 2 2 (sgC ((s1,v1,b1):PI.Sg)++sgC ((s2,v2,b2):PI.Sg)) rfl rfl d3.out (by intro u hu; rcases List.mem_append.1 hu with h | h <;> exact Zh _ _ h) (by unfold maxLen; omega) (by omega) ?_)
        intro v5 w5 z _;have a5:=hid (z.pick 4 [3,0,2]);clear d3 d4 z;go_wp2_with fail
        go_loopw [1,85] (fun ov jv wr=>∃(j:Nat) (o' : List UInt8),jv=.int .i64 j/\j<=n/\o'.length=ol+j/\PI.copy a (n - j) o'=OT/\Sp w0 (Row 5 1 ov o'.length (cells8 o')::Row 83 3 v5 (R.length+2) (cellsS R++(sgC ((s1,v1,b1):PI.Sg)++sgC ((s2,v2,b2):PI.Sg)))::Bk gb 41 [.int .u8 P,.slice B E bc,.slice (some ac) cn cc]::L) wr) (fun _ jv _=>n - (intOf jv).toNat)
        case atStart=>exact⟨0,o,rfl,Nat.zero_le _,r.out,c9.out,by rw [r.out]; exact a5.out⟩
        case round =>
         obtain⟨j,o',rfl,j7,s,f,H7⟩:=hrel;clear a5 c9;by_cases hj:j<n
         ·have k4:(j:Int)<(n:Int):=by omega
          obtain⟨VQ,vq,rfl,_,j8⟩:=Row.form H7 0 rfl;obtain⟨q,hq⟩:=exq (o'.length);rw [hq] at H7 s ⊢;obtain⟨ad,rfl⟩:=slice_of H7 0 rfl (by omega) (by simp [cells8,hq]);obtain⟨jx,d5⟩:=exq (q - a);have y7:(q:Int) - (a:Int)=(jx:Int):=by omega
          have y8:(jx:Int)<(q:Int):=by omega
          obtain⟨bv,O⟩:∃bv:UInt8,o'.getD jx 0=bv:=⟨_,rfl⟩;have a7:PI.copy a (n - (j+1)) (o'++[bv])=OT:=by
           rw [<- f,show n - j=(n - (j+1))+1 by omega,PI.copy,hq,d5,O]
          have d6:wr.cell? (ad.add jx)=some (.int .u8 bv.toNat):=by
           obtain⟨j9,e,g6⟩:=(row_ent 0 rfl _ _ H7).at_ (k:=jx) (by rw [cells8,List.length_map,hq]; omega);injection e with e
           subst e;have d7:jx<o'.length:=by rw [hq]; omega
           rw [g6,<- O,List.getD_eq_getElem?_getD,List.getElem?_eq_getElem d7];simp [cells8]
          obtain⟨b8,b5⟩:=exq bv.toNat;rw [b5] at d6;have g7:=hid b5;have g8:=hid a7;have HQ:=hid hq;have M:=hid s;have k0:q<=100000000:=by omega
          have H8:=H7.newBk [.int .u8 b8] 5;have d8:=hid (Rd.of_blk (H8.blk 0 rfl));have d9:=hid (H8.pick 2 [1,0]);clear b5 a7 hq f O d5 s H8 H7;go_wp2_with (at_builtin; refine wpList_append_sp rfl _ _ 25 rfl 5 i0 (.int .u8 0) 1 1 Tryd.underlying25 hi e8 e9 f0 rfl (by decide) _ q (cells8 o') rfl d9.out (some ⟨wr.heap.size,0,none⟩) 1 1 [.int .u8 b8] rfl rfl d8.out (by intro u hu; rw [List.mem_singleton.1 hu]; rfl) (by unfold maxLen; omega) (by omega) ?_)
          intro v9 w9 H9 _;have g9:=hid (H9.pick 2 [0]);clear d8 d9 H9;go_wp2_with fail
          go_roundw
          case rel =>
           have e0:(o'++[bv]).length=q+1:=by rw [List.length_append,HQ.out]; rfl
           refine⟨j+1,o'++[bv],by go_num,by omega,by rw [e0]; have:=M.out; omega,g8.out,?_⟩;have ec:cells8 (o'++[bv])=cells8 o'++[.int .u8 b8]:=by rw [<- g7.out]; simp [cells8]
           rw [e0,ec];exact g9.out
          case measure=>first | (simp [intOf]; omega) | simp [intOf]
         ·have k4:¬ (j:Int)<(n:Int):=by omega
          obtain rfl:j=n:=by omega
          rw [Nat.sub_self] at f;have e4 : o'=OT:=f;subst e4;have M:=hid s;clear f s;go_wp2_with fail
          go_roundw
          case rel =>
           refine⟨i+1,R++PI.sgsT (.cpy j a),o',by go_num,by omega,by omega,by rw [T.out,List.length_append]; simp only [List.length_cons,List.length_nil]; omega,by have:=M.out; omega,g3.out,g4.out,?_⟩;have e1:cellsS (R++PI.sgsT (.cpy j a))=cellsS R++(sgC ((s1,v1,b1):PI.Sg)++sgC ((s2,v2,b2):PI.Sg)):=by
            rw [T.out,Zb]; simp [cellsS]
           have D:(R++PI.sgsT (.cpy j a)).length=R.length+2:=by rw [T.out,List.length_append]; rfl
           rw [e1,D];exact H7.pick 3 [2,1,0]
          case measure=>first | (simp [intOf]; omega) | simp [intOf]
       ·have k3:¬ (ol:Int) > 0:=by omega
        have b:PI.cps ((m.take 6).drop i) o=[]:=by rw [List.eq_nil_of_length_eq_zero (show o.length=0 by rw [r.out]; omega)]; exact PI.cps_none _
        clear A;have v:=F.newBk (sgC ((256,0,0):PI.Sg)) 83;have g:=hid (Rd.of_blk (v.blk 0 rfl));have l:=hid (v.pick 4 [2,0,1,3]);have N:Hid (R++[(256,0,0)]=FQ9):=by rw [<- Z.out,b]; exact hid (by simp)
        have t:Hid (o=FO):=by rw [<- a0.out,b]; exact hid rfl
        clear v;go_wp2_with (at_builtin; refine wpList_append_sp rfl _ _ 48 rfl 83 i1 (.agg #[.int .i64 0,.int .i64 0,.int .i64 0]) 3 24 Tryd.underlying48 hj V W X rfl (by decide) _ R.length (cellsS R) rfl l.out (some ⟨wr.heap.size,0,none⟩) 1 1 (sgC ((256,0,0):PI.Sg)) rfl rfl g.out (Zh _) (by unfold maxLen; omega) (by omega) ?_)
        intro v5 w5 G _;clear l g;go_wp2_with fail
        go_ret2;have z:=G.pick 4 [0,3];have e1:cellsS R++sgC ((256,0,0):PI.Sg)=cellsS (R++[(256,0,0)]):=by rw [Zb]; simp [cellsS]
        have D:R.length+1=(R++[((256,0,0):PI.Sg)]).length:=by rw [List.length_append]; rfl
        have hl:FO.length=ol:=by rw [<- t.out]; exact r.out
        rw [e1,D,N.out,t.out] at z;refine⟨_,_,rfl,?_⟩;rw [hl];exact z
      ·have k2:¬ (i:Int)<6:=by omega
       have b:PI.cps ((m.take 6).drop i) o=[]:=by rw [List.drop_eq_nil_iff.2 (by rw [List.length_take]; omega)]; rfl
       clear A;have v:=F.newBk (sgC ((256,0,0):PI.Sg)) 83;have g:=hid (Rd.of_blk (v.blk 0 rfl));have l:=hid (v.pick 4 [2,0,1,3]);have N:Hid (R++[(256,0,0)]=FQ9):=by rw [<- Z.out,b]; exact hid (by simp)
       have t:Hid (o=FO):=by rw [<- a0.out,b]; exact hid rfl
       clear v;go_wp2_with (at_builtin; refine wpList_append_sp rfl _ _ 48 rfl 83 i1 (.agg #[.int .i64 0,.int .i64 0,.int .i64 0]) 3 24 Tryd.underlying48 hj V W X rfl (by decide) _ R.length (cellsS R) rfl l.out (some ⟨wr.heap.size,0,none⟩) 1 1 (sgC ((256,0,0):PI.Sg)) rfl rfl g.out (Zh _) (by unfold maxLen; omega) (by omega) ?_)
       intro v5 w5 G _;clear l g;go_wp2_with fail
       go_ret2;have z:=G.pick 4 [0,3];have e1:cellsS R++sgC ((256,0,0):PI.Sg)=cellsS (R++[(256,0,0)]):=by rw [Zb]; simp [cellsS]
       have D:R.length+1=(R++[((256,0,0):PI.Sg)]).length:=by rw [List.length_append]; rfl
       have hl:FO.length=ol:=by rw [<- t.out]; exact r.out
       rw [e1,D,N.out,t.out] at z;refine⟨_,_,rfl,?_⟩;rw [hl];exact z
     ·have k1:¬ (i:Int)<(cn:Int):=by omega
      have b:PI.cps ((m.take 6).drop i) o=[]:=by rw [List.drop_eq_nil_iff.2 (by rw [List.length_take,e7.out]; omega)]; rfl
      clear A;have v:=F.newBk (sgC ((256,0,0):PI.Sg)) 83;have g:=hid (Rd.of_blk (v.blk 0 rfl));have l:=hid (v.pick 4 [2,0,1,3]);have N:Hid (R++[(256,0,0)]=FQ9):=by rw [<- Z.out,b]; exact hid (by simp)
      have t:Hid (o=FO):=by rw [<- a0.out,b]; exact hid rfl
      clear v;go_wp2_with (at_builtin; refine wpList_append_sp rfl _ _ 48 rfl 83 i1 (.agg #[.int .i64 0,.int .i64 0,.int .i64 0]) 3 24 Tryd.underlying48 hj V W X rfl (by decide) _ R.length (cellsS R) rfl l.out (some ⟨wr.heap.size,0,none⟩) 1 1 (sgC ((256,0,0):PI.Sg)) rfl rfl g.out (Zh _) (by unfold maxLen; omega) (by omega) ?_)
      intro v5 w5 G _;clear l g;go_wp2_with fail
      go_ret2;have z:=G.pick 4 [0,3];have e1:cellsS R++sgC ((256,0,0):PI.Sg)=cellsS (R++[(256,0,0)]):=by rw [Zb]; simp [cellsS]
      have D:R.length+1=(R++[((256,0,0):PI.Sg)]).length:=by rw [List.length_append]; rfl
      have hl:FO.length=ol:=by rw [<- t.out]; exact r.out
      rw [e1,D,N.out,t.out] at z;refine⟨_,_,rfl,?_⟩;rw [hl];exact z
   ·have k1:¬ (i:Int)<(E:Int):=by omega
    have b7:i=min E 80:=by omega
    clear f6;have b9:Hid (d.take i=d.take 80):=hid (by
     rw [List.take_eq_take_iff,Y.out]; omega)
    have l1:(litS (d.take 80)).length=i:=by
     unfold litS; rw [List.length_map,List.length_take,Y.out]; omega
    have l2:(out++d.take 80).length=out.length+i:=by
     rw [List.length_append,List.length_take,Y.out]; omega
    rw [b9.out,<- l2] at U;rw [<- l1] at U;have c0:=hid U;clear l1 l2 U;have a9:(out++d.take 80).length<=out.length+80:=by rw [List.length_append,List.length_take]; omega
    have c4:(litS (d.take 80)).length<=80:=by unfold litS; rw [List.length_map,List.length_take]; omega
    clear b7;go_wp2_with fail
    clear c1;go_loopw [1,6,8] (fun ov rv iv wr=>∃(i:Nat) (R:List PI.Sg) (o:List UInt8),iv=.int .i64 i/\i<=6/\i<=cn/\R.length<=80+2 * i/\o.length<=out.length+80+258 * i/\R++(PI.cps ((m.take 6).drop i) o).flatMap PI.sgsT++[(256,0,0)]=FQ9/\PI.toksO o (PI.cps ((m.take 6).drop i) o)=FO/\Sp w0 (Bk gb 41 [.int .u8 P,.slice B E bc,.slice C cn cc]::Row 83 3 rv R.length (cellsS R)::Row 5 1 ov o.length (cells8 o)::L) wr) (fun _ _ iv _=>6 - (intOf iv).toNat)
    case atStart=>exact⟨0,_,_,rfl,Nat.zero_le _,Nat.zero_le _,c4,a9,e5.out,e6.out,c0.out⟩
    case round =>
     obtain⟨i,R,o,rfl,j3,j4,c4,a9,J,K,F⟩:=hrel;clear c0 e5 e6 b9;have Z:=hid J;have a0:=hid K;clear J K;have c2:wr.cell? ⟨gb,2,none⟩=some (.slice C cn cc):=F.cell 0 rfl 2;obtain⟨VR,Q,rfl,_,_⟩:=Row.form F 1 rfl;obtain⟨VO,S,rfl,_,_⟩:=Row.form F 2 rfl;obtain⟨ol,A⟩:=exq o.length;have r:=hid A;rw [A] at F a9 ⊢;by_cases hc:i<cn
     ·have k1:(i:Int)<(cn:Int):=by omega
      by_cases h6:i<6
      ·have k2:(i:Int)<6:=by omega
       by_cases h0:0<ol
       ·have k3:(ol:Int) > 0:=by omega
        clear A;have p:i<m.length:=by rw [e7.out]; exact hc
        obtain⟨ac,rfl,c5,c6⟩:=rdPr (HX.out _ _ (F.pick 3 [])).2 p;obtain⟨⟨x1,x2⟩,a1⟩:∃c,m.getD i (0,0)=c:=⟨_,rfl⟩;have a2:=i2.out (x1,x2) (by rw [<- a1,List.getD_eq_getElem?_getD,List.getElem?_eq_getElem p]; exact List.getElem_mem p);rw [a1] at c5 c6;simp only at c5 c6 a2;have c7:(m.take 6).drop i=(x1,x2)::(m.take 6).drop (i+1):=by
         have g1:i<(m.take 6).length:=by rw [List.length_take]; omega
         rw [PI.getD_cons_drop (0,0) g1];congr 1;rw [<- a1,List.getD_eq_getElem?_getD,List.getD_eq_getElem?_getD,List.getElem?_take_of_lt h6]
        obtain⟨n,hn⟩:=exq (3+x1 % 256);obtain⟨a,y⟩:=exq (1+x2 % min ol 32768);have f:PI.cps ((m.take 6).drop i) o=.cpy n a::PI.cps ((m.take 6).drop (i+1)) (PI.copy a n o):=by
         rw [c7,PI.cps_cons (by rw [r.out]; exact h0),r.out,hn,y]
        obtain⟨OT,a3⟩:=exq (PI.copy a n o);have c8:3<=n/\n<=258:=by omega
        have g2:x2 % min ol 32768<min ol 32768:=Nat.mod_lt _ (by omega);have a4:1<=a/\a<=32768/\a<=ol:=by omega
        rw [a3] at f;have g3:Hid ((R++PI.sgsT (.cpy n a))++(PI.cps ((m.take 6).drop (i+1)) OT).flatMap PI.sgsT++[(256,0,0)]=FQ9):=by
         rw [<- Z.out,f,List.flatMap_cons,<- List.append_assoc R]; exact hid rfl
        have g4:Hid (PI.toksO OT (PI.cps ((m.take 6).drop (i+1)) OT)=FO):=by
         rw [<- a0.out,f,<- a3]; exact hid rfl
        have c9:=hid a3;obtain⟨n0,g5⟩:=exq (x1 % 256);obtain⟨mm,a6⟩:=exq (min ol 32768);obtain⟨r0,b0⟩:=exq (x2 % mm);have y1:(x1:Int) % 256=(n0:Int):=by omega
        have y2:3+(n0:Int)=(n:Int):=by omega
        have y3:min (ol:Int) 32768=(mm:Int):=by omega
        have y4:(x2:Int) % (mm:Int)=(r0:Int):=by rw [<- b0]; simp
        have y5:1+(r0:Int)=(a:Int):=by rw [a6,b0] at y; omega
        have y6:¬ (mm:Int)=0:=by omega
        have i5:0<mm:=by omega
        have i6:=a2.1;have i7:=a2.2;have j5:=hid c2;obtain⟨⟨s1,v1,b1⟩,b3⟩:∃x:PI.Sg,(257+(PI.longS n).1,(PI.longS n).2.2,(PI.longS n).2.1)=x:=⟨_,rfl⟩;obtain⟨⟨s2,v2,b2⟩,b4⟩:∃x:PI.Sg,((PI.farS a).1,(PI.farS a).2.2,(PI.farS a).2.1)=x:=⟨_,rfl⟩;have d0:Hid (∀w9:World,Sp w0 (Bk gb 41 [.int .u8 P,.slice B E bc,.slice (some ac) cn cc]::Row 83 3 (.slice VR R.length Q) R.length (cellsS R)::Row 5 1 (.slice VO ol S) ol (cells8 o)::L) w9->Calls Tryd.prog 30 #[.int .i64 n] w9 fun e w'=>e=.returned (.agg #[.int .i64 s1,.int .i64 v1,.int .i64 b1])/\Sp w0 (Bk gb 41 [.int .u8 P,.slice B E bc,.slice (some ac) cn cc]::Row 83 3 (.slice VR R.length Q) R.length (cellsS R)::Row 5 1 (.slice VO ol S) ol (cells8 o)::L) w'):=hid fun w9 Hq=>by
         have h:=Xw n Hq c8.1 c8.2;rw [b3] at h;exact h
        have d1:Hid (∀w9:World,Sp w0 (Bk gb 41 [.int .u8 P,.slice B E bc,.slice (some ac) cn cc]::Row 83 3 (.slice VR R.length Q) R.length (cellsS R)::Row 5 1 (.slice VO ol S) ol (cells8 o)::L) w9->Calls Tryd.prog 31 #[.int .i64 a] w9 fun e w'=>e=.returned (.agg #[.int .i64 s2,.int .i64 v2,.int .i64 b2])/\Sp w0 (Bk gb 41 [.int .u8 P,.slice B E bc,.slice (some ac) cn cc]::Row 83 3 (.slice VR R.length Q) R.length (cellsS R)::Row 5 1 (.slice VO ol S) ol (cells8 o)::L) w'):=hid fun w9 Hq=>by
         have h:=Wp a Hq a4.1 a4.2.1;rw [b4] at h;exact h
        have T:Hid (PI.sgsT (.cpy n a)=[(s1,v1,b1),(s2,v2,b2)]):=hid (by
         show [((257+(PI.longS n).1,(PI.longS n).2.2,(PI.longS n).2.1):PI.Sg),((PI.farS a).1,(PI.farS a).2.2,(PI.farS a).2.1)]=_;rw [b3,b4])
        clear b3 b4;have j6:=a4.2.2;have d2:=hid F;clear f a3 hn y c7 a1 p b0 a6 g2 g5 a2 F;have i8:=a4.1;go_wp2_with fail
        refine(d0.out _ d2.out).mono ?_;rintro _ w3 ⟨rfl,U⟩;clear d2 d0 c2;go_wp2_with fail
        refine(d1.out _ U).mono ?_;rintro _ w4 ⟨rfl,v⟩;have G:=v.newBk (sgC ((s1,v1,b1):PI.Sg)++sgC ((s2,v2,b2):PI.Sg)) 83;have d3:=hid (Rd.of_blk (G.blk 0 rfl));have d4:=hid (G.pick 4 [2,0,1,3]);clear d1 U G v;go_wp2_with (at_builtin; refine wpList_append_sp rfl _ _ 48 rfl 83 i1 (.agg #[.int .i64 0,.int .i64 0,.int .i64 0]) 3 24 Tryd.underlying48 hj V W X rfl (by decide) _ R.length (cellsS R) rfl d4.out (some ⟨w4.heap.size,0,none⟩) 2 2 (sgC ((s1,v1,b1):PI.Sg)++sgC ((s2,v2,b2):PI.Sg)) rfl rfl d3.out (by intro u hu; rcases List.mem_append.1 hu with h | h <;> exact Zh _ _ h) (by unfold maxLen; omega) (by omega) ?_)
        intro v5 w5 z _;have a5:=hid (z.pick 4 [3,0,2]);clear d3 d4 z;go_wp2_with fail
        go_loopw [1,85] (fun ov jv wr=>∃(j:Nat) (o' : List UInt8),jv=.int .i64 j/\j<=n/\o'.length=ol+j/\PI.copy a (n - j) o'=OT/\Sp w0 (Row 5 1 ov o'.length (cells8 o')::Row 83 3 v5 (R.length+2) (cellsS R++(sgC ((s1,v1,b1):PI.Sg)++sgC ((s2,v2,b2):PI.Sg)))::Bk gb 41 [.int .u8 P,.slice B E bc,.slice (some ac) cn cc]::L) wr) (fun _ jv _=>n - (intOf jv).toNat)
        case atStart=>exact⟨0,o,rfl,Nat.zero_le _,r.out,c9.out,by rw [r.out]; exact a5.out⟩
        case round =>
         obtain⟨j,o',rfl,j7,s,f,H7⟩:=hrel;clear a5 c9;by_cases hj:j<n
         ·have k4:(j:Int)<(n:Int):=by omega
          obtain⟨VQ,vq,rfl,_,j8⟩:=Row.form H7 0 rfl;obtain⟨q,hq⟩:=exq (o'.length);rw [hq] at H7 s ⊢;obtain⟨ad,rfl⟩:=slice_of H7 0 rfl (by omega) (by simp [cells8,hq]);obtain⟨jx,d5⟩:=exq (q - a);have y7:(q:Int) - (a:Int)=(jx:Int):=by omega
          have y8:(jx:Int)<(q:Int):=by omega
          obtain⟨bv,O⟩:∃bv:UInt8,o'.getD jx 0=bv:=⟨_,rfl⟩;have a7:PI.copy a (n - (j+1)) (o'++[bv])=OT:=by
           rw [<- f,show n - j=(n - (j+1))+1 by omega,PI.copy,hq,d5,O]
          have d6:wr.cell? (ad.add jx)=some (.int .u8 bv.toNat):=by
           obtain⟨j9,e,g6⟩:=(row_ent 0 rfl _ _ H7).at_ (k:=jx) (by rw [cells8,List.length_map,hq]; omega);injection e with e
           subst e;have d7:jx<o'.length:=by rw [hq]; omega
           rw [g6,<- O,List.getD_eq_getElem?_getD,List.getElem?_eq_getElem d7];simp [cells8]
          obtain⟨b8,b5⟩:=exq bv.toNat;rw [b5] at d6;have g7:=hid b5;have g8:=hid a7;have HQ:=hid hq;have M:=hid s;have k0:q<=100000000:=by omega
          have H8:=H7.newBk [.int .u8 b8] 5;have d8:=hid (Rd.of_blk (H8.blk 0 rfl));have d9:=hid (H8.pick 2 [1,0]);clear b5 a7 hq f O d5 s H8 H7;go_wp2_with (at_builtin; refine wpList_append_sp rfl _ _ 25 rfl 5 i0 (.int .u8 0) 1 1 Tryd.underlying25 hi e8 e9 f0 rfl (by decide) _ q (cells8 o') rfl d9.out (some ⟨wr.heap.size,0,none⟩) 1 1 [.int .u8 b8] rfl rfl d8.out (by intro u hu; rw [List.mem_singleton.1 hu]; rfl) (by unfold maxLen; omega) (by omega) ?_)
          intro v9 w9 H9 _;have g9:=hid (H9.pick 2 [0]);clear d8 d9 H9;go_wp2_with fail
          go_roundw
          case rel =>
           have e0:(o'++[bv]).length=q+1:=by rw [List.length_append,HQ.out]; rfl
           refine⟨j+1,o'++[bv],by go_num,by omega,by rw [e0]; have:=M.out; omega,g8.out,?_⟩;have ec:cells8 (o'++[bv])=cells8 o'++[.int .u8 b8]:=by rw [<- g7.out]; simp [cells8]
           rw [e0,ec];exact g9.out
          case measure=>first | (simp [intOf]; omega) | simp [intOf]
         ·have k4:¬ (j:Int)<(n:Int):=by omega
          obtain rfl:j=n:=by omega
          rw [Nat.sub_self] at f;have e4 : o'=OT:=f;subst e4;have M:=hid s;clear f s;go_wp2_with fail
          go_roundw
          case rel =>
           refine⟨i+1,R++PI.sgsT (.cpy j a),o',by go_num,by omega,by omega,by rw [T.out,List.length_append]; simp only [List.length_cons,List.length_nil]; omega,by have:=M.out; omega,g3.out,g4.out,?_⟩;have e1:cellsS (R++PI.sgsT (.cpy j a))=cellsS R++(sgC ((s1,v1,b1):PI.Sg)++sgC ((s2,v2,b2):PI.Sg)):=by
            rw [T.out,Zb]; simp [cellsS]
           have D:(R++PI.sgsT (.cpy j a)).length=R.length+2:=by rw [T.out,List.length_append]; rfl
           rw [e1,D];exact H7.pick 3 [2,1,0]
          case measure=>first | (simp [intOf]; omega) | simp [intOf]
       ·have k3:¬ (ol:Int) > 0:=by omega
        have b:PI.cps ((m.take 6).drop i) o=[]:=by rw [List.eq_nil_of_length_eq_zero (show o.length=0 by rw [r.out]; omega)]; exact PI.cps_none _
        clear A;have v:=F.newBk (sgC ((256,0,0):PI.Sg)) 83;have g:=hid (Rd.of_blk (v.blk 0 rfl));have l:=hid (v.pick 4 [2,0,1,3]);have N:Hid (R++[(256,0,0)]=FQ9):=by rw [<- Z.out,b]; exact hid (by simp)
        have t:Hid (o=FO):=by rw [<- a0.out,b]; exact hid rfl
        clear v;go_wp2_with (at_builtin; refine wpList_append_sp rfl _ _ 48 rfl 83 i1 (.agg #[.int .i64 0,.int .i64 0,.int .i64 0]) 3 24 Tryd.underlying48 hj V W X rfl (by decide) _ R.length (cellsS R) rfl l.out (some ⟨wr.heap.size,0,none⟩) 1 1 (sgC ((256,0,0):PI.Sg)) rfl rfl g.out (Zh _) (by unfold maxLen; omega) (by omega) ?_)
        intro v5 w5 G _;clear l g;go_wp2_with fail
        go_ret2;have z:=G.pick 4 [0,3];have e1:cellsS R++sgC ((256,0,0):PI.Sg)=cellsS (R++[(256,0,0)]):=by rw [Zb]; simp [cellsS]
        have D:R.length+1=(R++[((256,0,0):PI.Sg)]).length:=by rw [List.length_append]; rfl
        have hl:FO.length=ol:=by rw [<- t.out]; exact r.out
        rw [e1,D,N.out,t.out] at z;refine⟨_,_,rfl,?_⟩;rw [hl];exact z
      ·have k2:¬ (i:Int)<6:=by omega
       have b:PI.cps ((m.take 6).drop i) o=[]:=by rw [List.drop_eq_nil_iff.2 (by rw [List.length_take]; omega)]; rfl
       clear A;have v:=F.newBk (sgC ((256,0,0):PI.Sg)) 83;have g:=hid (Rd.of_blk (v.blk 0 rfl));have l:=hid (v.pick 4 [2,0,1,3]);have N:Hid (R++[(256,0,0)]=FQ9):=by rw [<- Z.out,b]; exact hid (by simp)
       have t:Hid (o=FO):=by rw [<- a0.out,b]; exact hid rfl
       clear v;go_wp2_with (at_builtin; refine wpList_append_sp rfl _ _ 48 rfl 83 i1 (.agg #[.int .i64 0,.int .i64 0,.int .i64 0]) 3 24 Tryd.underlying48 hj V W X rfl (by decide) _ R.length (cellsS R) rfl l.out (some ⟨wr.heap.size,0,none⟩) 1 1 (sgC ((256,0,0):PI.Sg)) rfl rfl g.out (Zh _) (by unfold maxLen; omega) (by omega) ?_)
       intro v5 w5 G _;clear l g;go_wp2_with fail
       go_ret2;have z:=G.pick 4 [0,3];have e1:cellsS R++sgC ((256,0,0):PI.Sg)=cellsS (R++[(256,0,0)]):=by rw [Zb]; simp [cellsS]
       have D:R.length+1=(R++[((256,0,0):PI.Sg)]).length:=by rw [List.length_append]; rfl
       have hl:FO.length=ol:=by rw [<- t.out]; exact r.out
       rw [e1,D,N.out,t.out] at z;refine⟨_,_,rfl,?_⟩;rw [hl];exact z
     ·have k1:¬ (i:Int)<(cn:Int):=by omega
      have b:PI.cps ((m.take 6).drop i) o=[]:=by rw [List.drop_eq_nil_iff.2 (by rw [List.length_take,e7.out]; omega)]; rfl
      clear A;have v:=F.newBk (sgC ((256,0,0):PI.Sg)) 83;have g:=hid (Rd.of_blk (v.blk 0 rfl));have l:=hid (v.pick 4 [2,0,1,3]);have N:Hid (R++[(256,0,0)]=FQ9):=by rw [<- Z.out,b]; exact hid (by simp)
      have t:Hid (o=FO):=by rw [<- a0.out,b]; exact hid rfl
      clear v;go_wp2_with (at_builtin; refine wpList_append_sp rfl _ _ 48 rfl 83 i1 (.agg #[.int .i64 0,.int .i64 0,.int .i64 0]) 3 24 Tryd.underlying48 hj V W X rfl (by decide) _ R.length (cellsS R) rfl l.out (some ⟨wr.heap.size,0,none⟩) 1 1 (sgC ((256,0,0):PI.Sg)) rfl rfl g.out (Zh _) (by unfold maxLen; omega) (by omega) ?_)
      intro v5 w5 G _;clear l g;go_wp2_with fail
      go_ret2;have z:=G.pick 4 [0,3];have e1:cellsS R++sgC ((256,0,0):PI.Sg)=cellsS (R++[(256,0,0)]):=by rw [Zb]; simp [cellsS]
      have D:R.length+1=(R++[((256,0,0):PI.Sg)]).length:=by rw [List.length_append]; rfl
      have hl:FO.length=ol:=by rw [<- t.out]; exact r.out
      rw [e1,D,N.out,t.out] at z;refine⟨_,_,rfl,?_⟩;rw [hl];exact z
end Go.Proofs.YteajimobgkempaaDoor

