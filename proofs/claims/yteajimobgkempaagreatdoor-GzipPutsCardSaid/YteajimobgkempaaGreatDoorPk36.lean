/- A pack. -/
import Derived.Test.YteajimobgkempaaGreatDoorPk31
set_option linter.all false
set_option maxRecDepth 100000
set_option maxHeartbeats 8000000
namespace Go.Proofs.YteajimobgkempaaGreatDoor
variable {w0 w:World} {L:List Pr}
open Go.RowKit
theorem TU (n:Nat) (h:n<65536):n ^^^ 65535=65535 - n:=by
 have a:(BitVec.ofNat 16 n ^^^ BitVec.allOnes 16).toNat=(~~~ (BitVec.ofNat 16 n)).toNat:=by rw [BitVec.xor_allOnes]
 rw [BitVec.toNat_xor,BitVec.toNat_not,BitVec.toNat_allOnes,BitVec.toNat_ofNat,Nat.mod_eq_of_lt (by simpa using h)] at a;simpa using a
theorem WT (n:Nat) (h:n<65536):bits .xor .u64 (n:Int) 65535=((65535 - n:Nat):Int):=by
 show IntKind.u64.wrap ((BitVec.ofInt 64 (n:Int) ^^^ BitVec.ofInt 64 ((65535:Nat):Int)).toNat:Int)=_;rw [BitVec.toNat_xor,ofInt_u64 n (by omega),ofInt_u64 65535 (by omega),TU n h];have a:∀z:Int,IntKind.u64.wrap z=z % 18446744073709551616:=fun z=>by simp [IntKind.wrap,IntKind.bits,IntKind.signed]
 rw [a];omega
theorem WU (g gw:Nat) (v:DV) (p:BP) (B:List Bool) (H:Sp w0 (WB gw B::L) w) (hb:Ent L (DBr g v p)) (hl:p.b.length<=65535) (hB:B.length<=800000000) :
  Calls Tryz.prog 78 #[.pointer (some ⟨g,0,none⟩),.pointer (some ⟨gw,0,none⟩)] w fun e w'=>e=.returned (.tuple #[])/\Sp w0 (WB gw (B++([p.last]++PBits.bitsOf 0 2++(List.replicate (PD.pad (B.length+3)) false++PI.storedW p.b)))::L) w':=by
 obtain⟨n,t⟩:=exq p.b.length;have u:=hid hb;have x:=hid t;obtain⟨f,a⟩:=exq (B++([p.last]++PBits.bitsOf 0 2));have i:f.length=B.length+3:=by rw [<- a]; simp [PBits.bitsOf_length]
 obtain⟨y,d⟩:=exq (f++List.replicate (PD.pad f.length) false);have F:y.length=(f.length+7) / 8 * 8:=by rw [<- d,List.length_append,List.length_replicate]; unfold PD.pad; omega
 have z:=Xr g gw 0 v p B H hb (by decide) (by omega);rw [a] at z;have G:=hid z;have j:=hid a;have k:=hid d;have K:=WT n (by omega);obtain⟨m,A⟩:=exq (65535 - n);rw [A] at K;have b:m<2 ^ 16/\n<2 ^ 16:=by omega
 have M:=hid A;have c:=hid b;rw [t] at hl;clear hb z a d H t A b;go_enter Tryz.func78,Tryz.ntmps78
 go_wp2_with fail
 refine G.out.mono ?_;rintro _ O ⟨rfl,I⟩;clear G;go_wp2_with fail
 refine(Uu gw f I (by omega)).mono ?_;rintro _ P ⟨rfl,r⟩;rw [k.out] at r;have C:=(u.out _ _ r.tail).c1;rw [x.out] at C;have l:=hid r;clear I r;go_wp2_with fail
 refine(Ym gw y n 16 l.out (by decide) c.out.2 (by omega)).mono ?_;rintro _ Q ⟨rfl,J⟩;clear l C;have o:=hid J;clear J;go_wp2_with fail
 refine(Ym gw _ m 16 o.out (by decide) c.out.1 (by rw [List.length_append,PBits.bitsOf_length]; omega)).mono ?_;rintro _ w4 ⟨rfl,s⟩;have C:=(u.out _ _ s.tail).c1;have q:=(u.out _ _ s.tail).b;have D:=hid s;have E:=hid q
 clear s o q
 go_wp2_with fail
 refine(Uv gw _ D.out E.out (by simp only [List.length_append,PBits.bitsOf_length]; omega) (by simp only [List.length_append,PBits.bitsOf_length]; omega) (by rw [x.out]; omega)).mono ?_;rintro _ w5 ⟨rfl,N⟩;go_wp2;go_end0;refine⟨rfl,?_⟩;have e:B++([p.last]++PBits.bitsOf 0 2++(List.replicate (PD.pad (B.length+3)) false++PI.storedW p.b))=y++PBits.bitsOf n 16++PBits.bitsOf m 16++PBits.ofB p.b:=by
  unfold PI.storedW;rw [<- k.out,<- j.out,x.out,M.out,<- i,<- j.out];simp only [List.append_assoc]
 have h:Sp w0 (WB gw (B++([p.last]++PBits.bitsOf 0 2++(List.replicate (PD.pad (B.length+3)) false++PI.storedW p.b)))::L) w5:=by rw [e]; exact N
 exact h
theorem Xw (g:Nat) (v:DV) (p:BP) {TL TF:Option Addr} {cl cf:Nat} (H:Sp w0 L w) (hb:Ent L (DBr g v p)) (hT:Ent L (DTabs TL TF cl cf)) (hF:p.F.length=19) :
  Calls Tryz.prog 59 #[.pointer (some ⟨g,0,none⟩)] w fun e w'=>e=.returned (.int .i64 (PD.told p.F:Int))/\Sp w0 L w':=by
 obtain⟨T,b⟩:=exq (PD.told p.F);rw [b];have l:PD.toldN p.F 19=T:=b;have E:=hid hT;have y:=hid hb;have A:=hid hF;have B:=hid l;clear hT hb hF b l;go_enter Tryz.func59,Tryz.ntmps59
 go_wp2_with fail
 go_loopw [3] (fun kv wr=>∃k:Nat,kv=.int .i64 k/\k<=19/\PD.toldN p.F k=T/\Sp w0 L wr) (fun kv _=>(intOf kv).toNat)
 case atStart=>exact⟨19,rfl,Nat.le_refl _,B.out,H⟩
 case round =>
  obtain⟨k,rfl,N,m,c⟩:=hrel;clear B H;by_cases s:4<k
  ·obtain⟨j,C⟩:=exq (k - 1);have O:(k:Int) - 1=(j:Int):=by omega
   have F:(k:Int) > 4:=by omega
   have G:decide (4<k)=true:=decide_eq_true s;have P:decide ((4:Int)<(k:Int))=true:=decide_eq_true (by omega);have I:(j:Int)<19:=by omega
   have a:k=j+1:=by omega
   have J:=(E.out _ _ c).order j (by omega);have D:=(y.out _ _ c).c7;rw [A.out] at D;obtain⟨z,r⟩:=exq (PI.orderT.getD j 0);have n:z<19:=by
    have:∀j,j<19->PI.orderT.getD j 0<19:=by decide
    rw [<- r]; exact this j (by omega)
   have Q:(z:Int)<19:=by omega
   obtain⟨K,o,t⟩:=rdN (y.out _ _ c).f (i:=z) (by rw [A.out]; exact n);obtain⟨x,u⟩:=exq (p.F.getD z 0);rw [o] at D;rw [u] at t;rw [r] at J;rw [a,PD.toldN,r,u] at m;have f:=hid m;have d:=hid c;clear m u r o c;by_cases l:x=0
   ·subst l;replace t:wr.cell? (K.add z)=some (.int .i64 0):=t;rw [if_pos ⟨by omega,rfl⟩] at f;clear a C;go_wp2_with fail
    go_quiet (fail)
    have q:=hid (d.out.drewN nq);clear d;go_wp2_with fail
    go_roundw
    case rel=>exact⟨j,by go_num,by omega,f.out,q.out⟩
    case measure=>first | (simp [intOf]; omega) | simp [intOf]
   ·have M:¬ (x:Int)=0:=by omega
    have R:((x:Int) == 0)=false:=by rw [beq_eq_false_iff_ne]; exact M
    rw [if_neg (fun h=>l h.2),<- a] at f;clear a C;go_wp2_with fail
    go_quiet (fail)
    have q:=hid (d.out.drewN nq);clear d;go_wp2_with fail
    go_ret;exact⟨by rw [<- f.out]; rfl,q.out⟩
  ·have F:¬ (k:Int) > 4:=by omega
   have G:decide (4<k)=false:=decide_eq_false s;have I:decide ((4:Int)<(k:Int))=false:=decide_eq_false (by omega);have f:Hid (k=T):=by
    rw [<- m];cases k with
    | zero=>exact hid rfl
    | succ j=>rw [PD.toldN,if_neg (fun h=>s h.1)]; exact hid rfl
   have d:=hid c;clear m c;go_wp2_with fail
   go_quiet (fail)
   have q:=hid (d.out.drewN nq);clear d;go_wp2_with fail
   go_ret;exact⟨by rw [<- f.out]; rfl,q.out⟩
theorem WV {A D:List Nat} {W:List PD.Wd} {i:Nat} (h:i<W.length):PD.costW A D (W.take (i+1))=PD.costW A D (W.take i)+((if (W.getD i (0,0,0,0)).1=0 then A else D).getD (W.getD i (0,0,0,0)).2.1 0+(W.getD i (0,0,0,0)).2.2.1):=by
 have e:W.getD i (0,0,0,0)=W[i]:=by rw [List.getD_eq_getElem?_getD,List.getElem?_eq_getElem h]; rfl
 unfold PD.costW;rw [e,List.take_succ_eq_append_getElem h,List.map_append,List.sum_append,List.map_singleton,List.sum_singleton]
theorem Ya (WA AA DA:Option Addr) (n wc na ac nd dc:Nat) (W:List PD.Wd) (A D:List Nat) (H:Sp w0 L w)
  (hw:Ent L fun w=>Rd w WA (Ze W)) (ha:Ent L fun w=>Rd w AA (cellsN A)) (hd:Ent L fun w=>Rd w DA (cellsN D)) (hn:n=W.length) (hna:na=A.length) (hnd:nd=D.length) (hnm:n<=2000000)
  (hA:∀x ∈ A,x<=15) (hD:∀x ∈ D,x<=15) (hok:∀t ∈ W,PD.WdOk A D t) :
  Calls Tryz.prog 60 #[.slice WA n wc,.agg #[.slice AA na ac,.slice DA nd dc]] w fun e w'=>e=.returned (.int .i64 (PD.costW A D W:Int))/\Sp w0 L w':=by
 have HW:=hid hw;have HA:=hid ha;have HD:=hid hd;have V:=hid hn;have l:=hid hA;have m:=hid hD;have u:=hid hok;have J:=hid hna;have K:=hid hnd;have o:=hid (H.newBk [.slice AA na ac,.slice DA nd dc] 98);clear H hw ha hd hn hA hD hok hna hnd;go_enter Tryz.func60,Tryz.ntmps60
 go_wp2_with fail
 generalize w.heap.size=g5 at o ⊢;go_loopw [5,10] (fun cv iv wr=>∃(i s:Nat),cv=.int .i64 s/\iv=.int .i64 i/\i<=n/\PD.costW A D (W.take i)=s/\Sp w0 (Bk g5 98 [.slice AA na ac,.slice DA nd dc]::L) wr) (fun _ iv _=>n - (intOf iv).toNat)
 case atStart=>exact⟨0,0,rfl,rfl,Nat.zero_le _,rfl,o.out⟩
 case round =>
  obtain⟨i,N,rfl,rfl,a1,d,v⟩:=hrel;clear o;by_cases O:i<n
  ·have k1:(i:Int)<(n:Int):=by omega
   have f:i<W.length:=by rw [<- V.out]; exact O
   obtain⟨ad,rfl,X,Y,Z,p3⟩:=rdW (HW.out _ _ v.tail) f;have p:W.getD i (0,0,0,0) ∈ W:=by rw [List.getD_eq_getElem?_getD,List.getElem?_eq_getElem f]; exact List.getElem_mem f
   have y:=u.out _ p;have c:=WV (A:=A) (D:=D) f;have a2:N<=28 * i:=by
    have h:=ZP l.out m.out (W.take i) (fun t ht=>u.out t (List.mem_of_mem_take ht));rw [PD.layW_len,List.length_take,d] at h; omega
   obtain⟨⟨b,s,q,r⟩,ht⟩:∃t,W.getD i (0,0,0,0)=t:=⟨_,rfl⟩;rw [ht] at X Y Z p3 y c;rw [d] at c;simp only at X Y Z p3 c;obtain⟨P,a,z,B⟩:=y;simp only at P a z B;obtain⟨M,C⟩:=exq ((if b=0 then A else D));rw [C] at a c;obtain⟨I,g⟩:=exq (M.getD s 0);have Q:I<=15:=by
    rw [<- g]; refine ZF ?_ s;rw [<- C]; split
    ·exact l.out
    ·exact m.out
   rw [g] at c;have j:=v.newBk [.int .i64 b,.int .i64 s,.int .i64 q,.int .i64 r] 139;have k:∃(ea:Addr) (en ec:Nat),s<en/\World.cell? (wr.alloc (.cells #[.int .i64 b,.int .i64 s,.int .i64 q,.int .i64 r] 139)) ⟨g5,b,none⟩=some (.slice (some ea) en ec)/\World.cell? (wr.alloc (.cells #[.int .i64 b,.int .i64 s,.int .i64 q,.int .i64 r] 139)) (ea.add s)=some (.int .i64 I):=by
    have E:b=0∨b=1:=by omega
    rcases E with rfl | rfl
    ·obtain rfl:A=M:=C;obtain⟨ea,rfl,R⟩:=rdN (HA.out _ _ (j.pick 2 [])) a.1;exact⟨ea,na,ac,by rw [J.out]; exact a.1,j.cell 1 rfl 0,by rw [R,g]⟩
    ·obtain rfl:D=M:=C;obtain⟨ea,rfl,R⟩:=rdN (HD.out _ _ (j.pick 2 [])) a.1;exact⟨ea,nd,dc,by rw [K.out]; exact a.1,j.cell 1 rfl 1,by rw [R,g]⟩
   obtain⟨ea,en,ec,a0,d0,d1⟩:=k;have t0:=j.cell 0 rfl 0;have t1:=j.cell 0 rfl 1;have t2:=j.cell 0 rfl 2;simp only [List.getElem?_cons_zero,List.getElem?_cons_succ] at t0 t1 t2;have k3:(s:Int)<(en:Int):=by omega
   have k4:(b:Int)<2:=by omega
   obtain⟨S,F⟩:=exq (I+q);obtain⟨T,G⟩:=exq (N+S);have y1:(I:Int)+(q:Int)=(S:Int):=by omega
   have y2:(N:Int)+(S:Int)=(T:Int):=by omega
   have U:Hid (PD.costW A D (W.take (i+1))=T):=by rw [c,F,G]; exact hid rfl
   have o:=hid j.tail;clear c g a C ht p v j z f d F G;go_wp2_with fail
   go_quiet (fail)
   have HQ:=hid (o.out.drewN nq);clear o;go_wp2_with fail
   go_roundw
   case rel=>exact⟨i+1,T,rfl,by go_num,by omega,U.out,HQ.out⟩
   case measure=>first | (simp [intOf]; omega) | simp [intOf]
  ·have k1:¬ (i:Int)<(n:Int):=by omega
   rw [List.take_of_length_le (by rw [<- V.out]; omega)] at d;have HS:=hid d;have o:=hid v.tail;clear v d;go_wp2_with fail
   go_ret;exact⟨by rw [HS.out]; rfl,o.out⟩
namespace PD
theorem size_app (a c:List PM.St):PM.size (a++c)=PM.size a+PM.size c:=by
 induction a with
 | nil=>simp [PM.size]
 | cons s l ih=>rw [List.cons_append,PM.size,PM.size,ih,Nat.add_assoc]
theorem mays_app (a c:List PM.St) (n:Nat):PM.mays (a++c) n↔PM.mays a n/\PM.mays c (n+PM.size a):=by
 induction a generalizing n with
 | nil=>simp [PM.mays,PM.size]
 | cons s l ih =>
  show PM.fits s n/\PM.mays (l++c) (n+PM.made s)↔(PM.fits s n/\PM.mays l (n+PM.made s))/\_;rw [ih,PM.size,Nat.add_assoc];exact(and_assoc).symm
theorem take_parts (Y:List PM.St) (i:Nat):Y.take (512 * (i+1))=Y.take (512 * i)++partY Y i:=by
 unfold partY;rw [show 512 * (i+1)=512 * i+512 by omega,List.take_add]
theorem atB_succ (Y:List PM.St) (i:Nat):atB Y (i+1)=atB Y i+PM.size (partY Y i):=by
 unfold atB;rw [take_parts,size_app]
/-! Which kind. -/
theorem pick_lt (s:Int) (f d:Nat):pick s f d<3:=by
 unfold pick;split
 ·split
  ·split <;> omega
  ·split <;> omega
 ·split <;> omega
theorem pick_sto {s:Int} {f d:Nat} (h:pick s f d=0):0<=s:=by
 unfold pick at h;split at h
 ·assumption
 ·split at h <;> omega
theorem kind_sto {Y:List PM.St} {b:List UInt8} {a:Nat} (h:kind Y b a=0):b.length<=65535:=by
 have:=pick_sto h;unfold sto at this;split at this
 ·assumption
 ·omega
/-! The lengths of a part's own books. -/
theorem lenA_ok (Y:List PM.St):PI.book (lenA Y)=true/\257<=(lenA Y).length/\(lenA Y).length<=286/\(∀x ∈ lenA Y,x<=15)/\(∀s ∈ PI.symsOf (toks Y),s<286->PI.Has (lenA Y) s):=by
 obtain⟨a,b,c,d,g⟩:=PI.lens_fits 286 15 (PI.symsOf (toks Y)) (by decide) (by decide) (by decide) (by decide);have e:PI.lensA (toks Y)=PL.lens (PI.cnts 286 (PI.symsOf (toks Y))) 15:=rfl;rw [<- e] at a b c d;have i:=used_le (PI.lensA (toks Y)) 257 (PI.lensA (toks Y)).length;have f:=used_least (PI.lensA (toks Y)) 257 (PI.lensA (toks Y)).length (by rw [b]; decide);refine⟨cut_book _ _ a,?_,?_,fun x hx=>c x (cut_mem _ _ x hx),fun s hs h=>cut_has _ _ _ (d s hs h)⟩
 ·unfold lenA; rw [cut_len]; exact f
 ·unfold lenA; rw [cut_len]; omega
theorem lenB_ok (Y:List PM.St):PI.book (lenB Y)=true/\1<=(lenB Y).length/\(lenB Y).length<=30/\(∀x ∈ lenB Y,x<=15)/\(∀s ∈ PI.farsOf (toks Y),s<30->PI.Has (lenB Y) s):=by
 obtain⟨a,b,c,d,g⟩:=PI.lens_fits 30 15 (PI.farsOf (toks Y)) (by decide) (by decide) (by decide) (by decide);have e:PI.lensB (toks Y)=PL.lens (PI.cnts 30 (PI.farsOf (toks Y))) 15:=rfl;rw [<- e] at a b c d;have i:=used_le (PI.lensB (toks Y)) 1 (PI.lensB (toks Y)).length;have f:=used_least (PI.lensB (toks Y)) 1 (PI.lensB (toks Y)).length (by rw [b]; decide);refine⟨cut_book _ _ a,?_,?_,fun x hx=>c x (cut_mem _ _ x hx),fun s hs h=>cut_has _ _ _ (d s hs h)⟩
 ·unfold lenB; rw [cut_len]; exact f
 ·unfold lenB; rw [cut_len]; omega
theorem rowY_15 (Y:List PM.St):∀x ∈ lenA Y++lenB Y,x<=15:=fun x hx=>by
 rcases List.mem_append.1 hx with h | h
 ·exact(lenA_ok Y).2.2.2.1 x h
 ·exact(lenB_ok Y).2.2.2.1 x h
theorem fst7_ok (Y:List PM.St):PI.book (fst7 Y)=true/\(fst7 Y).length=19/\(∀x ∈ fst7 Y,x<=7)/\(∀t ∈ rowY Y,PI.Has (fst7 Y) t.1):=by
 obtain⟨a,b,c,d,e⟩:=PI.lens_fits 19 7 ((rowY Y).map Prod.fst) (by decide) (by decide) (by decide) (by decide);exact⟨a,b,c,fun t ht=>d t.1 (List.mem_map_of_mem ht) (rl_small _ _ _ (rowY_15 Y) t ht).1⟩
theorem told_ok (m:List Nat):4<=told m/\told m<=19:=⟨toldN_least m 19 (by decide),toldN_le m 19⟩
theorem row_ok (Y:List PM.St):PI.tellsO [] (rowY Y)=lenA Y++lenB Y/\PI.TellsOk (fst7 Y) [] (rowY Y):=by
 have h:=row_all (m:=fst7 Y) (lenA Y++lenB Y) (rowY_15 Y);have b:row (lenA Y++lenB Y)=rowY Y:=by rw [rowY]
 rw [b] at h;have a:=(fst7_ok Y).2.2.2;generalize rowY Y=R at h a ⊢;generalize fst7 Y=F at h a ⊢;exact⟨h.1,h.2 a⟩
theorem atB_le (Y:List PM.St) (i:Nat):atB Y i<=PM.size Y:=by
 have:=size_app (Y.take (512 * i)) (Y.drop (512 * i));rw [List.take_append_drop] at this;unfold atB; omega
theorem stream_len (Y:List PM.St) (b:List UInt8):(stream Y b).length=((bitsD Y b).length+7) / 8:=PI.packB_len _
end PD
def agF:Value->Nat->Value
 | .agg a,i=>a.getD i undef
 | _,_=>undef
def BP.of (Y:List PM.St) (b:List UInt8) (last:Bool):BP:=⟨b,PD.words Y,last,PD.lenA Y,PD.lenB Y,(PD.rowY Y).map PD.rwd,PD.fst7 Y⟩
theorem fl15:∀x ∈ PI.fixedL,x<=15:=by decide +kernel
theorem fd15:∀x ∈ PI.fixedD,x<=15:=by decide +kernel
theorem WW (g gw:Nat) (dv:DV) (p:BP) (B:List Bool) (H:Sp w0 (WB gw B::L) w) (hb:Ent L (DBr g dv p)) (hok:∀t ∈ p.W,PD.WdOk PI.fixedL PI.fixedD t) (hWl:p.W.length<=2000000) (hB:B.length<=800000000) :
  Calls Tryz.prog 79 #[.pointer (some ⟨g,0,none⟩),.pointer (some ⟨gw,0,none⟩)] w fun e w'=>e=.returned (.tuple #[])/\Sp w0 (WB gw (B++([p.last]++PBits.bitsOf 1 2++PD.layW PI.fixedL PI.fixedD p.W))::L) w':=by
 obtain⟨q,i⟩:=exq (B++([p.last]++PBits.bitsOf 1 2));have D:q.length=B.length+3:=by rw [<- i]; simp [PBits.bitsOf_length]
 have r:=Xr g gw 1 dv p B H hb (by decide) (by omega);rw [i] at r;rw [<- List.append_assoc,i];have E:=hid r;have F:=hid hb;have s:=hid hok;have u:=hid PI.fixed_sum;have v:=hid PI.fixed_sumD;clear hb hok H r;go_enter Tryz.func79,Tryz.ntmps79
 go_wp2_with fail
 refine E.out.mono ?_;rintro _ V ⟨rfl,G⟩;have I:=hid G;clear E G i;go_wp2_with fail
 refine Zb (L:=L) [some (.pointer (some ⟨gw,0,none⟩)),some (.pointer (some ⟨g,0,none⟩)),some (.pointer (some ⟨g,0,none⟩)),some (.pointer (some ⟨g,2,none⟩)),some (.slice dv.w p.W.length dv.wc),none,some (.tuple #[])] (fun ix vx=>match ix with | 5=>(fun vv=>vv=.agg #[agF vv 0,agF vv 1]) vx | _=>True) (fun ix vx=>match ix with | 5=>(fun vv=>[Row 3 1 (agF vv 0) 288 (cellsN PI.fixedL),Row 3 1 (agF vv 1) 32 (cellsN PI.fixedD)]) vx | 6=>(fun _=>[WB gw (q++PD.layW PI.fixedL PI.fixedD p.W)]) vx | _=>[]) (fun ix=>match ix with | 6=>[WB gw q] | _=>[]) 7 14
  [some 7,some 8,some 9,some 10,some 11,some 12,some 13]
  [[],[],[1],[2],[3],[],[0,4,5,5]]
  [[],[],[1],[1,2],[1,2,3],[],[0,1,2,3,4,5]]
  [[],[],[],[],[],[],[5]] [[],[],[],[],[],[],[]] [(0,.pointer (some ⟨g,0,none⟩)),(1,.pointer (some ⟨gw,0,none⟩))]
  (by kernel_rfl) rfl (by decide) (by rfl) (by decide +kernel) rfl rfl (by simp) (I.out) ?hstep ?hend
 case hstep =>
  refine⟨?p0,⟨?p1,⟨?p2,⟨?p3,⟨?p4,⟨?p5,⟨?p6,trivial⟩⟩⟩⟩⟩⟩⟩
  case p0 | p1 | p2 | p3 =>
   intro x wx A d b l f j H K k;replace k:=hid k;clear f j b;repeat (obtain⟨_,l⟩:=l)
   refine so ?_;go_step;exact k.out _ _ rfl H
  case p4 =>
   intro x wx A d b l f j H K a;have M:=tq f 3;have k:=hid a;clear a l f b;have c:=(j _ F.out _ _ H).c2;clear j;refine so ?_;go_step;exact k.out _ _ rfl H
  case p5 =>
   intro x wx A d b l f j H K a;have k:=hid a;clear a l f j b;refine so ?_;go_wp2_with fail
   refine(YQ H).mono ?_;rintro _ N ⟨W,X,rfl,y⟩;exact k.out _ _ rfl y
  case p6 =>
   intro x wx A d b l f j H K a;have Y:=tq f 0;have O:=tq f 4;have m:(x 5)=.agg #[agF (x 5) 0,agF (x 5) 1]:=(f 5 (by decide)).1;have z:=(f 5 (by decide)).2 12 rfl;replace H:Sp w0 (_::(Row 3 1 (agF (x 5) 0) 288 (cellsN PI.fixedL))::(Row 3 1 (agF (x 5) 1) 32 (cellsN PI.fixedD))::d) wx:=H;have k:=hid a;clear a l f b;obtain⟨Z,n⟩:=exq (agF (x 5) 0);obtain⟨r1,o⟩:=exq (agF (x 5) 1);rw [n,o] at m H;rw [m] at z;clear n o m;obtain⟨P,Q,rfl,_,_⟩:=Row.form H 1 rfl;obtain⟨R,S,rfl,_,_⟩:=Row.form H 2 rfl;have C:=hid (j _ F.out);have T:=hid H;clear j H;refine so ?_;go_wp2_with fail
   refine(XW gw q dv.w P R p.W.length dv.wc 288 Q 32 S p.W PI.fixedL PI.fixedD T.out (fun w0 w h=>(C.out w0 w (h.pick 2 [])).w) (fun w0 w h=>rowRd h 0 rfl) (fun w0 w h=>rowRd h 1 rfl) rfl ZB.symm rfl hWl (by decide) (by decide) fl15 fd15 u.out v.out s.out (by omega)).mono ?_;rintro _ N ⟨rfl,y⟩;exact k.out _ _ rfl (y.pick 3 [0])
 case hend =>
  intro x wx A J f H;replace H:Sp w0 (_::L) wx:=H;clear f;simp only [putAll,Act.put,List.setIfInBounds_toArray,List.set_cons_succ,List.set_cons_zero,Nat.reduceAdd] at J;subst J;have U:=hid H;clear H I;go_wp2;go_end0;refine⟨rfl,?_⟩;have h:=U.out;first | exact h | (rw [List.append_assoc]; exact h) | (rw [List.append_assoc] at h; exact h)
theorem Tw (g gw:Nat) (dv:DV) (p:BP) (B:List Bool) {TL TF:Option Addr} {cl cf:Nat} (H:Sp w0 (WB gw B::L) w) (hb:Ent L (DBr g dv p)) (hT:Ent L (DTabs TL TF cl cf)) (hA1:257<=p.A.length) (hA2:p.A.length<=286) (hD1:1<=p.D.length) (hD2:p.D.length<=30)
  (hA:∀x ∈ p.A,x<=15) (hD:∀x ∈ p.D,x<=15) (hAs:PH.sum p.A<=32768) (hDs:PH.sum p.D<=32768) (hF:p.F.length=19) (hF7:∀x ∈ p.F,x<=7) (hFs:PH.sum p.F<=32768)
  (hokR:∀t ∈ p.R,PD.WdOk p.F [] t) (hokW:∀t ∈ p.W,PD.WdOk p.A p.D t) (hRl:p.R.length<=1000) (hWl:p.W.length<=2000000) (hB:B.length<=800000000) :
  Calls Tryz.prog 80 #[.pointer (some ⟨g,0,none⟩),.pointer (some ⟨gw,0,none⟩)] w fun e w'=>e=.returned (.tuple #[]) /\
   Sp w0 (WB gw (B++([p.last]++PBits.bitsOf 2 2++(PBits.bitsOf (p.A.length - 257) 5++(PBits.bitsOf (p.D.length - 1) 5++(PBits.bitsOf (PD.told p.F - 4) 4++(PI.firstsW p.F (PI.orderT.take (PD.told p.F))++PD.layW p.F [] p.R)))++PD.layW p.A p.D p.W)))::L) w':=by
 obtain⟨B1,r⟩:=exq (B++([p.last]++PBits.bitsOf 2 2));have b9:B1.length=B.length+3:=by rw [<- r]; simp [PBits.bitsOf_length]
 have hh:=Xr g gw 2 dv p B H hb (by decide) (by omega);rw [r] at hh;obtain⟨na,s⟩:=exq p.A.length;obtain⟨nd,u⟩:=exq p.D.length;obtain⟨N,O⟩:=exq (na - 257);obtain⟨P,Q⟩:=exq (nd - 1);obtain⟨m,hm⟩:=exq (PD.told p.F);obtain⟨R,S⟩:=exq (m - 4);have c1:4<=m/\m<=19:=by rw [<- hm]; exact PD.told_ok p.F
 rw [s] at hA1 hA2;rw [u] at hD1 hD2;have y1:(na:Int) - 257=(N:Int):=by omega
 have y2:(nd:Int) - 1=(P:Int):=by omega
 have y3:(m:Int) - 4=(R:Int):=by omega
 have z1:N<2 ^ 5:=by omega
 have z2:P<2 ^ 5:=by omega
 have z3:R<2 ^ 4:=by omega
 have I:=hid (show N<2 ^ 5/\P<2 ^ 5/\R<2 ^ 4 from⟨z1,z2,z3⟩);rw [s,u,hm,O,Q,S,<- List.append_assoc B,r];have HH:=hid hh;have o:=hid hb;have HT:=hid hT;have HA:=hid hA;have HD:=hid hD;have a6:=hid hAs;have a8:=hid hDs;have T:=hid hF;have J:=hid hF7;have a9:=hid hFs;have E:=hid hokR;have U:=hid hokW;have V:=hid s;have W:=hid u;have HM:=hid hm;have y4:(m:Int)<=19:=by omega
 clear hb hT hA hD hAs hDs hF hF7 hFs hokR hokW H hh r s u hm O Q S z1 z2 z3;go_enter Tryz.func80,Tryz.ntmps80
 go_wp2_with fail
 refine HH.out.mono ?_;rintro _ w1 ⟨rfl,H1⟩;clear HH;go_wp2_with fail
 refine(Xw g dv p H1 (fun w0 w h=>o.out w0 w h.tail) (fun w0 w h=>HT.out w0 w h.tail) T.out).mono ?_;rintro _ w2 ⟨rfl,H2⟩;rw [HM.out];have c4:=(o.out _ _ H2.tail).c4;rw [V.out] at c4;have X:=hid H2;clear H1 H2;go_wp2_with fail
 refine(Ym gw B1 N 5 X.out (by decide) I.out.1 (by omega)).mono ?_;rintro _ w3 ⟨rfl,H3⟩;have c5:=(o.out _ _ H3.tail).c5;rw [W.out] at c5;have Y:=hid H3;clear X H3 c4;go_wp2_with fail
 refine(Ym gw _ P 5 Y.out (by decide) I.out.2.1 (by simp only [List.length_append,PBits.bitsOf_length]; omega)).mono ?_;rintro _ w4 ⟨rfl,H4⟩;have Z:=hid H4;clear Y H4 c5;go_wp2_with fail
 refine(Ym gw _ R 4 Z.out (by decide) I.out.2.2 (by simp only [List.length_append,PBits.bitsOf_length]; omega)).mono ?_;rintro _ w5 ⟨rfl,H5⟩;obtain⟨B2,v⟩:=exq (B1++PBits.bitsOf N 5++PBits.bitsOf P 5++PBits.bitsOf R 4);have c2:B2.length=B1.length+14:=by rw [<- v]; simp only [List.length_append,PBits.bitsOf_length]
 rw [v] at H5;have b0:=hid v;have a0:=hid H5;clear Z H5 v;go_wp2_with fail
 go_loopw [40] (fun iv wr=>∃i:Nat,iv=.int .i64 i/\i<=m/\Sp w0 (WB gw (B2++PI.firstsW p.F (PI.orderT.take i))::L) wr) (fun iv _=>m - (intOf iv).toNat)
 case atStart=>exact⟨0,rfl,Nat.zero_le _,by rw [List.take_zero]; show Sp w0 (WB gw (B2++[])::L) _; rw [List.append_nil]; exact a0.out⟩
 case round =>
  obtain⟨i,rfl,b1,F⟩:=hrel;clear a0;have b2:(PI.firstsW p.F (PI.orderT.take i)).length<=57:=by
   unfold PI.firstsW;rw [List.length_flatMap];simp only [PBits.bitsOf_length,List.map_const',List.sum_replicate_nat,List.length_take];show min i 19 * 3<=57;omega
  by_cases b3:i<m
  ·have k1:(i:Int)<(m:Int):=by omega
   have k2:(i:Int)<19:=by omega
   have o1:=(HT.out _ _ F.tail).order i (by omega);have c7:=(o.out _ _ F.tail).c7;rw [T.out] at c7;obtain⟨z,hz⟩:=exq (PI.orderT.getD i 0);have G:z<19:=by
    have:∀j,j<19->PI.orderT.getD j 0<19:=by decide
    rw [<- hz]; exact this i (by omega)
   have k3:(z:Int)<19:=by omega
   obtain⟨ad,a1,c0⟩:=rdN (o.out _ _ F.tail).f (i:=z) (by rw [T.out]; exact G);obtain⟨x,q⟩:=exq (p.F.getD z 0);have M:x<2 ^ 3:=by
    have a2:z<p.F.length:=by rw [T.out]; exact G
    have h:=J.out _ (List.getElem_mem a2);have a3:=q;rw [List.getD_eq_getElem?_getD,List.getElem?_eq_getElem a2] at a3;rw [show p.F[z]=x from a3] at h;have h8:x<8:=by omega
    exact h8
   have a4:PI.firstsW p.F (PI.orderT.take (i+1))=PI.firstsW p.F (PI.orderT.take i)++PBits.bitsOf x 3:=by
    have a5:i<PI.orderT.length:=by show i<19; omega
    unfold PI.firstsW;rw [List.take_succ_eq_append_getElem a5,List.flatMap_append];rw [List.getD_eq_getElem?_getD,List.getElem?_eq_getElem a5] at hz;rw [show PI.orderT[i]=z from hz,List.flatMap_cons,List.flatMap_nil,List.append_nil,q]
   rw [a1] at c7;rw [q] at c0;rw [hz] at o1;have b4:=hid a4;have b5:=hid M;have HX:=hid F;have c8:x<8:=M;clear a4 q hz a1 F M;go_wp2_with fail
   refine(Ym gw _ x 3 HX.out (by decide) b5.out (by rw [List.length_append]; omega)).mono ?_;rintro _ w7 ⟨rfl,H7⟩;clear HX;go_wp2_with fail
   go_roundw
   case rel=>exact⟨i+1,by go_num,by omega,by rw [b4.out,<- List.append_assoc]; exact H7⟩
   case measure=>first | (simp [intOf]; omega) | simp [intOf]
  ·have k1:¬ (i:Int)<(m:Int):=by omega
   obtain rfl:i=m:=by omega
   obtain⟨B3,y⟩:=exq (B2++PI.firstsW p.F (PI.orderT.take i));have c3:B3.length<=B.length+100:=by rw [<- y,List.length_append]; omega
   rw [y] at F;have b6:=hid y;have HX:=hid F;clear F y b2 b3 b1;go_wp2_with fail
   refine Zb (L:=L) [some (.pointer (some ⟨gw,0,none⟩)),some (.pointer (some ⟨g,0,none⟩)),some (.pointer (some ⟨g,0,none⟩)),some (.pointer (some ⟨g,6,none⟩)),some (.slice dv.r p.R.length dv.rc),some (.pointer (some ⟨g,0,none⟩)),some (.pointer (some ⟨g,0,none⟩)),some (.pointer (some ⟨g,7,none⟩)),some (.slice dv.f p.F.length dv.fc),some (.agg #[.slice dv.f p.F.length dv.fc,.slice none 0 0]),some (.tuple #[])] (fun _ _=>True) (fun ix vx=>match ix with | 10=>(fun _=>[WB gw (B3++PD.layW p.F [] p.R)]) vx | _=>[]) (fun ix=>match ix with | 10=>[WB gw B3] | _=>[]) 11 76
    [some 55,some 56,some 57,some 58,some 59,some 60,some 61,some 62,some 63,some 64,some 65]
    [[],[],[1],[2],[3],[],[5],[6],[7],[8],[0,4,9]]
    [[],[],[1],[1,2],[1,2,3],[],[5],[5,6],[5,6,7],[5,6,7,8],[0,1,2,3,4,5,6,7,8,9]]
    [[],[],[],[],[],[],[],[],[],[],[]] [[],[],[],[],[],[],[],[],[],[],[]] [(0,.pointer (some ⟨g,0,none⟩)),(1,.pointer (some ⟨gw,0,none⟩))]
    (by kernel_rfl) rfl (by decide) (by rfl) (by decide +kernel) rfl rfl (by simp) (HX.out) ?hstep ?hend
   case hstep =>
    refine⟨?p0,⟨?p1,⟨?p2,⟨?p3,⟨?p4,⟨?p5,⟨?p6,⟨?p7,⟨?p8,⟨?p9,⟨?p10,trivial⟩⟩⟩⟩⟩⟩⟩⟩⟩⟩⟩
    case p0 | p1 | p2 | p3 | p5 | p6 | p7 | p9 =>
     intro x wx A d b hF f k H K l;replace l:=hid l;clear f k b;repeat (obtain⟨_,hF⟩:=hF)
     refine so ?_;go_step;exact l.out _ _ rfl H
    case p4 =>
     intro x wx A d b hF f k H K a;have c9:=tq f 3;have l:=hid a;clear a hF f b;have c:=(k _ o.out _ _ H).c6;clear k;refine so ?_;go_step;exact l.out _ _ rfl H
    case p8 =>
     intro x wx A d b hF f k H K a;have d0:=tq f 7;have l:=hid a;clear a hF f b;have c:=(k _ o.out _ _ H).c7;clear k;refine so ?_;go_step;exact l.out _ _ rfl H
    case p10 =>
     intro x wx A d b hF f k H K a;have d2:=tq f 0;have d3:=tq f 4;have d4:=tq f 9;replace H:Sp w0 (_::d) wx:=H;have l:=hid a;clear a hF f b;have n:=hid (k _ o.out);have I:=hid H;clear k H;refine so ?_;go_wp2_with fail
     refine(XW gw B3 dv.r dv.f none p.R.length dv.rc p.F.length dv.fc 0 0 p.R p.F [] I.out (fun w0 w h=>(n.out w0 w h).r) (fun w0 w h=>(n.out w0 w h).f) (fun w0 w h=>Rd.nil) rfl rfl rfl (by omega) (by rw [T.out]; decide) (by decide) (fun x q=>by have:=J.out x q; omega) (fun x q=>by cases q) a9.out (by decide) E.out (by omega)).mono ?_;rintro _ w9 ⟨rfl,H9⟩;exact l.out _ _ rfl H9
   case hend =>
    intro x wx A hA f H;replace H:Sp w0 (_::L) wx:=H;clear f;simp only [putAll,Act.put,List.setIfInBounds_toArray,List.set_cons_succ,List.set_cons_zero,Nat.reduceAdd] at hA;subst hA;obtain⟨B4,C⟩:=exq (B3++PD.layW p.F [] p.R);have b7:=ZP (A:=p.F) (D:=[]) (fun x q=>by have:=J.out x q; omega) (fun x q=>by cases q) p.R E.out;have c6:B4.length<=B.length+30000:=by rw [<- C,List.length_append]; omega
    rw [C] at H;have b8:=hid C;have HY:=hid H;clear H HX C b7;go_wp2_with fail
    refine Zb (L:=L) [some (.pointer (some ⟨gw,0,none⟩)),some (.pointer (some ⟨g,0,none⟩)),some (.pointer (some ⟨g,0,none⟩)),some (.pointer (some ⟨g,2,none⟩)),some (.slice dv.w p.W.length dv.wc),some (.pointer (some ⟨g,0,none⟩)),some (.pointer (some ⟨g,0,none⟩)),some (.pointer (some ⟨g,4,none⟩)),some (.agg #[.slice dv.a p.A.length dv.ac,.slice dv.d p.D.length dv.dc]),some (.tuple #[])] (fun _ _=>True) (fun ix vx=>match ix with | 9=>(fun _=>[WB gw (B4++PD.layW p.A p.D p.W)]) vx | _=>[]) (fun ix=>match ix with | 9=>[WB gw B4] | _=>[]) 10 76
     [some 66,some 67,some 68,some 69,some 70,some 71,some 72,some 73,some 74,some 75]
     [[],[],[1],[2],[3],[],[5],[6],[7],[0,4,8]]
     [[],[],[1],[1,2],[1,2,3],[],[5],[5,6],[5,6,7],[0,1,2,3,4,5,6,7,8]]
     [[],[],[],[],[],[],[],[],[],[]] [[],[],[],[],[],[],[],[],[],[]] [(0,.pointer (some ⟨g,0,none⟩)),(1,.pointer (some ⟨gw,0,none⟩))]
     (by kernel_rfl) rfl (by decide) (by rfl) (by decide +kernel) rfl rfl (by simp) (HY.out) ?hstep ?hend
    case hstep =>
     refine⟨?p0,⟨?p1,⟨?p2,⟨?p3,⟨?p4,⟨?p5,⟨?p6,⟨?p7,⟨?p8,⟨?p9,trivial⟩⟩⟩⟩⟩⟩⟩⟩⟩⟩
     case p0 | p1 | p2 | p3 | p5 | p6 | p7 =>
      intro x wx A d b hF f k H K l;replace l:=hid l;clear f k b;repeat (obtain⟨_,hF⟩:=hF)
      refine so ?_;go_step;exact l.out _ _ rfl H
     case p4 =>
      intro x wx A d b hF f k H K a;have d5:=tq f 3;have l:=hid a;clear a hF f b;have c:=(k _ o.out _ _ H).c2;clear k;refine so ?_;go_step;exact l.out _ _ rfl H
     case p8 =>
      intro x wx A d b hF f k H K a;have d6:=tq f 7;have l:=hid a;clear a hF f b;have c4:=(k _ o.out _ _ H).c4;have c5:=(k _ o.out _ _ H).c5;clear k;refine so ?_;go_step;exact l.out _ _ rfl H
     case p9 =>
      intro x wx A d b hF f k H K a;have d7:=tq f 0;have d8:=tq f 4;have d9:=tq f 8;replace H:Sp w0 (_::d) wx:=H;have l:=hid a;clear a hF f b;have n:=hid (k _ o.out);have I:=hid H;clear k H;refine so ?_;go_wp2_with fail
      refine(XW gw B4 dv.w dv.a dv.d p.W.length dv.wc p.A.length dv.ac p.D.length dv.dc p.W p.A p.D I.out (fun w0 w h=>(n.out w0 w h).w) (fun w0 w h=>(n.out w0 w h).a) (fun w0 w h=>(n.out w0 w h).d) rfl rfl rfl hWl (by rw [V.out]; omega) (by rw [W.out]; omega) HA.out HD.out a6.out a8.out U.out (by omega)).mono ?_;rintro _ w9 ⟨rfl,H9⟩;exact l.out _ _ rfl H9
    case hend =>
     intro x wx A hA f H;replace H:Sp w0 (_::L) wx:=H;clear f;simp only [putAll,Act.put,List.setIfInBounds_toArray,List.set_cons_succ,List.set_cons_zero,Nat.reduceAdd] at hA;subst hA;have HQ:=hid H;clear H HY;go_wp2;go_end0;refine⟨rfl,?_⟩;have h:=HQ.out;rw [<- b8.out,<- b6.out,<- b0.out] at h;simp only [List.append_assoc] at h ⊢;exact h
end Go.Proofs.YteajimobgkempaaGreatDoor

