/- A pack. -/
import Derived.LaidMore
import Derived.Lib.LaidU8
import Derived.ShutString
import Derived.Stop.LaidErr
import Derived.Test.YteajimobgkempaaGreatDoorCards
import Derived.Test.YteajimobgkempaaGreatDoorTie
import Derived.Test.YteajimobgkempaaGreatDoorPk40
set_option linter.all false
set_option maxRecDepth 100000
set_option maxHeartbeats 8000000
namespace Go.Proofs.YteajimobgkempaaGreatDoor
variable {w0 w:World} {L:List Pr}
open Go.ChangeShapes Go.WideShapes Go.ChangeAt Go.RowKit Go.Deep
def stIC (s:StI):List Value:=[.int .i64 s.1,.int .i64 s.2.1,.int .u8 s.2.2.toNat]
def stsI (l:List StI):List Value:=l.flatMap stIC
theorem YG (a b:List StI):stsI (a++b)=stsI a++stsI b:=by simp [stsI]
theorem XZ (l:List StI):(stsI l).length=l.length * 3:=Xm stIC 3 (fun _=>rfl) l
theorem Wp (s:StI):∀u ∈ stIC s,u.oneCell'=true:=by
 intro u a;simp only [stIC,List.mem_cons,List.not_mem_nil,or_false] at a;rcases a with rfl | rfl | rfl <;> rfl
theorem Yo.of_rd {w:World} {V:Option Addr} {X:List StI} (h:Rd w V (stsI X)):Yo w V X:=fun i hi=>by
 have b:stsI X≠[]:=by
  intro e;have:=congrArg List.length e;rw [XZ] at this;simp at this;omega
 obtain⟨f,e,c⟩:=h b;have d:∀j,j<3->(stsI X)[i * 3+j]?=(stIC X[i])[j]?:=fun j hj=>by
  obtain⟨p,a,g⟩:=Xl stIC 3 (fun _=>rfl) X i j hj hi;rw [List.getElem?_eq_getElem hi] at a;injection a with a
  rw [a]; exact g
 refine⟨f,e,?_,?_,?_⟩
 ·have:=c (i * 3+0) _ (d 0 (by decide));simpa using this
 ·have:=c (i * 3+1) _ (d 1 (by decide));rw [<- Go.Addr.add_add] at this;exact this
 ·have:=c (i * 3+2) _ (d 2 (by decide));rw [<- Go.Addr.add_add] at this;exact this
theorem Sp.stI (H:Sp w0 L w) (k:Nat) {e:TypeId} {n c:Nat} {V:Option Addr} {X:List StI} (hk:L[k]?=some (Row e 3 (.slice V n c) n (stsI X))):Yo w V X:=by
 obtain⟨A,b,e,a,_⟩:=H.row_rd k hk;injection e with e
 subst e;exact .of_rd a
def fewL (X:List StI):List StI:=(X.take 700).filter fun s=>decide (s.1<=300)
theorem Wq (X:List StI):(fewL X).length<=700:=by
 unfold fewL;have:=List.length_filter_le (fun s:StI=>decide (s.1<=300)) (X.take 700);rw [List.length_take] at this;omega
theorem VH (X:List StI) (i:Nat) (h:i<X.length):fewL (X.take (i+1))=fewL (X.take i)++(if i<700/\X[i].1<=300 then [X[i]] else []):=by
 unfold fewL;by_cases b:i<700
 ·rw [List.take_take,List.take_take,Nat.min_eq_right (by omega),Nat.min_eq_right (by omega),List.take_add_one,List.getElem?_eq_getElem h];simp only [Option.toList_some,List.filter_append];congr 1;by_cases a:X[i].1<=300
  ·rw [if_pos ⟨b,a⟩]; simp [a]
  ·rw [if_neg (fun q=>a q.2)]; simp [a]
 ·rw [if_neg (fun q=>b q.1),List.append_nil,List.take_take,List.take_take,Nat.min_eq_left (by omega),Nat.min_eq_left (by omega)]
theorem Ta (V:Option Addr) (n c:Nat) (X:List StI) (H:Sp w0 L w) (hn:n=X.length) (hc:n<=c) (hcm:c<=maxLen) (h:Ent L (fun w=>Yo w V X)) :
  Calls Tryz.prog 5 #[.slice V n c] w (Ret fun v w'=>Sp w0 (Row 54 3 v (fewL X).length (stsI (fewL X))::L) w'):=by
 obtain⟨R,S,u,A,B⟩:=info_parts infoSM;have J:=hid hn;have T:=hid h;have U:n<=9223372036854775807:=Nat.le_trans hc hcm;clear hn h hc hcm;go_enter Tryz.func5,Tryz.ntmps5
 go_wp2_with fail
 have K:=H.rowNil 54 3;have g:=hid K;clear H K;go_loopw [3,8] (fun ov iv wr=>∃(i k:Nat) (O:Option Addr) (oc:Nat),iv=.int .i64 i/\i<=n/\ov=.slice O k oc/\k=(fewL (X.take i)).length/\Sp w0 (Row 54 3 (.slice O k oc) k (stsI (fewL (X.take i)))::L) wr) (fun _ iv _=>n - (intOf iv).toNat)
 case atStart=>exact⟨0,0,none,0,rfl,Nat.zero_le _,rfl,rfl,g.out⟩
 case round =>
  obtain⟨i,k,O,oc,rfl,W,rfl,t,f⟩:=hrel;clear g;have Y:k<=700:=by rw [t]; exact Wq _
  have j:=hid t;by_cases C:i<n
  ·have Z:(i:Int)<(n:Int):=by omega
   have l:i<X.length:=by rw [<- J.out]; exact C
   obtain⟨ad,rfl,p0,p1,p2⟩:=T.out _ _ f.tail i l;have a:=VH X i l;obtain⟨x,D⟩:=exq (X[i].1);obtain⟨y,E⟩:=exq (X[i].2.1);obtain⟨z,F⟩:=exq (X[i].2.2);have m:X[i]=(x,y,z):=by rw [<- D,<- E,<- F]
   rw [D] at p0 a;rw [E] at p1;rw [F] at p2;rw [m] at a;have b:=hid a;have M:=f.newBk [.int .i64 x,.int .i64 y,.int .u8 z.toNat] 54;have d:=hid M;clear a D E F m f M t;by_cases N:i<700
   ·have k2:(i:Int)<700:=by omega
    by_cases G:x<=300
    ·have o:(wr.alloc (.cells #[.int .i64 x,.int .i64 y,.int .u8 z.toNat] 54)).heap.size=wr.heap.size+1:=Array.size_push _;have p:Rd ((wr.alloc (.cells #[.int .i64 x,.int .i64 y,.int .u8 z.toNat] 54)).alloc (.cells #[.int .i64 x,.int .i64 y,.int .u8 z.toNat] 54)) (some ⟨wr.heap.size+1,0,none⟩) (stIC (x,y,z)):=by
      have:=Rd.of_blk (Blk.new (wr.alloc (.cells #[.int .i64 x,.int .i64 y,.int .u8 z.toNat] 54)) 54 [.int .i64 x,.int .i64 y,.int .u8 z.toNat])
      rwa [o] at this
     have r:=hid p;have P:=(d.out.pick 2 [1,0]).alloc (.cells #[.int .i64 x,.int .i64 y,.int .u8 z.toNat] 54);have s:=hid P;clear p P o;go_wp2_with (at_builtin; refine wpList_append_sp rfl _ _ 22 rfl 54 R (.agg #[.int .i64 0,.int .i64 0,.int .u8 0]) 3 24 Tryz.underlying22 S u A B rfl (by decide) (.slice O k oc) k (stsI (fewL (X.take i))) rfl s.out (some ⟨wr.heap.size+1,0,none⟩) 1 1 (stIC (x,y,z)) rfl rfl r.out (Wp _) (by unfold maxLen; omega) (by omega) ?_)
     intro v5 w5 Q _;clear s r d;obtain⟨V5,c5,rfl,_,_⟩:=Row.form Q 0 rfl;go_wp2_with fail
     go_roundw
     case rel =>
      rw [if_pos ⟨N,G⟩] at b;have e9:stsI (fewL (X.take (i+1)))=stsI (fewL (X.take i))++stIC (x,y,z):=by
       rw [b.out,YG]; simp [stsI]
      refine⟨i+1,k+1,V5,c5,by go_num,by omega,rfl,by rw [b.out,List.length_append,List.length_singleton,<- j.out],?_⟩;rw [e9];exact Q.pick 2 [0]
     case measure=>first | (simp [intOf]; omega) | simp [intOf]
    ·have k3:¬ x<=300:=G;go_wp2_with fail
     go_roundw
     case rel =>
      rw [if_neg (fun q=>G q.2),List.append_nil] at b;exact⟨i+1,k,O,oc,by go_num,by omega,rfl,by rw [b.out]; exact j.out,by rw [b.out]; exact d.out.tail⟩
     case measure=>first | (simp [intOf]; omega) | simp [intOf]
   ·have k2:¬ (i:Int)<700:=by omega
    have k3:decide ((i:Int)<700)=false:=by simp; omega
    go_wp2_with fail
    go_roundw
    case rel =>
     rw [if_neg (fun q=>N q.1),List.append_nil] at b;exact⟨i+1,k,O,oc,by go_num,by omega,rfl,by rw [b.out]; exact j.out,by rw [b.out]; exact d.out.tail⟩
    case measure=>first | (simp [intOf]; omega) | simp [intOf]
  ·have Z:¬ (i:Int)<(n:Int):=by omega
   obtain rfl:i=n:=by omega
   have e:X.take i=X:=List.take_of_length_le (by rw [<- J.out]; exact Nat.le_refl _);rw [e] at j f;have I:=hid f;clear f t e;go_wp2_with fail
   go_ret;rw [<- j.out];exact⟨_,rfl,I.out⟩
theorem Tb {H:Type} {enc:TypeId × Value->H} {P:Program} {w:World} {base:Nat} {held:Bool} {e:TypeId} {f0 f1 f2:Field} (he:P.underlying e=some (.struct #[f0,f1,f2])) (hone:oneCellFields P #[f0,f1,f2]=true) (h0:P.underlying f0.type=some (.int .i64)) (h1:P.underlying f1.type=some (.int .i64)) (h2:P.underlying f2.type=some (.int .u8))
  (n:Nat) (cs:List Value) (y:DataW H × List MemPlace) (hl:cs.length=3) (h:DataW.trod enc P w base (fun _=>true) held n e cs=some y):∃p:StI,cs=stIC p/\True:=by
 obtain⟨s,m,_,rfl,_,c,j⟩:=DataW.trod_struct he h
 match cs,hl,s,c with
 | [c0,c1,c2],_,[y0,y1,y2],_ =>
  have f:=j 0 f0 rfl;have g:=j 1 f1 rfl;have i:=j 2 f2 rfl;obtain⟨t,u⟩:=hone_of hone 0 f0 rfl;obtain⟨v,x⟩:=hone_of hone 1 f1 rfl;obtain⟨z,A⟩:=hone_of hone 2 f2 rfl;rw [t,u] at f;rw [v,x] at g;rw [z,A] at i;replace f:DataW.trod enc P w base (fun _=>true) held m f0.type [c0]=some y0:=f;replace g:DataW.trod enc P w base (fun _=>true) held m f1.type [c1]=some y1:=g;replace i:DataW.trod enc P w base (fun _=>true) held m f2.type [c2]=some y2:=i;obtain⟨a,k,_,B⟩:=DataW.trod_int h0 f;obtain⟨b,l,_,C⟩:=DataW.trod_int h1 g;obtain⟨d,o,_,wd⟩:=DataW.trod_int h2 i;replace k:c0=.int .i64 a:=by simpa using k
  replace l:c1=.int .i64 b:=by simpa using l
  replace o:c2=.int .u8 d:=by simpa using o
  subst k l o;have q:=bounds_u8 wd;obtain⟨r,rfl⟩:=Int.eq_ofNat_of_zero_le q.1;have D:r < 256:=by have:=q.2; omega
  refine⟨(a,b,UInt8.ofNat r),?_,trivial⟩;unfold stIC;simp only;rw [UInt8.toNat_ofNat',Nat.mod_eq_of_lt (by omega)]
open Go.RowKit
theorem Tm (m:Nat) (w:World) (a b c:Int):(Op.equalIn (m+1+1) 34 (.agg #[.int .i64 a,.int .i64 b,.int .i64 c]) (.agg #[.int .i64 a,.int .i64 b,.int .i64 c])).run Tryz.prog w=.ok true w:=by
 have e:=Tryz.underlying34;have f:=Tryz.underlying3;have d:Tryz.prog.plainKey 3=true:=by kernel_rfl
 obtain⟨i,g⟩:∃i,Tryz.prog.info? 3=some i:=⟨_,rfl⟩;have h:Tryz.prog.cellsOf 3=1:=by kernel_rfl
 have k:∀x y:Int,(Op.equalIn (m+1) 3 (.int .i64 x) (.int .i64 y)).run Tryz.prog w=.ok (x == y) w:=fun x y=>by simp [Op.equalIn,run_underlying f]
 have j:=run_part_plain (P:=Tryz.prog) (w:=w) d (xs:=#[.int .i64 a,.int .i64 b,.int .i64 c]) (off:=0) rfl;have l:=run_part_plain (P:=Tryz.prog) (w:=w) d (xs:=#[.int .i64 a,.int .i64 b,.int .i64 c]) (off:=1) rfl;have n:=run_part_plain (P:=Tryz.prog) (w:=w) d (xs:=#[.int .i64 a,.int .i64 b,.int .i64 c]) (off:=2) rfl;rw [Op.equalIn];simp only [Sem.run_bind,run_underlying e,Result.andThen_ok,run_sizeOf (P:=Tryz.prog) w g,h];have o:List.range' 0 3 1=[0,1,2]:=rfl;simp only [Std.Legacy.Range.forIn_eq_forIn_range',Std.Legacy.Range.size,Nat.sub_zero,Nat.add_sub_cancel,Nat.div_one,Nat.mul_one];simp only [show(3+1 - 1)=3 from rfl,o,List.forIn_cons,List.forIn_nil,Sem.run_bind,j,l,n,Result.andThen_ok];simp only [List.getElem_toArray,List.getElem_cons_zero,List.getElem_cons_succ,k,Result.andThen_ok];simp [go_sem]
theorem Tn (w:World) (a b c:Int):(binOp .eql 34 (.agg #[.int .i64 a,.int .i64 b,.int .i64 c]) (.agg #[.int .i64 a,.int .i64 b,.int .i64 c])).run Tryz.prog w=.ok (.bool true) w:=by
 have h:=Tm 9998 w a b c;rw [show(9998+1+1:Nat)=10000 from rfl] at h;simp only [binOp];simp [Op.equal,Op.maxDepth,h]
theorem VJ (w:World) (x y:Operand) (xs ys:Array Value):(eqGuard .eql 34 x y (.agg xs) (.agg ys)).run Tryz.prog w=.ok () w:=by
 have a:Tryz.prog.eqGuardType Tryz.prog.depth 34=false:=by kernel_rfl
 simp [eqGuard,run_program,a]
theorem To (m:Nat) (w:World) (a b c d e f:Int):(Op.equalIn (m+1+1) 40 (.agg #[.int .i64 a,.int .i64 b,.int .i64 c,.int .i64 d,.int .i64 e,.int .i64 f]) (.agg #[.int .i64 a,.int .i64 b,.int .i64 c,.int .i64 d,.int .i64 e,.int .i64 f])).run Tryz.prog w=.ok true w:=by
 have h:=Tryz.underlying40;have j:=Tryz.underlying3;have g:Tryz.prog.plainKey 3=true:=by kernel_rfl
 obtain⟨i,l⟩:∃i,Tryz.prog.info? 3=some i:=⟨_,rfl⟩;have n:Tryz.prog.cellsOf 3=1:=by kernel_rfl
 have k:∀x y:Int,(Op.equalIn (m+1) 3 (.int .i64 x) (.int .i64 y)).run Tryz.prog w=.ok (x == y) w:=fun x y=>by simp [Op.equalIn,run_underlying j]
 have o:=run_part_plain (P:=Tryz.prog) (w:=w) g (xs:=#[.int .i64 a,.int .i64 b,.int .i64 c,.int .i64 d,.int .i64 e,.int .i64 f]) (off:=0) rfl;have p:=run_part_plain (P:=Tryz.prog) (w:=w) g (xs:=#[.int .i64 a,.int .i64 b,.int .i64 c,.int .i64 d,.int .i64 e,.int .i64 f]) (off:=1) rfl;have q:=run_part_plain (P:=Tryz.prog) (w:=w) g (xs:=#[.int .i64 a,.int .i64 b,.int .i64 c,.int .i64 d,.int .i64 e,.int .i64 f]) (off:=2) rfl;have r:=run_part_plain (P:=Tryz.prog) (w:=w) g (xs:=#[.int .i64 a,.int .i64 b,.int .i64 c,.int .i64 d,.int .i64 e,.int .i64 f]) (off:=3) rfl;have s:=run_part_plain (P:=Tryz.prog) (w:=w) g (xs:=#[.int .i64 a,.int .i64 b,.int .i64 c,.int .i64 d,.int .i64 e,.int .i64 f]) (off:=4) rfl;have t:=run_part_plain (P:=Tryz.prog) (w:=w) g (xs:=#[.int .i64 a,.int .i64 b,.int .i64 c,.int .i64 d,.int .i64 e,.int .i64 f]) (off:=5) rfl;rw [Op.equalIn];simp only [Sem.run_bind,run_underlying h,Result.andThen_ok,run_sizeOf (P:=Tryz.prog) w l,n];have u:List.range' 0 6 1=[0,1,2,3,4,5]:=rfl;simp only [Std.Legacy.Range.forIn_eq_forIn_range',Std.Legacy.Range.size,Nat.sub_zero,Nat.add_sub_cancel,Nat.div_one,Nat.mul_one];simp only [show(6+1 - 1)=6 from rfl,u,List.forIn_cons,List.forIn_nil,Sem.run_bind,o,p,q,r,s,t,Result.andThen_ok];simp only [List.getElem_toArray,List.getElem_cons_zero,List.getElem_cons_succ,k,Result.andThen_ok];simp [go_sem]
theorem Tp (w:World) (a b c d e f:Int):(binOp .eql 40 (.agg #[.int .i64 a,.int .i64 b,.int .i64 c,.int .i64 d,.int .i64 e,.int .i64 f]) (.agg #[.int .i64 a,.int .i64 b,.int .i64 c,.int .i64 d,.int .i64 e,.int .i64 f])).run Tryz.prog w=.ok (.bool true) w:=by
 have h:=To 9998 w a b c d e f;rw [show(9998+1+1:Nat)=10000 from rfl] at h;simp only [binOp];simp [Op.equal,Op.maxDepth,h]
theorem VK (w:World) (x y:Operand) (xs ys:Array Value):(eqGuard .eql 40 x y (.agg xs) (.agg ys)).run Tryz.prog w=.ok () w:=by
 have a:Tryz.prog.eqGuardType Tryz.prog.depth 40=false:=by kernel_rfl
 simp [eqGuard,run_program,a]
theorem UC (V:Option Addr) (n c:Nat) (X:List StI) (H:Sp w0 L w) (hn:n=X.length) (hnm:n<=1000) (h:Ent L (fun w=>Yo w V X)) :
  Calls Tryz.prog 8 #[.slice V n c] w (Ret fun v w'=>Sp w0 (Row 57 3 v n (stsI X)::L) w'):=by
 obtain⟨D,E,m,o,p⟩:=info_parts infoRS;have B:=hid hn;have F:=hid h;clear hn h;go_enter Tryz.func8,Tryz.ntmps8
 go_wp2_with fail
 have a:=hid (H.rowNil 57 3);clear H;go_loopw [3,8] (fun ov iv wr=>∃(i:Nat) (O:Option Addr) (oc:Nat),iv=.int .i64 i/\i<=n/\ov=.slice O i oc/\Sp w0 (Row 57 3 (.slice O i oc) i (stsI (X.take i))::L) wr) (fun _ iv _=>n - (intOf iv).toNat)
 case atStart=>exact⟨0,none,0,rfl,Nat.zero_le _,rfl,a.out⟩
 case round =>
  obtain⟨i,O,oc,rfl,G,rfl,b⟩:=hrel;clear a;by_cases q:i<n
  ·have I:(i:Int)<(n:Int):=by omega
   have d:i<X.length:=by rw [<- B.out]; exact q
   obtain⟨R,rfl,J,K,M⟩:=F.out _ _ b.tail i d;obtain⟨x,r⟩:=exq (X[i].1);obtain⟨y,s⟩:=exq (X[i].2.1);obtain⟨z,t⟩:=exq (X[i].2.2);have f:X[i]=(x,y,z):=by rw [<- r,<- s,<- t]
   rw [r] at J;rw [s] at K;rw [t] at M;have N:Hid (stsI (X.take (i+1))=stsI (X.take i)++stIC (x,y,z)):=hid (by
    rw [List.take_succ_eq_append_getElem d,YG,f]; simp [stsI])
   have g:(wr.alloc (.cells #[.int .i64 x,.int .i64 y,.int .u8 z.toNat] 54)).heap.size=wr.heap.size+1:=Array.size_push _;have j:Rd ((wr.alloc (.cells #[.int .i64 x,.int .i64 y,.int .u8 z.toNat] 54)).alloc (.cells #[.int .i64 x,.int .i64 y,.int .u8 z.toNat] 57)) (some ⟨wr.heap.size+1,0,none⟩) (stIC (x,y,z)):=by
    have:=Rd.of_blk (Blk.new (wr.alloc (.cells #[.int .i64 x,.int .i64 y,.int .u8 z.toNat] 54)) 57 [.int .i64 x,.int .i64 y,.int .u8 z.toNat])
    rwa [g] at this
   have k:=hid j;have C:=((b.newBk [.int .i64 x,.int .i64 y,.int .u8 z.toNat] 54).pick 2 [1,0]).alloc (.cells #[.int .i64 x,.int .i64 y,.int .u8 z.toNat] 57);have l:=hid C;clear j C g r s t f b;go_wp2_with (at_builtin; refine wpList_append_sp rfl _ _ 30 rfl 57 D (.agg #[.int .i64 0,.int .i64 0,.int .u8 0]) 3 24 Tryz.underlying30 E m o p rfl (by decide) (.slice O i oc) i (stsI (X.take i)) rfl l.out (some ⟨wr.heap.size+1,0,none⟩) 1 1 (stIC (x,y,z)) rfl rfl k.out (Wp _) (by unfold maxLen; omega) (by omega) ?_)
   intro S T u _;clear l k;obtain⟨P,Q,rfl,_,_⟩:=Row.form u 0 rfl;have A:=hid (u.pick 2 [0]);clear u;go_wp2_with fail
   go_roundw
   case rel =>
    refine⟨i+1,P,Q,by go_num,by omega,rfl,?_⟩;rw [N.out];exact A.out
   case measure=>first | (simp [intOf]; omega) | simp [intOf]
  ·have I:¬ (i:Int)<(n:Int):=by omega
   obtain rfl:i=n:=by omega
   have e:X.take i=X:=List.take_of_length_le (by rw [<- B.out]; exact Nat.le_refl _);rw [e] at b;clear e;go_wp2_with fail
   go_ret;exact⟨_,rfl,b⟩
/-! Steps and Sizes, whether they may be or not. -/
def stD7 (X:List StI):List UInt8:=if mayI X 0=true then PD.stream (X.map PD.toN) (PM.expand (X.map PD.toN) []) else []
def erD7 (X:List StI):Int:=if mayI X 0=true then 0 else 1
def szD7 (X:List StI):Int × Int × Int:=if mayI X 0=true then (max (PD.sto (PM.size (X.map PD.toN)) 0) 0,(PD.fixN (X.map PD.toN):Int),(PD.dynN (X.map PD.toN):Int)) else (0,0,0)
section
variable (V:Option Addr) (n c:Nat) (X:List StI) {TL TF:Option Addr} {cl cf:Nat} {w0 w:World} {L:List Pr}
theorem WR (H:Sp w0 L w) (hT:Ent L (DTabs TL TF cl cf)) (hn:n=X.length) (hnm:n<=1000) (hc:n<=c) (hcm:c<=maxLen) (h:Ent L fun w=>Yo w V X) :
  Calls Tryz.prog 6 #[.slice V n c] w fun e w'=>∃v,e=.returned (.tuple #[v,.int .i64 (erD7 X)])/\Sp w0 (Row 5 1 v (stD7 X).length (cells8 (stD7 X))::L) w':=by
 unfold stD7 erD7;cases hm:mayI X 0 with
 | true =>
  obtain⟨b,a⟩:=PD.toN_of X 0 hm;rw [if_pos rfl,if_pos rfl];exact Vx V n c (X.map PD.toN) H hT (by rw [List.length_map]; exact hn) (by omega) hc hcm (fun w0 w q=>Xp b (h _ _ q)) a
 | false =>
  rw [if_neg (by decide),if_neg (by decide)];exact(WO V n c X H hn (by omega) h hm).mono fun e w' ⟨h1,h2⟩=>⟨_,h1,h2.rowNil _ _⟩
theorem WS (H:Sp w0 L w) (hn:n=X.length) (hnm:n<=1000) (hc:n<=c) (hcm:c<=maxLen) (h:Ent L fun w=>Yo w V X) :
  Calls Tryz.prog 7 #[.slice V n c] w fun e w'=>∃v,e=.returned (.tuple #[v,.int .i64 (erD7 X)])/\Sp w0 (Row 5 1 v (stD7 X).length (cells8 (stD7 X))::L) w':=by
 refine(VC V n c X H hn hnm hc hcm h).mono fun e w' q=>?_;unfold stD7 erD7;rcases q with ⟨h1,v,h2,h3⟩ | ⟨h1,h2,h3⟩
 ·rw [if_pos h1,if_pos h1]; exact⟨v,h2,h3⟩
 ·rw [if_neg (by rw [h1]; decide),if_neg (by rw [h1]; decide)]; exact⟨_,h2,h3.rowNil _ _⟩
theorem WT (H:Sp w0 L w) (hT:Ent L (DTabs TL TF cl cf)) (hn:n=X.length) (hnm:n<=1000) (h:Ent L fun w=>Yo w V X) :
  Calls Tryz.prog 9 #[.slice V n c] w fun e w'=>e=.returned (.tuple #[.int .i64 (szD7 X).1,.int .i64 (szD7 X).2.1,.int .i64 (szD7 X).2.2,.int .i64 (erD7 X)])/\Sp w0 L w':=by
 unfold szD7 erD7;cases hm:mayI X 0 with
 | true =>
  obtain⟨b,a⟩:=PD.toN_of X 0 hm;rw [if_pos rfl,if_pos rfl];exact WP V n c (X.map PD.toN) H hT (by rw [List.length_map]; exact hn) (by omega) (fun w0 w q=>Xp b (h _ _ q)) a
 | false =>
  rw [if_neg (by decide),if_neg (by decide)];exact XY V n c X H hn (by omega) h hm
theorem WU (H:Sp w0 L w) (hn:n=X.length) (hnm:n<=1000) (h:Ent L fun w=>Yo w V X) :
  Calls Tryz.prog 10 #[.slice V n c] w fun e w'=>e=.returned (.tuple #[.agg #[.int .i64 (szD7 X).1,.int .i64 (szD7 X).2.1,.int .i64 (szD7 X).2.2],.int .i64 (erD7 X)])/\Sp w0 L w':=by
 refine(VE V n c X H hn hnm h).mono fun e w' q=>?_;unfold szD7 erD7;obtain⟨f,g,i,j,b,d,⟨a,rfl,rfl,rfl,rfl⟩ | ⟨a,rfl,rfl,rfl,rfl⟩⟩:=q
 ·rw [if_pos a,if_pos a]; exact⟨b,d⟩
 ·rw [if_neg (by rw [a]; decide),if_neg (by rw [a]; decide)]; exact⟨b,d⟩
end
theorem Tq (V:Option Addr) (n c:Nat) (X:List StI) (x:Int) (DL DF:Option Addr) (dl df:Nat) (H:Sp w0 L w) (hD:Ent L (DTabs DL DF dl df)) (hn:n=X.length) (hc:n<=c) (hcm:c<=maxLen) (h:Ent L fun w=>Yo w V X) :
  Calls Tryz.prog 3 #[.slice V n c,.int .i64 x] w fun e w'=>e=.returned (.bool true)/\Sp w0 L w':=by
 have l:=hid hD;have K:=hid (Ta V n c X H hn hc hcm h);obtain⟨Z,P⟩:=exq (fewL X);have Q:Z.length<=700:=by rw [<- P]; exact Wq X
 rw [P] at K;obtain⟨k,R⟩:=exq Z.length;rw [R] at K Q;have j:=hid R;obtain⟨D,m⟩:=exq (stD7 Z);have o:=hid m;obtain⟨er,p⟩:=exq (erD7 Z);have d:=hid p;obtain⟨s0,r⟩:=exq ((szD7 Z).1);obtain⟨s1,s⟩:=exq ((szD7 Z).2.1);obtain⟨s2,t⟩:=exq ((szD7 Z).2.2);have u:=hid r;have v:=hid s;have y:=hid t;obtain⟨p0,z⟩:=exq (PD.longI x);obtain⟨q0,A⟩:=exq (PD.farI x);have B:=hid z;have C:=hid A;obtain⟨p1,p2,p3⟩:=p0;obtain⟨q1,q2,q3⟩:=q0;clear hD hn hc hcm h H P R m p r s t z A;have a1:=Tn;have a2:=VJ;have a3:=Tp;have a4:=VK;go_enter Tryz.func3,Tryz.ntmps3
 go_wp2_with fail
 refine K.out.mono ?_;rintro _ w1 ⟨v1,rfl,S⟩;obtain⟨M,N,rfl,h1,h2⟩:=Row.form S 0 rfl;have T:=hid (WR M k N Z S (fun w0 w q=>l.out _ _ q.tail) j.out.symm (by omega) h1 h2 (fun w0 w q=>q.stI 0 rfl));rw [o.out,d.out] at T;clear K S;go_wp2_with fail
 refine T.out.mono ?_;rintro _ w2 ⟨v2,rfl,O⟩;obtain⟨a5,f⟩:=exq D.length;rw [f] at O;have g:=hid f;obtain⟨V2,c2,rfl,_,_⟩:=Row.form O 0 rfl;have E:=hid (UC M k N Z O j.out.symm (by omega) (fun w0 w q=>q.stI 1 rfl));clear T O f;go_wp2_with fail
 refine E.out.mono ?_;rintro _ w3 ⟨v3,rfl,U⟩;obtain⟨V3,c3,rfl,h3,h4⟩:=Row.form U 0 rfl;have i:=hid (WS V3 k c3 Z U j.out.symm (by omega) h3 h4 (fun w0 w q=>q.stI 0 rfl));rw [o.out,d.out,g.out] at i;clear E U;go_wp2_with fail
 refine i.out.mono ?_;rintro _ w4 ⟨v4,rfl,W⟩;obtain⟨V4,c4,rfl,_,_⟩:=Row.form W 0 rfl;have F:=W.pick 4 [0,2,3];have Y:=hid (WT M k N Z F (fun w0 w q=>l.out _ _ (q.pick 3 [])) j.out.symm (by omega) (fun w0 w q=>q.stI 2 rfl));rw [d.out,u.out,v.out,y.out] at Y;clear i W F;go_wp2_with fail
 refine Y.out.mono ?_;rintro _ w5 ⟨rfl,F⟩;have E:=hid (UC M k N Z F j.out.symm (by omega) (fun w0 w q=>q.stI 2 rfl));clear Y F;go_wp2_with fail
 refine E.out.mono ?_;rintro _ w6 ⟨v6,rfl,H6⟩;obtain⟨V6,c6,rfl,_,_⟩:=Row.form H6 0 rfl;have i:=hid (WU V6 k c6 Z H6 j.out.symm (by omega) (fun w0 w q=>q.stI 0 rfl));rw [d.out,u.out,v.out,y.out] at i;clear E H6;go_wp2_with fail
 refine i.out.mono ?_;rintro _ w7 ⟨rfl,H7⟩;have G:=(H7.pick 4 [1,2]).newBk [.int .i64 s0,.int .i64 s1,.int .i64 s2] 34;have b:=hid (Y8 x G (fun w0 w q=>l.out _ _ (q.pick 3 [])));rw [B.out] at b;clear i H7 G;go_wp2_with fail
 refine b.out.mono ?_;rintro _ w8 ⟨rfl,G⟩;have b:=hid (Y9 x G);rw [B.out] at b;clear G;go_wp2_with fail
 refine b.out.mono ?_;rintro _ w9 ⟨rfl,H9⟩;have b:=hid (Vj x H9 (fun w0 w q=>l.out _ _ (q.pick 3 [])));rw [C.out] at b;clear H9;go_wp2_with fail
 refine b.out.mono ?_;rintro _ a6 ⟨rfl,I⟩;have b:=hid (XQ x I);rw [C.out] at b;clear I;go_wp2_with fail
 refine b.out.mono ?_;rintro _ a7 ⟨rfl,a⟩;have HE:=hid (Y3 (ZX a 2 rfl g.out.symm) (ZX a 1 rfl g.out.symm));rw [show(D == D)=true by simp] at HE;have t0:=a.cell 0 rfl 0;have t1:=a.cell 0 rfl 1;have t2:=a.cell 0 rfl 2;simp only [List.getElem?_cons_zero,List.getElem?_cons_succ] at t0 t1 t2;have J:=hid (VG DL DF dl df (a.pick 3 []) l.out);clear b a;go_wp2_with fail
 refine HE.out.mono ?_;rintro _ _ ⟨rfl,rfl⟩;clear HE;go_wp2_with fail
 refine J.out.mono ?_;rintro _ a8 ⟨rfl,a0⟩;clear J;go_wp2_with fail
 go_ret;exact⟨rfl,a0⟩
theorem Tc (V:Option Addr) (n c:Nat) (X:List StI) (x:Int) {W:World} (hD:∃DL DF dl df,DTabs DL DF dl df W) (hn:n=X.length) (hc:n<=c) (hcm:c<=maxLen) (h:Rd W V (stsI X)) :
  Calls Tryz.prog 3 #[.slice V n c,.int .i64 x] W fun e w'=>e=.returned (.bool true)/\Sp W [Same W] w':=by
 obtain⟨DL,DF,dl,df,hD⟩:=hD;exact Tq V n c X x DL DF dl df (Sp.start W) (Ent.of_same 0 rfl fun _ hs=>hD.heap hs) hn hc hcm fun w0 w h2=>.of_rd ((h.same 0 rfl) w0 w h2)
open Go.ChangeShapes Go.WideShapes Go.ChangeAt Go.RowKit Go.Lib
def pairData (l:List (Nat × Nat)):DataW Unit:=.slice (l.map fun x=>.agg [.lit (.int .i64 x.1),.lit (.int .i64 x.2)]) []
theorem Z1 {P:Program} {w:World} {name:String} {g:Nat} {t e:TypeId} {f0 f1:Field} {l:List (Nat × Nat)} (hn:P.globalNamed name=some g) (hy:(P.globals[g]?).map (·.type)=some t)
  (ht:P.underlying t=some (.slice e)) (he:P.underlying e=some (.struct #[f0,f1])) (hc:P.cellsOf e=2) (h0:P.underlying f0.type=some (.int .i64)) (h1:P.underlying f1.type=some (.int .i64))
  (hf0:f0.offset=0/\P.cellsOf f0.type=1) (hf1:f1.offset=1/\P.cellsOf f1.type=1) (hl:0<l.length) (h:VarReads P w name (pairData l)) :
  ∃A c,w.cell? ⟨g,0,none⟩=some (.slice A l.length c)/\Rd w A (cellsP l):=by
 obtain⟨g',t',cs,L,p,M,C,s,X⟩:=h;obtain rfl:=Option.some.inj (hn.symm.trans M);obtain rfl:=Option.some.inj (hy.symm.trans C);rcases DataW.trod_slice ht X with ⟨_,hx⟩ | ⟨a,len,cap,el,rs,m,rfl,hcs,hx,_,hlc,_,hel,helem,hsp,_⟩
 ·cases hx
 have N:=congrArg Prod.fst hx;simp only [pairData,DataW.slice.injEq] at N;obtain⟨O,eR⟩:=N;have v:len=l.length:=by
  have:=congrArg List.length O;simp at this;omega
 have k:∀i,i<l.length->w.cell? (a.add (i * 2))=some (.int .i64 ((l.getD i (0,0)).1:Nat))/\w.cell? (a.add (i * 2+1))=some (.int .i64 ((l.getD i (0,0)).2:Nat)):=by
  intro i Q;have D:=helem i (by omega);rw [hc] at D;obtain⟨b,S⟩:∃b,el[i]?=some b:=⟨el[i]'(by omega),List.getElem?_eq_getElem (by omega)⟩;rw [S] at D;obtain⟨Y,E,F⟩:=Option.bind_eq_some_iff.1 D;obtain⟨Z,n,_,G,x,q,T⟩:=DataW.trod_struct he F;have r:b.1=.agg [.lit (.int .i64 ((l.getD i (0,0)).1:Nat)),.lit (.int .i64 ((l.getD i (0,0)).2:Nat))]:=by
   have:=congrArg (·[i]?) O;simp [S,Q,List.getD] at this;have e2:l.getD i (0,0)=l[i]:=by simp [List.getD,List.getElem?_eq_getElem Q]
   rw [e2];exact this.symm
  rw [hc] at x;obtain⟨_,_,y⟩:=World.cells?_some E
  match Y,x,Z,q with
  | [c0,c1],_,[y0,y1],_ =>
   have z:=T 0 f0 rfl;have B:=T 1 f1 rfl;rw [hf0.1,hf0.2] at z;rw [hf1.1,hf1.2] at B;replace z:DataW.trod _ P w 0 (fun _=>true) false n f0.type [c0]=some y0:=z;replace B:DataW.trod _ P w 0 (fun _=>true) false n f1.type [c1]=some y1:=B;obtain⟨z0,H,d0,_⟩:=DataW.trod_int h0 z;obtain⟨z1,I,d1,_⟩:=DataW.trod_int h1 B;rw [G] at r;simp only [List.map_cons,List.map_nil,DataW.agg.injEq,List.cons.injEq,and_true] at r;obtain⟨J,K⟩:=r;rw [d0] at J;rw [d1] at K;simp only [DataW.lit.injEq,Lit.int.injEq,true_and] at J K;replace H:c0=.int .i64 z0:=by simpa using H
   replace I:c1=.int .i64 z1:=by simpa using I
   have U:=y 0 (by simp);have V:=y 1 (by simp);rw [Go.Addr.add_add] at U V;refine⟨?_,?_⟩
   ·rw [<- J,<- H]; simpa using U
   ·rw [<- K,<- I]; simpa using V
 obtain⟨R,o,sR⟩:=a;refine⟨some ⟨R,o,sR⟩,cap,?_,fun _=>⟨_,rfl,fun j u hj=>?_⟩⟩
 ·rw [World.var?_cell M s 0,<- Array.getElem?_toList,hcs,v];rfl
 ·have a2:j<l.length * 2:=by
   have:=(List.getElem?_eq_some_iff.1 hj).1
   rwa [YP] at this
  have d:=Yh l (j / 2) (by omega);have f:=k (j / 2) (by omega);by_cases W:j % 2=0
  ·have e:j / 2 * 2=j:=by omega
   rw [e] at d f;rw [f.1,<- d.1,hj]
  ·have e:j / 2 * 2+1=j:=by omega
   rw [e] at d f;rw [f.2,<- d.2,hj]
def ordZ:List Int:=PI.orderT.map fun n:Nat=>(n:Int)
open Go.ChangeShapes Go.WideShapes Go.ChangeAt Go.RowKit Go.Lib
theorem XM {P:Program} {w:World} {name:String} {k:IntKind} {zs:List Int} {g:Nat} {t e:TypeId} {n:Nat}
  (hg:P.globalNamed name=some g) (hy:(P.globals[g]?).map (·.type)=some t) (ht:P.underlying t=some (.array n e)) (he:P.underlying e=some (.int k)) (hce:P.cellsOf e=1) (hct:P.cellsOf t=n)
  (h:VarReads P w name (Lib.tabData k zs)):Lib.TabIs P w name k zs:=by
 obtain⟨j,l,m,d,p,b,c,a,f⟩:=h;obtain rfl:=Option.some.inj (hg.symm.trans b);obtain rfl:=Option.some.inj (hy.symm.trans c);have i:=Lib.cells_of_tab ht he hce hct f;unfold Lib.TabIs;rw [a,<- i]
theorem gDOrd : Tryz.prog.globalNamed "portolan/deflate.order" = some 2 := by kernel_rfl
theorem tDOrd:(Tryz.prog.globals[2]?).map (·.type)=some 147:=by kernel_rfl
theorem gDLen : Tryz.prog.globalNamed "portolan/deflate.longs" = some 0 := by kernel_rfl
theorem tDLen:(Tryz.prog.globals[0]?).map (·.type)=some 71:=by kernel_rfl
theorem gDAwy : Tryz.prog.globalNamed "portolan/deflate.fars" = some 1 := by kernel_rfl
theorem tDAwy:(Tryz.prog.globals[1]?).map (·.type)=some 71:=by kernel_rfl
theorem YK {W : World} (ho : VarReads Tryz.prog W "portolan/deflate.order" (Lib.tabData .i64 ordZ)) (hl : VarReads Tryz.prog W "portolan/deflate.longs" (pairData PD.longT)) (ha : VarReads Tryz.prog W "portolan/deflate.fars" (pairData PI.awayT)) : ∃ DL DF dl df, DTabs DL DF dl df W := by
 have hT:=XM (k:=.i64) (zs:=ordZ) gDOrd tDOrd Tryz.underlying147 Tryz.underlying3 (by kernel_rfl) (by kernel_rfl) ho;obtain⟨TL,cl,e1,e2⟩:=Z1 gDLen tDLen Tryz.underlying71 Tryz.underlying68 (by kernel_rfl) Tryz.underlying3 Tryz.underlying3 ⟨rfl,by kernel_rfl⟩ ⟨rfl,by kernel_rfl⟩ (by decide) hl;obtain⟨TA,ca,e3,e4⟩:=Z1 gDAwy tDAwy Tryz.underlying71 Tryz.underlying68 (by kernel_rfl) Tryz.underlying3 Tryz.underlying3 ⟨rfl,by kernel_rfl⟩ ⟨rfl,by kernel_rfl⟩ (by decide) ha;refine⟨TL,TA,cl,ca,e1,e2,e3,e4,fun i hi=>?_⟩;have:=hT.cell gDOrd i (by simpa [ordZ,PI.orderT] using hi);rw [this];have:∀i,i<19->ordZ.getD i 0=((PI.orderT.getD i 0:Nat):Int):=by decide
 rw [this i hi]
theorem laid3 {W : World} (h : laidMetH Tryz.prog [("portolan/deflate.order", Rows.laid_portolan_deflate_order), ("portolan/deflate.longs", Rows.laid_portolan_deflate_longs), ("portolan/deflate.fars", Rows.laid_portolan_deflate_fars)] W) : ∃ DL DF dl df, DTabs DL DF dl df W := by
 rw [MakeChecks.laidMetH_plain _ _ _ (by kernel_rfl)] at h;have h0 : VarReads Tryz.prog W "portolan/deflate.order" (Lib.tabData .i64 ordZ) := laidMet.reads h (by simp only [List.mem_cons]; exact .inl rfl)
 have h1 : VarReads Tryz.prog W "portolan/deflate.longs" (pairData PD.longT) := laidMet.reads h (by simp only [List.mem_cons]; exact .inr (.inl rfl))
 have h2 : VarReads Tryz.prog W "portolan/deflate.fars" (pairData PI.awayT) := laidMet.reads h (by simp only [List.mem_cons]; exact .inr (.inr (.inl rfl)))
 exact YK h0 h1 h2
end Go.Proofs.YteajimobgkempaaGreatDoor

namespace Go.Proofs.YteajimobgkempaaGreatDoor.deflateSteps
open Go.ChangeShapes Go.WideShapes Go.ChangeAt Go.RowKit Go.WideMaps Go.WideElems
open Go.ChangeMaps (open_string shut_string)

theorem own:ownKnob Tryz.prog.godebug=none:=by kernel_rfl
theorem laidOut:laidOutB Tryz.prog=true:=by kernel_rfl
def laidL : List (String × DataW Unit) := [("portolan/deflate.order", Rows.laid_portolan_deflate_order), ("portolan/deflate.longs", Rows.laid_portolan_deflate_longs), ("portolan/deflate.fars", Rows.laid_portolan_deflate_fars)]
theorem door_met (os:Os) (args:Array Value):laidMetH Tryz.prog laidL ((World.doorLaid Tryz.prog 4000 os).forCall (fun _ _=>0) ⟨#[],args,[]⟩).memory :=
 laidMetH_of_parts3 (fuel:=10) (laidMet_of_run' 10 (by kernel_rfl) (by kernel_rfl)) (by kernel_rfl) (by kernel_rfl)
theorem lifted (os:Os) (started:os.Started) (H:Type) (enc:TypeId × Value->H) :
  ReturnsInHanded {} Tryz.checked os 3 .any (fun w args=>(Rows.deflateStepsSpec.pre enc Tryz.prog Tryz.f3 [] false w args/\laidMetH Tryz.prog laidL w)/\sizedMet enc Tryz.prog Tryz.f3 (OpenSpec.ofChange Rows.deflateStepsSpec) false w args)
   (Rows.deflateStepsSpec.post enc Tryz.prog Tryz.f3 false true false false):=by
 refine returnsInHanded_of_change_and (C:=Tryz.checked) (X:=fun w _=>laidMetH Tryz.prog laidL w) (fun _ _ _ hh h=>h.of_heap hh) own started (by kernel_rfl) Tryz.func3
  (ChangeSpec.witness_shaped (enc:=enc) (C:=Tryz.checked) (os:=os) (X:=fun w _=>laidMetH Tryz.prog laidL w) false (World.doorLaid Tryz.prog 4000 os) #[.slice none 0 0,.int .i64 0] 8 rfl (World.shaped_of_RefB (by kernel_rfl) (by kernel_rfl)) (by kernel_rfl) (by kernel_rfl) (by kernel_rfl) (door_met os _)) ?_
 intro W base args E gs i a r _ _ F _;have b:∀(j:Nat) t v,Tryz.f3.params[j]?=some t->args[j]?=some v->Value.okWide Tryz.prog W .any base t v:=a;have k:=r;obtain⟨p,q,f,G,rfl,I,J⟩:=r;have s:DataW.TrodAll enc Tryz.prog W 0 (fun _=>true) true Tryz.f3.params.toList args.toList E p:=f;rw [Tryz.params3] at s b;obtain⟨u,K,d0,L,M,q0,l,rfl,rfl,y,N⟩:=trodAll_cons s;obtain⟨z,O,d1,P,p1,q1,rfl,rfl,rfl,Q,R⟩:=trodAll_cons N;obtain⟨rfl,rfl,rfl⟩:=trodAll_nil R;obtain rfl:args=#[u,z]:=by cases args; simp_all
 obtain⟨rfl,rfl⟩:=trodVars_none G;obtain⟨A,c,d,rfl⟩:=okWide_slice Tryz.underlying22 (b 0 22 u rfl rfl);have B:=y;have n:∀x ∈ M,x.block<W.heap.size:=by obtain⟨m,S⟩:=B; exact DataW.trod_lt m _ _ _ S
 obtain⟨o,T,U,V,Y,_⟩:∃ps:List StI,Rd W A (ps.flatMap stIC)/\c=ps.length/\c<=d/\d<=maxLen/\∀p ∈ ps,True:=by
  obtain⟨D,Z⟩:=y;exact Vv 3 (by decide) stIC (fun _=>rfl) (fun _=>True) Tryz.underlying22 (by kernel_rfl) (Tb Tryz.underlying54 (by kernel_rfl) Tryz.underlying3 Tryz.underlying3 Tryz.underlying5) Z
 obtain⟨x1,rfl,rfl,rfl,g⟩:=open_int Tryz.underlying3 (b 1 3 z rfl rfl) Q;have a1:=bounds_i64 g;clear f a;refine(UG (Tc A c d o x1 (laid3 F) U V Y T)).mono fun e W' ⟨he,bel⟩=>?_;subst he;exact⟨_,rfl,_,_,_,[],_,[],k,trodAll_mk1 (shut_bool Tryz.underlying4 _),(trodAll_cons_mk (Below.trod laidOut (by kernel_rfl) (of_decide_eq_true (by kernel_rfl)) B bel n) (trodAll_cons_mk (shut_int Tryz.underlying3 g) trodAll_mk0)),rfl,bel.frame _,fun h=>by cases h⟩

theorem over:Rows.deflateStepsRow.holds Tryz.pinned (OpenSpec.ofChange Rows.deflateStepsSpec) :=
 OpenClaim.holds_of_wide 3 Tryz.f3 rfl rfl rfl rfl rfl rfl rfl ⟨rfl,rfl,rfl,rfl,rfl⟩ rfl rfl rfl rfl rfl (by kernel_rfl) Tryz.func3 (by kernel_rfl)
  (of_decide_eq_true (by kernel_rfl)) (by unfold Func.isWrapper; first | (rw [if_pos (by decide +kernel)]; kernel_rfl) | (rw [if_neg (by decide +kernel)]; exact⟨rfl,rfl⟩))
  (fun os started H enc _=>lifted os started H enc)
theorem row_proved:Rows.DeflateStepsSaid:=over
theorem proved:Rows.DeflateStepsCardSaid :=
  Claim7.holds_tied_plain_at .later [] [.widerDeep, .widerDeep, .widerDeep] true (true, "27d53ff23e47aaac682ee40bd73e2114f13cbc7bd62e7df6e02bbdd7d79aa937") true
    row_proved (fun _ h=>by cases h) (by kernel_rfl) (fun _ h=>by cases h) deflateSteps_row_tie rfl ⟨rfl,rfl⟩ (by kernel_rfl) rfl
    (fun f fn hf hfn=>by
      obtain rfl : f = 3 := Option.some.inj ((show Tryz.prog.funcNamed "portolan/portolanlaw07.DeflateSteps" = some 3 by kernel_rfl).symm.trans hf) |>.symm
      obtain rfl:fn=Tryz.f3:=(Option.some.inj (Tryz.func3.symm.trans hfn)).symm
      exact⟨by kernel_rfl,fun j t ht=>by
        rw [Tryz.params3] at ht
        have hm:t ∈ [22,3]:=by simpa using Array.mem_of_getElem? ht
        have hall:([22,3].all fun u=>!Tryz.prog.wantsStandIn u)=true:=by kernel_rfl
        exact(show Tryz.prog.wantsStandIn t=false by simpa using List.all_eq_true.1 hall t hm)⟩)
    (by kernel_rfl)
#print axioms proved
end Go.Proofs.YteajimobgkempaaGreatDoor.deflateSteps

