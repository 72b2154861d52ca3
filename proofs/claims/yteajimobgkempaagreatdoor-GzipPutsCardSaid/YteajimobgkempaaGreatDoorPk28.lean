/- A pack. -/
import Derived.Test.YteajimobgkempaaGreatDoorPk27
set_option linter.all false
set_option maxRecDepth 100000
set_option maxHeartbeats 8000000
namespace Go.Proofs.YteajimobgkempaaGreatDoor
variable {w0 w:World} {L:List Pr}
open Go.RowKit Go.MapKept
namespace PM
theorem go_far (B:List UInt8) (q:Nat) (ps:List Nat) (d:Nat) (b:Nat × Nat) (h:∀p ∈ ps,32768<q - p):go B q ps d b=b:=by
 cases ps with
 | nil=>rfl
 | cons p ps =>
  rw [go];split
  ·rfl
  ·rw [if_pos (h p (List.mem_cons_self ..))]
def SInv (B:List UInt8) (q d j t:Nat) (b:Nat × Nat):Prop:=1<=j/\j<=q+1/\t<=j/\b.1<=258/\go B q (places B (q+1 - j) (at3 B q)).reverse (d - t) b=best B q d
theorem SInv.start {B:List UInt8} {q d:Nat} (hq:q+3<=B.length):SInv B q d 1 0 (0,0):=by
 refine⟨Nat.le_refl _,by omega,by omega,Nat.zero_le _,?_⟩;unfold best;rw [if_pos hq];rfl
theorem SInv.skip {B:List UInt8} {q d j t:Nat} {b:Nat × Nat} (h:SInv B q d j t b) (hq:q+3<=B.length) (hj:j<=q) (hm:mlen B (q - j) q<3):SInv B q d (j+1) t b:=by
 obtain⟨f,g,i,a,c⟩:=h;refine⟨by omega,by omega,by omega,a,?_⟩;rw [<- c];have e:q+1 - j=(q - j)+1:=by omega
 rw [e,places_succ,if_neg (fun he=>by have:=(mlen_three hq).2 he; omega),show q+1 - (j+1)=q - j by omega]
theorem SInv.take {B:List UInt8} {q d j t m:Nat} {b:Nat × Nat} (h:SInv B q d j t b) (hq:q+3<=B.length) (hj:j<=q) (hf:j<=32768) (ht:t<d) (hm:mlen B (q - j) q=m) (h3:¬ m<3) :
  SInv B q d (j+1) (t+1) (if b.1<m then (m,j) else b):=by
 obtain⟨i,k,a,c,f⟩:=h;have g:=mlen_le B (q - j) q;refine⟨by omega,by omega,by omega,by split <;> first | exact c | (show m<=258; omega),?_⟩
 rw [<- f];have e:q+1 - j=(q - j)+1:=by omega
 rw [e,places_succ,if_pos ((mlen_three hq).1 (by omega)),show q+1 - (j+1)=q - j by omega,List.reverse_append,List.reverse_singleton,List.singleton_append,go,if_neg (show ¬ (d - t=0) by omega),show q - (q - j)=j by omega,if_neg (show ¬ (32768<j) by omega),hm,Nat.sub_sub]
theorem SInv.done {B:List UInt8} {q d j t:Nat} {b:Nat × Nat} (h:SInv B q d j t b) (he:32768<j∨q<j∨d<=t):b=best B q d:=by
 obtain⟨e,f,g,i,a⟩:=h;rw [<- a];rcases he with he | he | he
 ·rw [go_far];intro p c;rw [List.mem_reverse,places_mem] at c;omega
 ·rw [show q+1 - j=0 by omega]; rfl
 ·rw [show d - t=0 by omega,go_zero]
end PM
theorem Wt (l q:Nat) (d:Int) (A0:Option Addr) (ca:Nat) (B:List UInt8) (H:Sp w0 L w) (hl:l=B.length) (hb:Ent L (fun w=>Byt w (.slice A0 l ca) B)) (hq:q<=l) (hlm:l<=1000000) :
  Calls Tryz.prog 103 #[.slice A0 l ca,.int .i64 q,.int .i64 d] w fun e w'=>e=.returned (.tuple #[stV ((PM.best B q d.toNat).1,(PM.best B q d.toNat).2,0),.bool (decide (0<(PM.best B q d.toNat).1))])/\Sp w0 L w':=by
 have X:=hid hl;have HB:=hid hb;clear hl hb;have H1:=(H.newBk [.int .i64 0,.int .i64 0,.int .u8 0] 57).newBk [.int .i64 0,.int .i64 0,.int .u8 0] 57;have es:(w.alloc (.cells #[.int .i64 0,.int .i64 0,.int .u8 0] 57)).heap.size=w.heap.size+1:=Array.size_push _;rw [es] at H1;have p:=H1;clear es H1;go_enter Tryz.func103,Tryz.ntmps103
 go_wp2_with fail
 generalize w.heap.size+1=s at p ⊢;generalize w.heap.size=r at p ⊢;generalize (w.alloc _).alloc _=w1 at p ⊢;go_loopw [9,10] (fun tv fv wr=>∃(j t:Nat) (b:Nat × Nat),tv=.int .i64 t/\fv=.int .i64 j/\(if q+3<=l then PM.SInv B q d.toNat j t b else (b=(0,0)/\j=1/\t=0))/\Sp w0 (Bk s 57 [.int .i64 b.1,.int .i64 b.2,.int .u8 0]::Bk r 57 [.int .i64 0,.int .i64 0,.int .u8 0]::L) wr) (fun _ fv _=>q+1 - (intOf fv).toNat)
 case atStart =>
  refine⟨1,0,(0,0),rfl,rfl,?_,p⟩;split
  ·rename_i h; exact PM.SInv.start (by rw [<- X.out]; exact h)
  ·exact⟨rfl,rfl,rfl⟩
 case round =>
  obtain⟨j,t,b,rfl,rfl,E,H⟩:=hrel;obtain⟨f,k⟩:=b;have t0:wr.cell? ⟨s,0,none⟩=some (.int .i64 f):=H.cell 0 rfl 0;have Q:(q+3<=l->(32768<j∨q<j∨d<=(t:Int)))->(f,k)=PM.best B q d.toNat:=fun h=>by
   by_cases y:q+3<=l
   ·rw [if_pos y] at E;refine E.done ?_;rcases h y with h | h | h
    ·exact .inl h
    ·exact .inr (.inl h)
    ·exact .inr (.inr (by omega))
   ·rw [if_neg y] at E;rw [PM.best_short B q _ (by rw [<- X.out]; omega)];exact E.1
  have F:=hid Q;have U:=hid E;clear Q;by_cases y:q+3<=l
  ·have k1:(q:Int)+3<=(l:Int):=by omega
   have hi:=E;rw [if_pos y] at hi;obtain⟨i1,i2,i3,i4,_⟩:=hi;replace i4:f<=258:=i4;clear E;by_cases hf:j<=32768
   ·have k2:(j:Int)<=32768:=by omega
    by_cases R:j<=q
    ·have k3:(j:Int)<=(q:Int):=by omega
     by_cases c1:(t:Int)<d
     ·go_wp2_with fail
      clear t0 k1 k2 k3;go_loopw [11] (fun nv wz=>∃i:Nat,nv=.int .i64 i/\i<=258/\(∀t,t<i->q+t<B.length/\B.getD (q - j+t) 0=B.getD (q+t) 0)/\Sp w0 (Bk s 57 [.int .i64 f,.int .i64 k,.int .u8 0]::Bk r 57 [.int .i64 0,.int .i64 0,.int .u8 0]::L) wz) (fun nv _=>258 - (intOf nv).toNat)
      case atStart=>exact⟨0,rfl,by omega,fun t ht=>absurd ht (Nat.not_lt_zero _),H⟩
      case round =>
       obtain⟨i,rfl,hi,Y,p⟩:=hrel;have HS:=hid Y;clear Y;obtain⟨qi,a9⟩:=exq (q+i);obtain⟨pi,b3⟩:=exq (q - j+i);have x1:(q:Int)+(i:Int)=(qi:Int):=by omega
       have x2:(q:Int) - (j:Int)+(i:Int)=(pi:Int):=by omega
       have c0:qi<=10000000:=by omega
       have c2:pi<=qi:=by omega
       have a6:=hid a9;have b8:=hid b3;have Q:(i=258∨¬ (q+i<B.length/\B.getD (q - j+i) 0=B.getD (q+i) 0))->PM.mlen B (q - j) q=i:=fun h=>PM.mlen_of B (q - j) q i hi HS.out h;have F:=hid Q;clear a9 b3 Q;by_cases hend:qi<l
       ·have k2:(qi:Int)<(l:Int):=by omega
        by_cases b4:i<258
        ·have k3:(i:Int)<258:=by omega
         have a0:qi<B.length:=by rw [<- X.out]; exact hend
         have b5:pi<B.length:=by omega
         have k4:(pi:Int)<(l:Int):=by omega
         obtain⟨ad,rfl⟩:∃ad,A0=some ad:=by
          obtain⟨_,_,e,hr,_,_⟩:=HB.out _ _ (p.pick 2 []);obtain⟨ad,e2,_⟩:=hr.at8 a0;injection e with e
          exact⟨ad,e.trans e2⟩
         have S:∀t (h:t<B.length),wr.cell? (ad.add t)=some (.int .u8 ((B[t]).toNat:Int)):=fun t h=>by
          obtain⟨_,_,e,hr,_,_⟩:=HB.out _ _ (p.pick 2 []);obtain⟨c3,e2,hc⟩:=hr.at8 h;injection e with e
          rw [<- e] at e2;injection e2 with e2
          rw [e2]; exact hc
         obtain⟨xb,a7⟩:=exq ((B[pi]).toNat);obtain⟨yb,a8⟩:=exq ((B[qi]).toNat);have b6:B.getD (q - j+i) 0=B.getD (q+i) 0↔xb=yb:=by
          rw [b8.out,a6.out,List.getD_eq_getElem?_getD,List.getD_eq_getElem?_getD,List.getElem?_eq_getElem b5,List.getElem?_eq_getElem a0,<- a7,<- a8];exact UInt8.toNat_inj.symm
         have z1:=S pi b5;have z2:=S qi a0;rw [a7] at z1;rw [a8] at z2;have b7:=hid b6;clear S b6 a7 a8;by_cases a1:xb=yb
         ·have k5:((xb:Int) == (yb:Int))=true:=by rw [beq_iff_eq]; omega
          have b9:=hid a1;clear a1;go_wp2_with fail
          go_quiet (fail)
          go_wp2;go_roundw
          case rel =>
           refine⟨i+1,by go_num,by omega,fun t ht=>?_,p.drewN _⟩;by_cases e:t=i
           ·subst e;exact⟨by rw [a6.out]; exact a0,b7.out.2 b9.out⟩
           ·exact HS.out t (by omega)
          case measure=>first | (simp [intOf]; omega) | simp [intOf]
         ·have k5:((xb:Int) == (yb:Int))=false:=by rw [beq_eq_false_iff_ne]; omega
          have Z:PM.mlen B (q - j) q=i:=F.out (.inr fun h=>a1 (b7.out.1 h.2));have HM:=hid Z;clear Z a1;go_wp2_with fail
          go_quiet (fail)
          have t0:∀z,(wr.drewN z).cell? ⟨s,0,none⟩=some (.int .i64 f):=fun z=>(p.drewN z).cell 0 rfl 0;have y1:∀z,(wr.drewN z).cell? ⟨s,1,none⟩=some (.int .i64 k):=fun z=>(p.drewN z).cell 0 rfl 1;have y2:∀z,(wr.drewN z).cell? ⟨s,2,none⟩=some (.int .u8 0):=fun z=>(p.drewN z).cell 0 rfl 2;have z0:∀z,(wr.drewN z).frozen? ⟨s,0,none⟩=false:=fun z=>(p.drewN z).frozen 0 rfl 0;have z1:∀z,(wr.drewN z).frozen? ⟨s,1,none⟩=false:=fun z=>(p.drewN z).frozen 0 rfl 1;have z2:∀z,(wr.drewN z).frozen? ⟨s,2,none⟩=false:=fun z=>(p.drewN z).frozen 0 rfl 2;have C:=U.out;rw [if_pos y] at C;have G:=hid C;clear C;by_cases u:i<3
          ·have k7:(i:Int)<3:=by omega
           have I:=G.out.skip (by rw [<- X.out]; exact y) R (by rw [HM.out]; exact u);have T:=hid I;clear I u;go_wp2_with fail
           go_roundw
           case rel=>exact⟨j+1,t,(f,k),by go_num,by go_num,by rw [if_pos y]; exact T.out,p.drewN _⟩
           case measure=>first | (simp [intOf]; omega) | simp [intOf]
          ·have k7:¬ (i:Int)<3:=by omega
           have J:=G.out.take (by rw [<- X.out]; exact y) R hf (by omega) HM.out u;have M:=hid J;clear J u;by_cases N:f<i
           ·have k8:(f:Int)<(i:Int):=by omega
            have O:(if (f,k).1<i then (i,j) else (f,k))=(i,j):=if_pos N;have D:=hid O;clear O;go_wp2_with fail
            go_roundw
            case rel=>exact⟨j+1,t+1,(i,j),by go_num,by go_num,by rw [if_pos y,<- D.out]; exact M.out,(((p.drewN _).set 0 _).set 1 _).set 2 _⟩
            case measure=>first | (simp [intOf]; omega) | simp [intOf]
           ·have k8:¬ (f:Int)<(i:Int):=by omega
            have O:(if (f,k).1<i then (i,j) else (f,k))=(f,k):=if_neg N;have D:=hid O;clear O;go_wp2_with fail
            go_roundw
            case rel=>exact⟨j+1,t+1,(f,k),by go_num,by go_num,by rw [if_pos y,<- D.out]; exact M.out,p.drewN _⟩
            case measure=>first | (simp [intOf]; omega) | simp [intOf]
        ·obtain rfl:i=258:=by omega
         have x1:(q:Int)+258=(qi:Int):=by omega
         have x2:(q:Int) - (j:Int)+258=(pi:Int):=by omega
         have Z:PM.mlen B (q - j) q=258:=F.out (.inl rfl);have HM:=hid Z;clear Z;go_wp2_with fail
         go_quiet (fail)
         have t0:∀z,(wr.drewN z).cell? ⟨s,0,none⟩=some (.int .i64 f):=fun z=>(p.drewN z).cell 0 rfl 0;have y1:∀z,(wr.drewN z).cell? ⟨s,1,none⟩=some (.int .i64 k):=fun z=>(p.drewN z).cell 0 rfl 1;have y2:∀z,(wr.drewN z).cell? ⟨s,2,none⟩=some (.int .u8 0):=fun z=>(p.drewN z).cell 0 rfl 2;have z0:∀z,(wr.drewN z).frozen? ⟨s,0,none⟩=false:=fun z=>(p.drewN z).frozen 0 rfl 0;have z1:∀z,(wr.drewN z).frozen? ⟨s,1,none⟩=false:=fun z=>(p.drewN z).frozen 0 rfl 1;have z2:∀z,(wr.drewN z).frozen? ⟨s,2,none⟩=false:=fun z=>(p.drewN z).frozen 0 rfl 2;have C:=U.out;rw [if_pos y] at C;have G:=hid C;clear C;by_cases u:258<3
         ·have k7:(258:Int)<3:=by omega
          have I:=G.out.skip (by rw [<- X.out]; exact y) R (by rw [HM.out]; exact u);have T:=hid I;clear I u;go_wp2_with fail
          go_roundw
          case rel=>exact⟨j+1,t,(f,k),by go_num,by go_num,by rw [if_pos y]; exact T.out,p.drewN _⟩
          case measure=>first | (simp [intOf]; omega) | simp [intOf]
         ·have k7:¬ (258:Int)<3:=by omega
          have J:=G.out.take (by rw [<- X.out]; exact y) R hf (by omega) HM.out u;have M:=hid J;clear J u;by_cases N:f<258
          ·have k8:(f:Int)<(258:Int):=by omega
           have O:(if (f,k).1<258 then (258,j) else (f,k))=(258,j):=if_pos N;have D:=hid O;clear O;go_wp2_with fail
           go_roundw
           case rel=>exact⟨j+1,t+1,(258,j),by go_num,by go_num,by rw [if_pos y,<- D.out]; exact M.out,(((p.drewN _).set 0 _).set 1 _).set 2 _⟩
           case measure=>first | (simp [intOf]; omega) | simp [intOf]
          ·have k8:¬ (f:Int)<(258:Int):=by omega
           have O:(if (f,k).1<258 then (258,j) else (f,k))=(f,k):=if_neg N;have D:=hid O;clear O;go_wp2_with fail
           go_roundw
           case rel=>exact⟨j+1,t+1,(f,k),by go_num,by go_num,by rw [if_pos y,<- D.out]; exact M.out,p.drewN _⟩
           case measure=>first | (simp [intOf]; omega) | simp [intOf]
       ·have k2:¬ (qi:Int)<(l:Int):=by omega
        by_cases b4:i<258
        ·have k3:(i:Int)<258:=by omega
         have Z:PM.mlen B (q - j) q=i:=F.out (.inr fun h=>hend (by rw [<- a6.out,X.out]; exact h.1));have HM:=hid Z;clear Z;go_wp2_with fail
         go_quiet (fail)
         have t0:∀z,(wr.drewN z).cell? ⟨s,0,none⟩=some (.int .i64 f):=fun z=>(p.drewN z).cell 0 rfl 0;have y1:∀z,(wr.drewN z).cell? ⟨s,1,none⟩=some (.int .i64 k):=fun z=>(p.drewN z).cell 0 rfl 1;have y2:∀z,(wr.drewN z).cell? ⟨s,2,none⟩=some (.int .u8 0):=fun z=>(p.drewN z).cell 0 rfl 2;have z0:∀z,(wr.drewN z).frozen? ⟨s,0,none⟩=false:=fun z=>(p.drewN z).frozen 0 rfl 0;have z1:∀z,(wr.drewN z).frozen? ⟨s,1,none⟩=false:=fun z=>(p.drewN z).frozen 0 rfl 1;have z2:∀z,(wr.drewN z).frozen? ⟨s,2,none⟩=false:=fun z=>(p.drewN z).frozen 0 rfl 2;have C:=U.out;rw [if_pos y] at C;have G:=hid C;clear C;by_cases u:i<3
         ·have k7:(i:Int)<3:=by omega
          have I:=G.out.skip (by rw [<- X.out]; exact y) R (by rw [HM.out]; exact u);have T:=hid I;clear I u;go_wp2_with fail
          go_roundw
          case rel=>exact⟨j+1,t,(f,k),by go_num,by go_num,by rw [if_pos y]; exact T.out,p.drewN _⟩
          case measure=>first | (simp [intOf]; omega) | simp [intOf]
         ·have k7:¬ (i:Int)<3:=by omega
          have J:=G.out.take (by rw [<- X.out]; exact y) R hf (by omega) HM.out u;have M:=hid J;clear J u;by_cases N:f<i
          ·have k8:(f:Int)<(i:Int):=by omega
           have O:(if (f,k).1<i then (i,j) else (f,k))=(i,j):=if_pos N;have D:=hid O;clear O;go_wp2_with fail
           go_roundw
           case rel=>exact⟨j+1,t+1,(i,j),by go_num,by go_num,by rw [if_pos y,<- D.out]; exact M.out,(((p.drewN _).set 0 _).set 1 _).set 2 _⟩
           case measure=>first | (simp [intOf]; omega) | simp [intOf]
          ·have k8:¬ (f:Int)<(i:Int):=by omega
           have O:(if (f,k).1<i then (i,j) else (f,k))=(f,k):=if_neg N;have D:=hid O;clear O;go_wp2_with fail
           go_roundw
           case rel=>exact⟨j+1,t+1,(f,k),by go_num,by go_num,by rw [if_pos y,<- D.out]; exact M.out,p.drewN _⟩
           case measure=>first | (simp [intOf]; omega) | simp [intOf]
        ·obtain rfl:i=258:=by omega
         have x1:(q:Int)+258=(qi:Int):=by omega
         have x2:(q:Int) - (j:Int)+258=(pi:Int):=by omega
         have Z:PM.mlen B (q - j) q=258:=F.out (.inl rfl);have HM:=hid Z;clear Z;go_wp2_with fail
         go_quiet (fail)
         have t0:∀z,(wr.drewN z).cell? ⟨s,0,none⟩=some (.int .i64 f):=fun z=>(p.drewN z).cell 0 rfl 0;have y1:∀z,(wr.drewN z).cell? ⟨s,1,none⟩=some (.int .i64 k):=fun z=>(p.drewN z).cell 0 rfl 1;have y2:∀z,(wr.drewN z).cell? ⟨s,2,none⟩=some (.int .u8 0):=fun z=>(p.drewN z).cell 0 rfl 2;have z0:∀z,(wr.drewN z).frozen? ⟨s,0,none⟩=false:=fun z=>(p.drewN z).frozen 0 rfl 0;have z1:∀z,(wr.drewN z).frozen? ⟨s,1,none⟩=false:=fun z=>(p.drewN z).frozen 0 rfl 1;have z2:∀z,(wr.drewN z).frozen? ⟨s,2,none⟩=false:=fun z=>(p.drewN z).frozen 0 rfl 2;have C:=U.out;rw [if_pos y] at C;have G:=hid C;clear C;by_cases u:258<3
         ·have k7:(258:Int)<3:=by omega
          have I:=G.out.skip (by rw [<- X.out]; exact y) R (by rw [HM.out]; exact u);have T:=hid I;clear I u;go_wp2_with fail
          go_roundw
          case rel=>exact⟨j+1,t,(f,k),by go_num,by go_num,by rw [if_pos y]; exact T.out,p.drewN _⟩
          case measure=>first | (simp [intOf]; omega) | simp [intOf]
         ·have k7:¬ (258:Int)<3:=by omega
          have J:=G.out.take (by rw [<- X.out]; exact y) R hf (by omega) HM.out u;have M:=hid J;clear J u;by_cases N:f<258
          ·have k8:(f:Int)<(258:Int):=by omega
           have O:(if (f,k).1<258 then (258,j) else (f,k))=(258,j):=if_pos N;have D:=hid O;clear O;go_wp2_with fail
           go_roundw
           case rel=>exact⟨j+1,t+1,(258,j),by go_num,by go_num,by rw [if_pos y,<- D.out]; exact M.out,(((p.drewN _).set 0 _).set 1 _).set 2 _⟩
           case measure=>first | (simp [intOf]; omega) | simp [intOf]
          ·have k8:¬ (f:Int)<(258:Int):=by omega
           have O:(if (f,k).1<258 then (258,j) else (f,k))=(f,k):=if_neg N;have D:=hid O;clear O;go_wp2_with fail
           go_roundw
           case rel=>exact⟨j+1,t+1,(f,k),by go_num,by go_num,by rw [if_pos y,<- D.out]; exact M.out,p.drewN _⟩
           case measure=>first | (simp [intOf]; omega) | simp [intOf]
     ·have HF:=hid (F.out fun _=>.inr (.inr (by omega)));go_wp2_with fail
      obtain⟨bz,P⟩:=exq (decide (0<f));refine Zs (L:=Bk s 57 [.int .i64 f,.int .i64 k,.int .u8 0]::L) (fun ix vx=>([(·=.agg #[.int .i64 f,.int .i64 k,.int .u8 0]),(·=.pointer (some ⟨s,0,none⟩)),(·=.int .i64 f),(·=.bool bz),(fun _=>True),(·=.bool bz)]:List (Value->Prop)).getD ix (fun _=>True) vx)
       (fun ix vx=>([fun _=>[],fun _=>[],fun _=>[],fun _=>[],fun _=>[Bk r 57 [.int .i64 f,.int .i64 k,.int .u8 0]],fun _=>[]]:List (Value->List Pr)).getD ix (fun _=>[]) vx) (fun ix=>([[],[],[],[],[Bk r 57 [.int .i64 0,.int .i64 0,.int .u8 0]],[]]:List (List Pr)).getD ix []) 6 78
       [some 74,some 75,some 76,some 77,none,some 7]
       [[],[],[1],[2],[0,0],[3,4,0,1,2,3,4]]
       [[],[],[1],[1,2],[0],[0,1,2,3,4]]
       [[],[],[],[],[],[]]
       [[],[],[],[],[],[]]
       [(6,.pointer (some ⟨r,0,none⟩)),(8,.pointer (some ⟨s,0,none⟩))]
       (by kernel_rfl) rfl (by decide) (by rfl) rfl (by decide +kernel) (by decide +kernel) (by rfl) rfl rfl (by decide) (by simp) (by rfl) (H.swap) ?hstep ?hend
      case hstep =>
       refine⟨?_,⟨?_,⟨?_,⟨?_,⟨?_,⟨?_,trivial⟩⟩⟩⟩⟩⟩
       ·intro x wx A c m g n H K a;have e8:A.tmps[8]?.getD undef=.pointer (some ⟨s,0,none⟩):=m (8,_) (by simp);have o:=hid a;clear a m g;have b0:wx.cell? ⟨s,0,none⟩=some (.int .i64 f):=n (fun w=>w.cell? ⟨s,0,none⟩=some (.int .i64 f)) (fun _ _ H=>H.cell 0 rfl 0) _ _ H;have f:wx.cell? ⟨s,1,none⟩=some (.int .i64 k):=n (fun w=>w.cell? ⟨s,1,none⟩=some (.int .i64 k)) (fun _ _ H=>H.cell 0 rfl 1) _ _ H;have k:wx.cell? ⟨s,2,none⟩=some (.int .u8 0):=n (fun w=>w.cell? ⟨s,2,none⟩=some (.int .u8 0)) (fun _ _ H=>H.cell 0 rfl 2) _ _ H;refine so ?_;go_step;exact o.out _ _ rfl H
       ·intro x wx A c m g n H K a;have e8:A.tmps[8]?.getD undef=.pointer (some ⟨s,0,none⟩):=m (8,_) (by simp);have o:=hid a;clear a m g n;refine so ?_;go_step;exact o.out _ _ rfl H
       ·intro x wx A c m g n H K a;have a2:=tq g 1;have o:=hid a;clear a m g;have b0:wx.cell? ⟨s,0,none⟩=some (.int .i64 f):=n (fun w=>w.cell? ⟨s,0,none⟩=some (.int .i64 f)) (fun _ _ H=>H.cell 0 rfl 0) _ _ H;refine so ?_;go_step;exact o.out _ _ rfl H
       ·intro x wx A c m g n H K a;have a3:=tq g 2;have o:=hid a;clear a m g n;refine so ?_;go_step;exact o.out _ _ rfl H
       ·intro x wx A c m g n H K a;have e6:A.tmps[6]?.getD undef=.pointer (some ⟨r,0,none⟩):=m (6,_) (by simp);have a4:=tq g 0;replace H:Sp w0 (_::c) wx:=H;have o:Hid (∀(v:Value) (w' : World),True->Sp w0 ((Bk r 57 [.int .i64 f,.int .i64 k,.int .u8 0])::c) w'->K (A.put none v) w'):=hid a;clear a m g n;have z0:wx.frozen? ⟨r,0,none⟩=false:=H.frozen 0 rfl 0;have z1:wx.frozen? ⟨r,1,none⟩=false:=H.frozen 0 rfl 1;have z2:wx.frozen? ⟨r,2,none⟩=false:=H.frozen 0 rfl 2;have z3:wx.cell? ⟨r,0,none⟩=some (.int .i64 0):=H.cell 0 rfl 0;have z4:wx.cell? ⟨r,1,none⟩=some (.int .i64 0):=H.cell 0 rfl 1;have z5:wx.cell? ⟨r,2,none⟩=some (.int .u8 0):=H.cell 0 rfl 2;refine so ?_;go_step;exact o.out undef _ trivial (((H.set 0 _).set 1 _).set 2 _)
       ·intro x wx A c m g n H K a;have a5:=tq g 3;have o:=hid a;clear a m g n;refine so ?_;go_step;exact o.out _ _ rfl H
      case hend =>
       intro x wx A V g H;replace H:Sp w0 (_::_::L) wx:=H;have W:x 5=.bool bz:=g 5 (by decide);clear g;simp only [putAll,Act.put,List.setIfInBounds_toArray,List.set_cons_succ,List.set_cons_zero,Nat.reduceAdd] at V;subst V;rw [W];clear W;have f0:wx.cell? ⟨r,0,none⟩=some (.int .i64 f):=H.cell 0 rfl 0;have f1:wx.cell? ⟨r,1,none⟩=some (.int .i64 k):=H.cell 0 rfl 1;have f2:wx.cell? ⟨r,2,none⟩=some (.int .u8 0):=H.cell 0 rfl 2;go_wp2;refine bodyPost_ret (v:=.tuple #[.agg #[.int .i64 f,.int .i64 k,.int .u8 0],.bool bz]) (by simp [results,Tryz.results103,go_sem,f0,f1,f2]) rfl ?_;have he:=HF.out;rw [<- he,<- P];exact⟨rfl,H.pick 2 []⟩
    ·have k3:¬ (j:Int)<=(q:Int):=by omega
     have HF:=hid (F.out fun _=>.inr (.inl (by omega)));go_wp2_with fail
     obtain⟨bz,P⟩:=exq (decide (0<f));refine Zs (L:=Bk s 57 [.int .i64 f,.int .i64 k,.int .u8 0]::L) (fun ix vx=>([(·=.agg #[.int .i64 f,.int .i64 k,.int .u8 0]),(·=.pointer (some ⟨s,0,none⟩)),(·=.int .i64 f),(·=.bool bz),(fun _=>True),(·=.bool bz)]:List (Value->Prop)).getD ix (fun _=>True) vx)
      (fun ix vx=>([fun _=>[],fun _=>[],fun _=>[],fun _=>[],fun _=>[Bk r 57 [.int .i64 f,.int .i64 k,.int .u8 0]],fun _=>[]]:List (Value->List Pr)).getD ix (fun _=>[]) vx) (fun ix=>([[],[],[],[],[Bk r 57 [.int .i64 0,.int .i64 0,.int .u8 0]],[]]:List (List Pr)).getD ix []) 6 78
      [some 74,some 75,some 76,some 77,none,some 7]
      [[],[],[1],[2],[0,0],[3,4,0,1,2,3,4]]
      [[],[],[1],[1,2],[0],[0,1,2,3,4]]
      [[],[],[],[],[],[]]
      [[],[],[],[],[],[]]
      [(6,.pointer (some ⟨r,0,none⟩)),(8,.pointer (some ⟨s,0,none⟩))]
      (by kernel_rfl) rfl (by decide) (by rfl) rfl (by decide +kernel) (by decide +kernel) (by rfl) rfl rfl (by decide) (by simp) (by rfl) (H.swap) ?hstep ?hend
     case hstep =>
      refine⟨?_,⟨?_,⟨?_,⟨?_,⟨?_,⟨?_,trivial⟩⟩⟩⟩⟩⟩
      ·intro x wx A c m g n H K a;have e8:A.tmps[8]?.getD undef=.pointer (some ⟨s,0,none⟩):=m (8,_) (by simp);have o:=hid a;clear a m g;have b0:wx.cell? ⟨s,0,none⟩=some (.int .i64 f):=n (fun w=>w.cell? ⟨s,0,none⟩=some (.int .i64 f)) (fun _ _ H=>H.cell 0 rfl 0) _ _ H;have f:wx.cell? ⟨s,1,none⟩=some (.int .i64 k):=n (fun w=>w.cell? ⟨s,1,none⟩=some (.int .i64 k)) (fun _ _ H=>H.cell 0 rfl 1) _ _ H;have k:wx.cell? ⟨s,2,none⟩=some (.int .u8 0):=n (fun w=>w.cell? ⟨s,2,none⟩=some (.int .u8 0)) (fun _ _ H=>H.cell 0 rfl 2) _ _ H;refine so ?_;go_step;exact o.out _ _ rfl H
      ·intro x wx A c m g n H K a;have e8:A.tmps[8]?.getD undef=.pointer (some ⟨s,0,none⟩):=m (8,_) (by simp);have o:=hid a;clear a m g n;refine so ?_;go_step;exact o.out _ _ rfl H
      ·intro x wx A c m g n H K a;have a2:=tq g 1;have o:=hid a;clear a m g;have b0:wx.cell? ⟨s,0,none⟩=some (.int .i64 f):=n (fun w=>w.cell? ⟨s,0,none⟩=some (.int .i64 f)) (fun _ _ H=>H.cell 0 rfl 0) _ _ H;refine so ?_;go_step;exact o.out _ _ rfl H
      ·intro x wx A c m g n H K a;have a3:=tq g 2;have o:=hid a;clear a m g n;refine so ?_;go_step;exact o.out _ _ rfl H
      ·intro x wx A c m g n H K a;have e6:A.tmps[6]?.getD undef=.pointer (some ⟨r,0,none⟩):=m (6,_) (by simp);have a4:=tq g 0;replace H:Sp w0 (_::c) wx:=H;have o:Hid (∀(v:Value) (w' : World),True->Sp w0 ((Bk r 57 [.int .i64 f,.int .i64 k,.int .u8 0])::c) w'->K (A.put none v) w'):=hid a;clear a m g n;have z0:wx.frozen? ⟨r,0,none⟩=false:=H.frozen 0 rfl 0;have z1:wx.frozen? ⟨r,1,none⟩=false:=H.frozen 0 rfl 1;have z2:wx.frozen? ⟨r,2,none⟩=false:=H.frozen 0 rfl 2;have z3:wx.cell? ⟨r,0,none⟩=some (.int .i64 0):=H.cell 0 rfl 0;have z4:wx.cell? ⟨r,1,none⟩=some (.int .i64 0):=H.cell 0 rfl 1;have z5:wx.cell? ⟨r,2,none⟩=some (.int .u8 0):=H.cell 0 rfl 2;refine so ?_;go_step;exact o.out undef _ trivial (((H.set 0 _).set 1 _).set 2 _)
      ·intro x wx A c m g n H K a;have a5:=tq g 3;have o:=hid a;clear a m g n;refine so ?_;go_step;exact o.out _ _ rfl H
     case hend =>
      intro x wx A V g H;replace H:Sp w0 (_::_::L) wx:=H;have W:x 5=.bool bz:=g 5 (by decide);clear g;simp only [putAll,Act.put,List.setIfInBounds_toArray,List.set_cons_succ,List.set_cons_zero,Nat.reduceAdd] at V;subst V;rw [W];clear W;have f0:wx.cell? ⟨r,0,none⟩=some (.int .i64 f):=H.cell 0 rfl 0;have f1:wx.cell? ⟨r,1,none⟩=some (.int .i64 k):=H.cell 0 rfl 1;have f2:wx.cell? ⟨r,2,none⟩=some (.int .u8 0):=H.cell 0 rfl 2;go_wp2;refine bodyPost_ret (v:=.tuple #[.agg #[.int .i64 f,.int .i64 k,.int .u8 0],.bool bz]) (by simp [results,Tryz.results103,go_sem,f0,f1,f2]) rfl ?_;have he:=HF.out;rw [<- he,<- P];exact⟨rfl,H.pick 2 []⟩
   ·have k2:¬ (j:Int)<=32768:=by omega
    have HF:=hid (F.out fun _=>.inl (by omega));go_wp2_with fail
    obtain⟨bz,P⟩:=exq (decide (0<f));refine Zs (L:=Bk s 57 [.int .i64 f,.int .i64 k,.int .u8 0]::L) (fun ix vx=>([(·=.agg #[.int .i64 f,.int .i64 k,.int .u8 0]),(·=.pointer (some ⟨s,0,none⟩)),(·=.int .i64 f),(·=.bool bz),(fun _=>True),(·=.bool bz)]:List (Value->Prop)).getD ix (fun _=>True) vx)
     (fun ix vx=>([fun _=>[],fun _=>[],fun _=>[],fun _=>[],fun _=>[Bk r 57 [.int .i64 f,.int .i64 k,.int .u8 0]],fun _=>[]]:List (Value->List Pr)).getD ix (fun _=>[]) vx) (fun ix=>([[],[],[],[],[Bk r 57 [.int .i64 0,.int .i64 0,.int .u8 0]],[]]:List (List Pr)).getD ix []) 6 78
     [some 74,some 75,some 76,some 77,none,some 7]
     [[],[],[1],[2],[0,0],[3,4,0,1,2,3,4]]
     [[],[],[1],[1,2],[0],[0,1,2,3,4]]
     [[],[],[],[],[],[]]
     [[],[],[],[],[],[]]
     [(6,.pointer (some ⟨r,0,none⟩)),(8,.pointer (some ⟨s,0,none⟩))]
     (by kernel_rfl) rfl (by decide) (by rfl) rfl (by decide +kernel) (by decide +kernel) (by rfl) rfl rfl (by decide) (by simp) (by rfl) (H.swap) ?hstep ?hend
    case hstep =>
     refine⟨?_,⟨?_,⟨?_,⟨?_,⟨?_,⟨?_,trivial⟩⟩⟩⟩⟩⟩
     ·intro x wx A c m g n H K a;have e8:A.tmps[8]?.getD undef=.pointer (some ⟨s,0,none⟩):=m (8,_) (by simp);have o:=hid a;clear a m g;have b0:wx.cell? ⟨s,0,none⟩=some (.int .i64 f):=n (fun w=>w.cell? ⟨s,0,none⟩=some (.int .i64 f)) (fun _ _ H=>H.cell 0 rfl 0) _ _ H;have f:wx.cell? ⟨s,1,none⟩=some (.int .i64 k):=n (fun w=>w.cell? ⟨s,1,none⟩=some (.int .i64 k)) (fun _ _ H=>H.cell 0 rfl 1) _ _ H;have k:wx.cell? ⟨s,2,none⟩=some (.int .u8 0):=n (fun w=>w.cell? ⟨s,2,none⟩=some (.int .u8 0)) (fun _ _ H=>H.cell 0 rfl 2) _ _ H;refine so ?_;go_step;exact o.out _ _ rfl H
     ·intro x wx A c m g n H K a;have e8:A.tmps[8]?.getD undef=.pointer (some ⟨s,0,none⟩):=m (8,_) (by simp);have o:=hid a;clear a m g n;refine so ?_;go_step;exact o.out _ _ rfl H
     ·intro x wx A c m g n H K a;have a2:=tq g 1;have o:=hid a;clear a m g;have b0:wx.cell? ⟨s,0,none⟩=some (.int .i64 f):=n (fun w=>w.cell? ⟨s,0,none⟩=some (.int .i64 f)) (fun _ _ H=>H.cell 0 rfl 0) _ _ H;refine so ?_;go_step;exact o.out _ _ rfl H
     ·intro x wx A c m g n H K a;have a3:=tq g 2;have o:=hid a;clear a m g n;refine so ?_;go_step;exact o.out _ _ rfl H
     ·intro x wx A c m g n H K a;have e6:A.tmps[6]?.getD undef=.pointer (some ⟨r,0,none⟩):=m (6,_) (by simp);have a4:=tq g 0;replace H:Sp w0 (_::c) wx:=H;have o:Hid (∀(v:Value) (w' : World),True->Sp w0 ((Bk r 57 [.int .i64 f,.int .i64 k,.int .u8 0])::c) w'->K (A.put none v) w'):=hid a;clear a m g n;have z0:wx.frozen? ⟨r,0,none⟩=false:=H.frozen 0 rfl 0;have z1:wx.frozen? ⟨r,1,none⟩=false:=H.frozen 0 rfl 1;have z2:wx.frozen? ⟨r,2,none⟩=false:=H.frozen 0 rfl 2;have z3:wx.cell? ⟨r,0,none⟩=some (.int .i64 0):=H.cell 0 rfl 0;have z4:wx.cell? ⟨r,1,none⟩=some (.int .i64 0):=H.cell 0 rfl 1;have z5:wx.cell? ⟨r,2,none⟩=some (.int .u8 0):=H.cell 0 rfl 2;refine so ?_;go_step;exact o.out undef _ trivial (((H.set 0 _).set 1 _).set 2 _)
     ·intro x wx A c m g n H K a;have a5:=tq g 3;have o:=hid a;clear a m g n;refine so ?_;go_step;exact o.out _ _ rfl H
    case hend =>
     intro x wx A V g H;replace H:Sp w0 (_::_::L) wx:=H;have W:x 5=.bool bz:=g 5 (by decide);clear g;simp only [putAll,Act.put,List.setIfInBounds_toArray,List.set_cons_succ,List.set_cons_zero,Nat.reduceAdd] at V;subst V;rw [W];clear W;have f0:wx.cell? ⟨r,0,none⟩=some (.int .i64 f):=H.cell 0 rfl 0;have f1:wx.cell? ⟨r,1,none⟩=some (.int .i64 k):=H.cell 0 rfl 1;have f2:wx.cell? ⟨r,2,none⟩=some (.int .u8 0):=H.cell 0 rfl 2;go_wp2;refine bodyPost_ret (v:=.tuple #[.agg #[.int .i64 f,.int .i64 k,.int .u8 0],.bool bz]) (by simp [results,Tryz.results103,go_sem,f0,f1,f2]) rfl ?_;have he:=HF.out;rw [<- he,<- P];exact⟨rfl,H.pick 2 []⟩
  ·have k1:¬ (q:Int)+3<=(l:Int):=by omega
   rw [if_neg y] at E;obtain⟨_,rfl,rfl⟩:=E;have HF:=hid (F.out fun h=>absurd h y);by_cases c4:1<=q
   ·have k2:(1:Int)<=(q:Int):=by omega
    go_wp2_with fail
    obtain⟨bz,P⟩:=exq (decide (0<f));refine Zs (L:=Bk s 57 [.int .i64 f,.int .i64 k,.int .u8 0]::L) (fun ix vx=>([(·=.agg #[.int .i64 f,.int .i64 k,.int .u8 0]),(·=.pointer (some ⟨s,0,none⟩)),(·=.int .i64 f),(·=.bool bz),(fun _=>True),(·=.bool bz)]:List (Value->Prop)).getD ix (fun _=>True) vx)
     (fun ix vx=>([fun _=>[],fun _=>[],fun _=>[],fun _=>[],fun _=>[Bk r 57 [.int .i64 f,.int .i64 k,.int .u8 0]],fun _=>[]]:List (Value->List Pr)).getD ix (fun _=>[]) vx) (fun ix=>([[],[],[],[],[Bk r 57 [.int .i64 0,.int .i64 0,.int .u8 0]],[]]:List (List Pr)).getD ix []) 6 78
     [some 74,some 75,some 76,some 77,none,some 7]
     [[],[],[1],[2],[0,0],[3,4,0,1,2,3,4]]
     [[],[],[1],[1,2],[0],[0,1,2,3,4]]
     [[],[],[],[],[],[]]
     [[],[],[],[],[],[]]
     [(6,.pointer (some ⟨r,0,none⟩)),(8,.pointer (some ⟨s,0,none⟩))]
     (by kernel_rfl) rfl (by decide) (by rfl) rfl (by decide +kernel) (by decide +kernel) (by rfl) rfl rfl (by decide) (by simp) (by rfl) (H.swap) ?hstep ?hend
    case hstep =>
     refine⟨?_,⟨?_,⟨?_,⟨?_,⟨?_,⟨?_,trivial⟩⟩⟩⟩⟩⟩
     ·intro x wx A c m g n H K a;have e8:A.tmps[8]?.getD undef=.pointer (some ⟨s,0,none⟩):=m (8,_) (by simp);have o:=hid a;clear a m g;have b0:wx.cell? ⟨s,0,none⟩=some (.int .i64 f):=n (fun w=>w.cell? ⟨s,0,none⟩=some (.int .i64 f)) (fun _ _ H=>H.cell 0 rfl 0) _ _ H;have f:wx.cell? ⟨s,1,none⟩=some (.int .i64 k):=n (fun w=>w.cell? ⟨s,1,none⟩=some (.int .i64 k)) (fun _ _ H=>H.cell 0 rfl 1) _ _ H;have k:wx.cell? ⟨s,2,none⟩=some (.int .u8 0):=n (fun w=>w.cell? ⟨s,2,none⟩=some (.int .u8 0)) (fun _ _ H=>H.cell 0 rfl 2) _ _ H;refine so ?_;go_step;exact o.out _ _ rfl H
     ·intro x wx A c m g n H K a;have e8:A.tmps[8]?.getD undef=.pointer (some ⟨s,0,none⟩):=m (8,_) (by simp);have o:=hid a;clear a m g n;refine so ?_;go_step;exact o.out _ _ rfl H
     ·intro x wx A c m g n H K a;have a2:=tq g 1;have o:=hid a;clear a m g;have b0:wx.cell? ⟨s,0,none⟩=some (.int .i64 f):=n (fun w=>w.cell? ⟨s,0,none⟩=some (.int .i64 f)) (fun _ _ H=>H.cell 0 rfl 0) _ _ H;refine so ?_;go_step;exact o.out _ _ rfl H
     ·intro x wx A c m g n H K a;have a3:=tq g 2;have o:=hid a;clear a m g n;refine so ?_;go_step;exact o.out _ _ rfl H
     ·intro x wx A c m g n H K a;have e6:A.tmps[6]?.getD undef=.pointer (some ⟨r,0,none⟩):=m (6,_) (by simp);have a4:=tq g 0;replace H:Sp w0 (_::c) wx:=H;have o:Hid (∀(v:Value) (w' : World),True->Sp w0 ((Bk r 57 [.int .i64 f,.int .i64 k,.int .u8 0])::c) w'->K (A.put none v) w'):=hid a;clear a m g n;have z0:wx.frozen? ⟨r,0,none⟩=false:=H.frozen 0 rfl 0;have z1:wx.frozen? ⟨r,1,none⟩=false:=H.frozen 0 rfl 1;have z2:wx.frozen? ⟨r,2,none⟩=false:=H.frozen 0 rfl 2;have z3:wx.cell? ⟨r,0,none⟩=some (.int .i64 0):=H.cell 0 rfl 0;have z4:wx.cell? ⟨r,1,none⟩=some (.int .i64 0):=H.cell 0 rfl 1;have z5:wx.cell? ⟨r,2,none⟩=some (.int .u8 0):=H.cell 0 rfl 2;refine so ?_;go_step;exact o.out undef _ trivial (((H.set 0 _).set 1 _).set 2 _)
     ·intro x wx A c m g n H K a;have a5:=tq g 3;have o:=hid a;clear a m g n;refine so ?_;go_step;exact o.out _ _ rfl H
    case hend =>
     intro x wx A V g H;replace H:Sp w0 (_::_::L) wx:=H;have W:x 5=.bool bz:=g 5 (by decide);clear g;simp only [putAll,Act.put,List.setIfInBounds_toArray,List.set_cons_succ,List.set_cons_zero,Nat.reduceAdd] at V;subst V;rw [W];clear W;have f0:wx.cell? ⟨r,0,none⟩=some (.int .i64 f):=H.cell 0 rfl 0;have f1:wx.cell? ⟨r,1,none⟩=some (.int .i64 k):=H.cell 0 rfl 1;have f2:wx.cell? ⟨r,2,none⟩=some (.int .u8 0):=H.cell 0 rfl 2;go_wp2;refine bodyPost_ret (v:=.tuple #[.agg #[.int .i64 f,.int .i64 k,.int .u8 0],.bool bz]) (by simp [results,Tryz.results103,go_sem,f0,f1,f2]) rfl ?_;have he:=HF.out;rw [<- he,<- P];exact⟨rfl,H.pick 2 []⟩
   ·have k2:¬ (1:Int)<=(q:Int):=by omega
    go_wp2_with fail
    obtain⟨bz,P⟩:=exq (decide (0<f));refine Zs (L:=Bk s 57 [.int .i64 f,.int .i64 k,.int .u8 0]::L) (fun ix vx=>([(·=.agg #[.int .i64 f,.int .i64 k,.int .u8 0]),(·=.pointer (some ⟨s,0,none⟩)),(·=.int .i64 f),(·=.bool bz),(fun _=>True),(·=.bool bz)]:List (Value->Prop)).getD ix (fun _=>True) vx)
     (fun ix vx=>([fun _=>[],fun _=>[],fun _=>[],fun _=>[],fun _=>[Bk r 57 [.int .i64 f,.int .i64 k,.int .u8 0]],fun _=>[]]:List (Value->List Pr)).getD ix (fun _=>[]) vx) (fun ix=>([[],[],[],[],[Bk r 57 [.int .i64 0,.int .i64 0,.int .u8 0]],[]]:List (List Pr)).getD ix []) 6 78
     [some 74,some 75,some 76,some 77,none,some 7]
     [[],[],[1],[2],[0,0],[3,4,0,1,2,3,4]]
     [[],[],[1],[1,2],[0],[0,1,2,3,4]]
     [[],[],[],[],[],[]]
     [[],[],[],[],[],[]]
     [(6,.pointer (some ⟨r,0,none⟩)),(8,.pointer (some ⟨s,0,none⟩))]
     (by kernel_rfl) rfl (by decide) (by rfl) rfl (by decide +kernel) (by decide +kernel) (by rfl) rfl rfl (by decide) (by simp) (by rfl) (H.swap) ?hstep ?hend
    case hstep =>
     refine⟨?_,⟨?_,⟨?_,⟨?_,⟨?_,⟨?_,trivial⟩⟩⟩⟩⟩⟩
     ·intro x wx A c m g n H K a;have e8:A.tmps[8]?.getD undef=.pointer (some ⟨s,0,none⟩):=m (8,_) (by simp);have o:=hid a;clear a m g;have b0:wx.cell? ⟨s,0,none⟩=some (.int .i64 f):=n (fun w=>w.cell? ⟨s,0,none⟩=some (.int .i64 f)) (fun _ _ H=>H.cell 0 rfl 0) _ _ H;have f:wx.cell? ⟨s,1,none⟩=some (.int .i64 k):=n (fun w=>w.cell? ⟨s,1,none⟩=some (.int .i64 k)) (fun _ _ H=>H.cell 0 rfl 1) _ _ H;have k:wx.cell? ⟨s,2,none⟩=some (.int .u8 0):=n (fun w=>w.cell? ⟨s,2,none⟩=some (.int .u8 0)) (fun _ _ H=>H.cell 0 rfl 2) _ _ H;refine so ?_;go_step;exact o.out _ _ rfl H
     ·intro x wx A c m g n H K a;have e8:A.tmps[8]?.getD undef=.pointer (some ⟨s,0,none⟩):=m (8,_) (by simp);have o:=hid a;clear a m g n;refine so ?_;go_step;exact o.out _ _ rfl H
     ·intro x wx A c m g n H K a;have a2:=tq g 1;have o:=hid a;clear a m g;have b0:wx.cell? ⟨s,0,none⟩=some (.int .i64 f):=n (fun w=>w.cell? ⟨s,0,none⟩=some (.int .i64 f)) (fun _ _ H=>H.cell 0 rfl 0) _ _ H;refine so ?_;go_step;exact o.out _ _ rfl H
     ·intro x wx A c m g n H K a;have a3:=tq g 2;have o:=hid a;clear a m g n;refine so ?_;go_step;exact o.out _ _ rfl H
     ·intro x wx A c m g n H K a;have e6:A.tmps[6]?.getD undef=.pointer (some ⟨r,0,none⟩):=m (6,_) (by simp);have a4:=tq g 0;replace H:Sp w0 (_::c) wx:=H;have o:Hid (∀(v:Value) (w' : World),True->Sp w0 ((Bk r 57 [.int .i64 f,.int .i64 k,.int .u8 0])::c) w'->K (A.put none v) w'):=hid a;clear a m g n;have z0:wx.frozen? ⟨r,0,none⟩=false:=H.frozen 0 rfl 0;have z1:wx.frozen? ⟨r,1,none⟩=false:=H.frozen 0 rfl 1;have z2:wx.frozen? ⟨r,2,none⟩=false:=H.frozen 0 rfl 2;have z3:wx.cell? ⟨r,0,none⟩=some (.int .i64 0):=H.cell 0 rfl 0;have z4:wx.cell? ⟨r,1,none⟩=some (.int .i64 0):=H.cell 0 rfl 1;have z5:wx.cell? ⟨r,2,none⟩=some (.int .u8 0):=H.cell 0 rfl 2;refine so ?_;go_step;exact o.out undef _ trivial (((H.set 0 _).set 1 _).set 2 _)
     ·intro x wx A c m g n H K a;have a5:=tq g 3;have o:=hid a;clear a m g n;refine so ?_;go_step;exact o.out _ _ rfl H
    case hend =>
     intro x wx A V g H;replace H:Sp w0 (_::_::L) wx:=H;have W:x 5=.bool bz:=g 5 (by decide);clear g;simp only [putAll,Act.put,List.setIfInBounds_toArray,List.set_cons_succ,List.set_cons_zero,Nat.reduceAdd] at V;subst V;rw [W];clear W;have f0:wx.cell? ⟨r,0,none⟩=some (.int .i64 f):=H.cell 0 rfl 0;have f1:wx.cell? ⟨r,1,none⟩=some (.int .i64 k):=H.cell 0 rfl 1;have f2:wx.cell? ⟨r,2,none⟩=some (.int .u8 0):=H.cell 0 rfl 2;go_wp2;refine bodyPost_ret (v:=.tuple #[.agg #[.int .i64 f,.int .i64 k,.int .u8 0],.bool bz]) (by simp [results,Tryz.results103,go_sem,f0,f1,f2]) rfl ?_;have he:=HF.out;rw [<- he,<- P];exact⟨rfl,H.pick 2 []⟩
end Go.Proofs.YteajimobgkempaaGreatDoor

