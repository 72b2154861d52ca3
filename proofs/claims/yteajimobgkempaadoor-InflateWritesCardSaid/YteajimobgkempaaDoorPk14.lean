/- A pack. -/
import Derived.Deep.CutRange
import Derived.Test.YteajimobgkempaaDoorPk12
import Derived.Test.YteajimobgkempaaDoorPk13
set_option linter.all false
set_option maxRecDepth 100000
set_option maxHeartbeats 8000000
namespace Go.Proofs.YteajimobgkempaaDoor
variable {w0 w:World} {L:List Pr}
open Go.RowKit
namespace PH
theorem tal_append (a b:List Nat) (n:Nat):tal (a++b) n=tal a n+tal b n:=by
 unfold tal;split
 ·rfl
 ·exact List.count_append
theorem share_append (a b:List Nat) (k:Nat):share (a++b) k=share a k+share b k:=by
 induction k with
 | zero=>rfl
 | succ k ih=>rw [share,share,share,ih,tal_append,Nat.add_mul]; omega
theorem share_single (x:Nat) (k:Nat):share [x] k=if 0<x/\x<k then 2 ^ (15 - x) else 0:=by
 induction k with
 | zero=>rw [if_neg (by omega)]; rfl
 | succ k ih =>
  rw [share,ih];have d:tal [x] k=if k=0 then 0 else if x=k then 1 else 0:=by
   unfold tal;by_cases a:k=0
   ·rw [if_pos a,if_pos a]
   ·rw [if_neg a,if_neg a,List.count_singleton];by_cases b:x=k
    ·rw [if_pos b,if_pos (by simpa using b)]
    ·rw [if_neg b,if_neg (by simpa using b)]
  rw [d];by_cases b:x=k
  ·subst b;by_cases a:x=0
   ·rw [if_pos a,if_neg (by omega),if_neg (by omega)]; simp
   ·rw [if_neg a,if_pos rfl,if_neg (by omega),if_pos (by omega)]; omega
  ·rw [show(if k=0 then 0 else if x=k then 1 else 0)=0 by simp [b],Nat.zero_mul,Nat.add_zero];by_cases c:0<x/\x<k
   ·rw [if_pos c,if_pos (by omega)]
   ·rw [if_neg c,if_neg (by omega)]
theorem sum_take (m:List Nat) (i:Nat) (hi:i<m.length) (x:Nat) (hx:m[i]=x) (h15:x<=15):sum (m.take (i+1))=sum (m.take i)+if 0<x then 2 ^ (15 - x) else 0:=by
 unfold sum;rw [List.take_succ_eq_append_getElem hi,share_append,hx,share_single];congr 1;by_cases h:0<x
 ·rw [if_pos h,if_pos (by omega)]
 ·rw [if_neg h,if_neg (by omega)]
def nz (m:List Nat):Nat:=(m.filter fun x=>decide (0<x)).length
theorem nz_take (m:List Nat) (i:Nat) (hi:i<m.length) (x:Nat) (hx:m[i]=x):nz (m.take (i+1))=nz (m.take i)+if 0<x then 1 else 0:=by
 unfold nz;rw [List.take_succ_eq_append_getElem hi,List.filter_append,List.length_append,hx,List.filter_cons];by_cases h:0<x
 ·rw [if_pos h,decide_eq_true h]; rfl
 ·rw [if_neg h,decide_eq_false h]; rfl
theorem nz_sum (m:List Nat) (h:∀x ∈ m,x<=15):nz m=((List.range 16).map (tal m)).sum:=by
 have d:∀x,x<=15->((List.range 16).map (tal [x])).sum=if 0<x then 1 else 0:=by decide +kernel
 have e:∀(a b:List Nat) (l:List Nat),(l.map (tal (a++b))).sum=(l.map (tal a)).sum+(l.map (tal b)).sum:=by
  intro a b l;induction l with
  | nil=>rfl
  | cons n l ih =>
   simp only [List.map_cons,List.sum_cons,ih,tal_append]; omega
 induction m with
 | nil=>rfl
 | cons x m ih =>
  have f:=e [x] m (List.range 16);rw [List.singleton_append] at f;rw [f,d x (h x (List.mem_cons_self ..)),<- ih fun y hy=>h y (List.mem_cons_of_mem _ hy)];unfold nz;rw [List.filter_cons];by_cases c:0<x
  ·rw [decide_eq_true c,if_pos c]; simp; omega
  ·rw [decide_eq_false c,if_neg c]; simp
theorem rows_nz (m:List Nat) (h:∀x ∈ m,x<=15):(rows m).length=nz m:=by
 rw [nz_sum m h];exact rows_len m 15 (Nat.le_refl _)
end PH
theorem Z0 (A:Option Addr) (n c:Nat) (m:List Nat) (H:Sp w0 L w) (hn:n=m.length) (hb:Ent L fun w=>Rd w A (cells64 (castI m))) (hl:n<=1024) (h15:∀x ∈ m,x<=15) :
  Calls Tryd.prog 103 #[.slice A n c] w fun e w'=>e=.returned (.tuple #[.int .i64 (PH.state m),.int .i64 0])/\Sp w0 L w':=by
 have M:=hid hn;have R:=hid hb;have B:=hid h15;have X:¬ (1024:Int)<(n:Int):=by omega
 clear hn hb h15;obtain⟨st,g⟩:=exq (PH.state m);rw [g];have C:=hid g;clear g;go_enter Tryd.func103,Tryd.ntmps103
 go_wp2_with fail
 go_loopw [4,5] (fun sv iv wr=>∃(i s:Nat),iv=.int .i64 i/\sv=.int .i64 s/\i<=n/\s<=i * 16384/\Hid (PH.sum (m.take i)=s)/\Sp w0 L wr) (fun _ iv _=>n - (intOf iv).toNat)
 case atStart=>exact⟨0,0,rfl,rfl,Nat.zero_le _,Nat.zero_le _,hid rfl,H⟩
 case round =>
  clear H;obtain⟨i,s,rfl,rfl,Y,S,N,H⟩:=hrel;by_cases D:i<n
  ·have T:(i:Int)<(n:Int):=by omega
   have j:i<m.length:=by rw [<- M.out]; exact D
   obtain⟨U,E,O⟩:=(R.out _ _ H).at64 (k:=i) (by simpa [castI] using j);obtain⟨x,y⟩:=exq (m[i]);have r:x<=15:=by rw [<- y]; exact B.out _ (List.getElem_mem j)
   replace O:wr.cell? (U.add i)=some (.int .i64 x):=by
    rw [O];simp [castI,y]
   subst E;have b:=PH.sum_take m i j x y r;rw [N.out] at b;have t:=hid b;have Z:¬ (x:Int)<0:=by omega
   have k3:¬ (15:Int)<(x:Int):=by omega
   clear y b;by_cases u:0<x
   ·have V:(0:Int)<(x:Int):=by omega
    obtain⟨d,P⟩:=exq (15 - x);have y1:(15:Int) - (x:Int)=(d:Int):=by omega
    have v:d<=15:=by omega
    obtain⟨p,z⟩:=exq (2 ^ d);have W:p<=16384:=by
     rw [<- z];have:(2:Nat) ^ d<=2 ^ 14:=Nat.pow_le_pow_right (by omega) (by omega);exact this
    have l:=fun w=>Xs d v w;rw [z] at l;have F:=hid l;have f:PH.sum (m.take (i+1))=s+p:=by rw [t.out,if_pos u,P,z]
    have o:=hid f;clear P z l f;go_wp2_with fail
    refine(F.out _).mono ?_;rintro _ _ ⟨rfl,rfl⟩;go_wp2_with fail
    go_roundw
    case rel=>exact⟨i+1,s+p,by go_num,by go_num,by omega,by rw [Nat.succ_mul]; omega,o,H⟩
    case measure=>first | (simp [intOf]; omega) | simp [intOf]
   ·have V:¬ (0:Int)<(x:Int):=by omega
    have f:PH.sum (m.take (i+1))=s:=by rw [t.out,if_neg u,Nat.add_zero]
    have o:=hid f;clear f;go_wp2_with fail
    go_roundw
    case rel=>exact⟨i+1,s,by go_num,rfl,by omega,by rw [Nat.succ_mul]; omega,o,H⟩
    case measure=>first | (simp [intOf]; omega) | simp [intOf]
  ·have T:¬ (i:Int)<(n:Int):=by omega
   obtain rfl:i=n:=by omega
   have G:=N.out;rw [List.take_of_length_le (by rw [M.out]; exact Nat.le_refl _)] at G;have a:=C.out;unfold PH.state at a;rw [G] at a;have q:=hid a;clear G a;by_cases I:s<32768
   ·have J:(s:Int)<32768:=by omega
    go_wp2_with fail
    go_ret2;have h:=q.out;rw [if_pos I] at h;rw [<- h];exact⟨rfl,H⟩
   ·have J:¬ (s:Int)<32768:=by omega
    by_cases Q:32768<s
    ·have K:(32768:Int)<(s:Int):=by omega
     go_wp2_with fail
     go_ret2;have h:=q.out;rw [if_neg I,if_pos Q] at h;rw [<- h];exact⟨rfl,H⟩
    ·have K:¬ (32768:Int)<(s:Int):=by omega
     go_wp2_with fail
     go_ret2;have h:=q.out;rw [if_neg I,if_neg Q] at h;rw [<- h];exact⟨rfl,H⟩
theorem Z3 (A:Option Addr) (n c:Nat) (l:List Int) (H:Sp w0 L w) (hn:n=l.length) (hb:Ent L fun w=>Rd w A (cells64 l)) (hm:PH.may l=false) :
  Calls Tryd.prog 103 #[.slice A n c] w fun e w'=>e=.returned (.tuple #[.int .i64 0,.int .i64 1])/\Sp w0 L w':=by
 have y:=hid hn;have B:=hid hb;unfold PH.may at hm;rw [<- hn] at hm;by_cases K:(1024:Int)<(n:Int)
 ·clear hn hb hm;go_enter Tryd.func103,Tryd.ntmps103
  go_wp2_with fail
  go_ret2;exact⟨rfl,H⟩
 ·rw [decide_eq_true (by omega:n<=1024),Bool.true_and,Bool.not_eq_false'] at hm;have C:=hid hm;clear hn hb hm;go_enter Tryd.func103,Tryd.ntmps103
  go_wp2_with fail
  go_loopw [4,5] (fun sv iv wr=>∃(i s:Nat),iv=.int .i64 i/\sv=.int .i64 s/\i<=n/\s<=i * 16384/\Hid ((l.take i).any PH.bad=false)/\Sp w0 L wr) (fun _ iv _=>n - (intOf iv).toNat)
  case atStart=>exact⟨0,0,rfl,rfl,Nat.zero_le _,Nat.zero_le _,hid rfl,H⟩
  case round =>
   clear H;obtain⟨i,s,rfl,rfl,M,D,z,H⟩:=hrel;by_cases q:i<n
   ·have N:(i:Int)<(n:Int):=by omega
    have g:i<l.length:=by rw [<- y.out]; exact q
    obtain⟨O,r,E⟩:=(B.out _ _ H).at64 (k:=i) g;obtain⟨x,j⟩:=exq (l[i]);rw [j] at E;subst r;by_cases P:x<0
    ·clear j;go_wp2_with fail
     go_ret2;exact⟨rfl,H⟩
    ·by_cases Q:15<x
     ·clear j;go_wp2_with fail
      go_ret2;exact⟨rfl,H⟩
     ·have a:(l.take (i+1)).any PH.bad=false:=by
       rw [List.take_succ_eq_append_getElem g,List.any_append,z.out,j];have:PH.bad x=false:=by unfold PH.bad; exact decide_eq_false (by omega)
       simp [this]
      have m:=hid a;obtain⟨b,t⟩:∃b:Nat,x=(b:Int):=⟨x.toNat,by omega⟩;subst t;clear j a;by_cases F:0<b
      ·have G:(0:Int)<(b:Int):=by omega
       obtain⟨d,I⟩:=exq (15 - b);have R:(15:Int) - (b:Int)=(d:Int):=by omega
       have o:d<=15:=by omega
       obtain⟨p,u⟩:=exq (2 ^ d);have J:p<=16384:=by
        rw [<- u];have:(2:Nat) ^ d<=2 ^ 14:=Nat.pow_le_pow_right (by omega) (by omega);exact this
       have f:=fun w=>Xs d o w;rw [u] at f;have v:=hid f;clear I u f;go_wp2_with fail
       refine(v.out _).mono ?_;rintro _ _ ⟨rfl,rfl⟩;go_wp2_with fail
       go_roundw
       case rel=>exact⟨i+1,s+p,by go_num,by go_num,by omega,by rw [Nat.succ_mul]; omega,m,H⟩
       case measure=>first | (simp [intOf]; omega) | simp [intOf]
      ·have G:¬ (0:Int)<(b:Int):=by omega
       go_wp2_with fail
       go_roundw
       case rel=>exact⟨i+1,s,by go_num,rfl,by omega,by rw [Nat.succ_mul]; omega,m,H⟩
       case measure=>first | (simp [intOf]; omega) | simp [intOf]
   ·exfalso;have h:=z.out;rw [List.take_of_length_le (by rw [<- y.out]; omega),C.out] at h;cases h
theorem XG (A:Option Addr) (n c:Nat) (l:List Int) (H:Sp w0 L w) (hn:n=l.length) (hb:Ent L fun w=>Rd w A (cells64 l)) (hm:PH.may l=false) :
  Calls Tryd.prog 102 #[.slice A n c] w fun e w'=>e=.returned (.tuple #[.slice none 0 0,.int .i64 1])/\Sp w0 L w':=by
 have a:=Z3 A n c l H hn hb hm;have b:=hid a;clear a hn hb hm;go_enter Tryd.func102,Tryd.ntmps102
 go_wp2_with fail
 refine b.out.mono ?_;rintro _ f ⟨rfl,d⟩;go_wp2_with fail
 go_ret2;exact⟨rfl,d⟩
theorem Y8 (A:Option Addr) (n c:Nat) (m:List Nat) (H:Sp w0 L w) (hn:n=m.length) (hb:Ent L fun w=>Rd w A (cells64 (castI m))) (hl:n<=1024) (h15:∀x ∈ m,x<=15) (hs:PH.state m=1) :
  Calls Tryd.prog 102 #[.slice A n c] w fun e w'=>e=.returned (.tuple #[.slice none 0 0,.int .i64 20])/\Sp w0 L w':=by
 have a:=Z0 A n c m H hn hb hl h15;rw [hs] at a;have b:=hid a;clear a hn hb hs;go_enter Tryd.func102,Tryd.ntmps102
 go_wp2_with fail
 refine b.out.mono ?_;rintro _ f ⟨rfl,d⟩;go_wp2_with fail
 go_ret2;exact⟨rfl,d⟩
def laid (m:List Nat) (q i j:Nat):Nat:=if m.getD j 0=0 then 0 else if m.getD j 0<q∨(m.getD j 0=q/\j<i) then PH.codeAt m j else 0
theorem X7 (A:Option Addr) (n c:Nat) (m:List Nat) (H:Sp w0 L w) (hn:n=m.length) (hb:Ent L fun w=>Rd w A (cells64 (castI m))) (hl:n<=1024) (h15:∀x ∈ m,x<=15) (hs:PH.sum m<=32768) :
  Calls Tryd.prog 102 #[.slice A n c] w fun e w'=>∃v,e=.returned (.tuple #[v,.int .i64 0])/\Sp w0 (Row 47 1 v n (rowU (PH.codeAt m) n)::L) w':=by
 obtain⟨i0,S,T,s,U⟩:=info_parts infoU;have u:=Z0 A n c m H hn hb hl h15;have V:((PH.state m) == 1)=false:=by
  rw [beq_eq_false_iff_ne];unfold PH.state;split
  ·omega
  ·rw [if_neg (by omega)]; omega
 obtain⟨st,o⟩:=exq (PH.state m);rw [o] at u V;have E:=hid u;have W:=hid hn;have HB:=hid hb;have F:=hid h15;have hf:∀k,k<=16->PH.fst m k<=65536:=fun k hk=>PH.fst_le m k hk hs;have HF:=hid hf;clear hn hb h15 hs hf u o;go_enter Tryd.func102,Tryd.ntmps102
 go_wp2_with fail
 refine E.out.mono ?_;rintro _ w1 ⟨rfl,H1⟩;clear E H;go_wp2_with (at_make; refine wpList_make_sp rfl _ _ _ rfl 47 i0 (.int .u32 0) Tryd.underlying88 S T s rfl n rfl rfl (by rw [U]; omega) (by unfold maxLen; omega) H1 ?_)
 intro X w2 Y;rw [YV] at Y;clear H1;go_wp2_with fail
 go_loopw [7,8] (fun xv qv wr=>∃(q x:Nat),qv=.int .i64 ((q+1:Nat):Int)/\xv=.int .u32 x/\q<=15/\x<=70000/\Hid (x=PH.fst m q+PH.tal m q)/\Sp w0 (Row 47 1 (.slice (some X) n n) n (rowU (laid m (q+1) 0) n)::L) wr) (fun _ qv _=>16 - (intOf qv).toNat)
 case atStart =>
  refine⟨0,0,rfl,rfl,by omega,by omega,hid rfl,?_⟩;have e:laid m (0+1) 0=fun _=>0:=by
   funext j;unfold laid;split
   ·rfl
   ·rw [if_neg (by omega)]
  rw [e];exact Y
 case round =>
  clear Y;obtain⟨q,x,rfl,rfl,hq,hx,HX,H⟩:=hrel;have e1:((q+1:Nat):Int)=(q:Int)+1:=by omega
  rw [e1];by_cases a4:q<15
  ·have k1:(q:Int)+1<=15:=by omega
   obtain⟨y,hy⟩:=exq (2 * x);have B:y=PH.fst m (q+1):=by rw [PH.fst_next,<- HX.out,hy]
   have a6:y<=65536:=by rw [B]; exact HF.out _ (by omega)
   have yy:(2:Int) * (x:Int)=(y:Int):=by omega
   have HY:=hid B;clear hy B;go_wp2_with fail
   go_loopw [7,9] (fun xv iv wr=>∃(i z:Nat),iv=.int .i64 i/\xv=.int .u32 z/\i<=n/\z<=67000/\Hid (z=y+(m.take i).count (q+1))/\Sp w0 (Row 47 1 (.slice (some X) n n) n (rowU (laid m (q+1) i) n)::L) wr) (fun _ iv _=>n - (intOf iv).toNat)
   case atStart=>exact⟨0,y,rfl,rfl,Nat.zero_le _,by omega,hid (by simp),H⟩
   case round =>
    clear H;obtain⟨i,z,rfl,rfl,hi,hz,G,H⟩:=hrel;by_cases C:i<n
    ·have k2:(i:Int)<(n:Int):=by omega
     have f:i<m.length:=by rw [<- W.out]; exact C
     obtain⟨al,Z,hc⟩:=(HB.out _ _ H.tail).at64 (k:=i) (by simpa [castI] using f);obtain⟨t,I⟩:=exq (m[i]);have a5:t<=15:=by rw [<- I]; exact F.out _ (List.getElem_mem f)
     replace hc:wr.cell? (al.add i)=some (.int .i64 t):=by
      rw [hc];simp [castI,I]
     subst Z;have J:m.getD i 0=t:=by rw [List.getD_eq_getElem?_getD,List.getElem?_eq_getElem f,I]; rfl
     have a:(m.take (i+1)).count (q+1)=(m.take i).count (q+1)+if t=q+1 then 1 else 0:=by
      rw [List.take_succ_eq_append_getElem f,List.count_append,I,List.count_singleton];by_cases e:t=q+1
      ·rw [if_pos e,if_pos (by simpa using e)]
      ·rw [if_neg e,if_neg (by simpa using e)]
     have a0:(m.take (i+1)).count (q+1)<=1024:=Nat.le_trans List.count_le_length (by rw [List.length_take]; omega);have p:=hid a;have g:=hid J;have K:z+1<=67000∨t≠q+1:=by
      by_cases e:t=q+1
      ·left;rw [if_pos e] at a;have:=G.out;omega
      ·exact .inr e
     clear I J a a0;by_cases l:t=q+1
     ·have k3:((t:Int) == (q:Int)+1)=true:=by rw [beq_iff_eq]; omega
      obtain⟨a7,c2,ev,_,D,a8,r⟩:=H.rowSet C;injection ev with ev ev2 ev3
      injection ev with ev
      subst ev;clear ev2 ev3;have M:laid m (q+1) i i=0:=by
       unfold laid;rw [g.out];split
       ·rfl
       ·rw [if_neg (by omega)]
      rw [Zp _ _ _ C,M] at D;replace D:wr.cell? (X.add i)=some (.int .u32 0):=D;have R:=r (.int .u32 z);rw [Xr] at R;have b:PH.codeAt m i=z:=by
       rw [PH.codeAt_of m i (q+1) (by rw [g.out]; exact l) (by omega),G.out,HY.out]
      have d:(fun j=>if j=i then z else laid m (q+1) i j)=laid m (q+1) (i+1):=by
       funext j;by_cases e:j=i
       ·subst e;rw [if_pos rfl];unfold laid;rw [g.out,if_neg (by omega),if_pos (by omega),b]
       ·rw [if_neg e];unfold laid;split
        ·rfl
        ·by_cases h:m.getD j 0<q+1∨(m.getD j 0=q+1/\j<i)
         ·rw [if_pos h,if_pos (by omega)]
         ·rw [if_neg h,if_neg (by omega)]
      rw [d] at R;have a1:=hid R;have s:z+1<=67000:=by omega
      clear R r d b M K;go_wp2_with fail
      go_roundw
      case rel=>exact⟨i+1,z+1,by go_num,by go_num,by omega,s,hid (by rw [p.out,if_pos l,G.out]; omega),a1.out⟩
      case measure=>first | (simp [intOf]; omega) | simp [intOf]
     ·have k3:((t:Int) == (q:Int)+1)=false:=by rw [beq_eq_false_iff_ne]; omega
      have d:laid m (q+1) i=laid m (q+1) (i+1):=by
       funext j;unfold laid;split
       ·rfl
       ·by_cases h:m.getD j 0<q+1∨(m.getD j 0=q+1/\j<i)
        ·rw [if_pos h,if_pos (by omega)]
        ·rw [if_neg h,if_neg];rintro(N | ⟨N,h3⟩)
         ·exact h (.inl N)
         ·by_cases e:j=i
          ·subst e;rw [g.out] at N;exact l N
          ·exact h (.inr ⟨N,by omega⟩)
      rw [d] at H;clear d K;go_wp2_with fail
      go_roundw
      case rel=>exact⟨i+1,z,by go_num,rfl,by omega,hz,hid (by rw [p.out,if_neg l,Nat.add_zero]; exact G.out),H⟩
      case measure=>first | (simp [intOf]; omega) | simp [intOf]
    ·have k2:¬ (i:Int)<(n:Int):=by omega
     obtain rfl:i=n:=by omega
     have O:z=PH.fst m (q+1)+PH.tal m (q+1):=by
      rw [PH.tal_pos m (q+1) (by omega),<- HY.out];have h:=G.out
      rwa [List.take_of_length_le (by rw [W.out]; exact Nat.le_refl _)] at h
     have d:rowU (laid m (q+1) i) i=rowU (laid m (q+1+1) 0) i:=by
      unfold rowU;refine List.map_congr_left fun j hj=>?_;have P:=List.mem_range.1 hj;show Value.int .u32 ((laid m (q+1) i j:Nat):Int)=Value.int .u32 ((laid m (q+1+1) 0 j:Nat):Int);congr 2;unfold laid;split
      ·rfl
      ·by_cases h:m.getD j 0<q+1∨(m.getD j 0=q+1/\j<i)
       ·rw [if_pos h,if_pos (by omega)]
       ·rw [if_neg h,if_neg (by omega)]
     rw [d] at H;have a2:=hid O;have a3:z<=70000:=by omega
     clear O d;go_wp2_with fail
     go_roundw
     case rel=>exact⟨q+1,z,by first | (go_num; done) | exact congrArg (Value.int .i64) (by omega),rfl,by omega,a3,a2,H⟩
     case measure=>first | (simp [intOf]; omega) | simp [intOf]
  ·have k1:¬ (q:Int)+1<=15:=by omega
   obtain rfl:q=15:=by omega
   have d:rowU (laid m (15+1) 0) n=rowU (PH.codeAt m) n:=by
    unfold rowU;refine List.map_congr_left fun j hj=>?_;have P:=List.mem_range.1 hj;have Q:j<m.length:=by rw [<- W.out]; exact P
    show Value.int .u32 ((laid m (15+1) 0 j:Nat):Int)=_;congr 2;have h:=F.out _ (List.getElem_mem Q);have hg:m.getD j 0=m[j]:=by rw [List.getD_eq_getElem?_getD,List.getElem?_eq_getElem Q]; rfl
    unfold laid;by_cases h0:m.getD j 0=0
    ·rw [if_pos h0]; unfold PH.codeAt; rw [if_pos h0]
    ·rw [if_neg h0,if_pos (by rw [hg]; omega)]
   rw [d] at H;go_wp2_with fail
   go_ret2;exact⟨_,rfl,H⟩
theorem WI (A:Option Addr) (n c:Nat) (l:List Int) (H:Sp w0 L w) (hn:n=l.length) (hb:Ent L fun w=>Rd w A (cells64 l)) (hm:PH.may l=false) :
  Calls Tryd.prog 101 #[.slice A n c] w fun e w'=>e=.returned (.int .i64 1)/\Sp w0 L w':=by
 have a:=Z3 A n c l H hn hb hm;have b:=hid a;clear a hn hb hm;go_enter Tryd.func101,Tryd.ntmps101
 go_wp2_with fail
 refine b.out.mono ?_;rintro _ f ⟨rfl,d⟩;go_wp2_with fail
 go_ret;exact⟨rfl,d⟩
theorem Vi (A:Option Addr) (n c:Nat) (m:List Nat) (H:Sp w0 L w) (hn:n=m.length) (hb:Ent L fun w=>Rd w A (cells64 (castI m))) (hl:n<=1024) (h15:∀x ∈ m,x<=15) :
  Calls Tryd.prog 101 #[.slice A n c] w fun e w'=>e=.returned (.int .i64 (if mayBook m=true then 0 else 20))/\Sp w0 L w':=by
 have l:=Z0 A n c m H hn hb hl h15;obtain⟨res,f⟩:∃res:Int,(if mayBook m=true then 0 else 20)=res:=⟨_,rfl⟩;rw [f];obtain⟨st,h⟩:=exq (PH.state m);rw [h] at l;have s:mayBook m=(decide (st=0) || (decide (PH.nz m=0) || (decide (PH.nz m=1) && decide (m.count 1=1)))):=by
  unfold mayBook;rw [PH.rows_nz m h15,h]; rfl
 rw [s] at f;have t:=hid f;have u:=hid l;have K:=hid hn;have Q:=hid hb;clear hn hb l h s f;go_enter Tryd.func101,Tryd.ntmps101
 go_wp2_with fail
 refine u.out.mono ?_;rintro _ X ⟨rfl,M⟩;clear u H;go_wp2_with fail
 go_loopw [5,6,7] (fun av bv iv wr=>∃(i a b:Nat),iv=.int .i64 i/\av=.int .i64 a/\bv=.int .i64 b/\i<=n/\a<=i/\b<=i/\Hid (PH.nz (m.take i)=a/\(m.take i).count 1=b)/\Sp w0 L wr) (fun _ _ iv _=>n - (intOf iv).toNat)
 case atStart=>exact⟨0,0,0,rfl,rfl,rfl,Nat.zero_le _,Nat.zero_le _,Nat.zero_le _,hid ⟨rfl,rfl⟩,M⟩
 case round =>
  clear M;obtain⟨i,a,b,rfl,rfl,rfl,Y,R,S,o,H⟩:=hrel;by_cases F:i<n
  ·have T:(i:Int)<(n:Int):=by omega
   have p:i<m.length:=by rw [<- K.out]; exact F
   obtain⟨U,G,N⟩:=(Q.out _ _ H).at64 (k:=i) (by simpa [castI] using p);obtain⟨x,D⟩:=exq (m[i]);replace N:wr.cell? (U.add i)=some (.int .i64 x):=by
    rw [N];simp [castI,D]
   subst G;have I:=PH.nz_take m i p x D;have O:(m.take (i+1)).count 1=b+if x=1 then 1 else 0:=by
    rw [List.take_succ_eq_append_getElem p,List.count_append,D,List.count_singleton,o.out.2];by_cases e:x=1
    ·rw [if_pos e,if_pos (by simpa using e)]
    ·rw [if_neg e,if_neg (by simpa using e)]
   rw [o.out.1] at I;have g:=hid (And.intro I O);clear D I O;by_cases q:0<x
   ·have P:(0:Int)<(x:Int):=by omega
    by_cases v:x=1
    ·have E:((x:Int) == 1)=true:=by rw [beq_iff_eq]; omega
     go_wp2_with fail
     go_roundw
     case rel=>exact⟨i+1,a+1,b+1,by go_num,by go_num,by go_num,by omega,by omega,by omega,hid ⟨by rw [g.out.1,if_pos q],by rw [g.out.2,if_pos v]⟩,H⟩
     case measure=>first | (simp [intOf]; omega) | simp [intOf]
    ·have E:((x:Int) == 1)=false:=by rw [beq_eq_false_iff_ne]; omega
     go_wp2_with fail
     go_roundw
     case rel=>exact⟨i+1,a+1,b,by go_num,by go_num,rfl,by omega,by omega,by omega,hid ⟨by rw [g.out.1,if_pos q],by rw [g.out.2,if_neg v,Nat.add_zero]⟩,H⟩
     case measure=>first | (simp [intOf]; omega) | simp [intOf]
   ·have P:¬ (0:Int)<(x:Int):=by omega
    have E:((x:Int) == 1)=false:=by rw [beq_eq_false_iff_ne]; omega
    go_wp2_with fail
    go_roundw
    case rel=>exact⟨i+1,a,b,by go_num,rfl,rfl,by omega,by omega,by omega,hid ⟨by rw [g.out.1,if_neg q,Nat.add_zero],by rw [g.out.2,if_neg (by omega),Nat.add_zero]⟩,H⟩
    case measure=>first | (simp [intOf]; omega) | simp [intOf]
  ·have T:¬ (i:Int)<(n:Int):=by omega
   obtain rfl:i=n:=by omega
   have j:=o.out;rw [List.take_of_length_le (by rw [K.out]; exact Nat.le_refl _)] at j;have J:=t.out;rw [j.1,j.2] at J;have y:=hid J;clear j J;by_cases z:st=0
   ·have d:res=0:=by
     rw [<- y.out,decide_eq_true z]; simp
    subst z d;go_wp2_with fail
    go_ret;exact⟨rfl,H⟩
   ·have P:(st == 0)=false:=by rw [beq_eq_false_iff_ne]; exact z
    by_cases r:a=0
    ·have d:res=0:=by rw [<- y.out,decide_eq_true r]; simp
     have E:((a:Int) == 0)=true:=by rw [beq_iff_eq]; omega
     subst d;go_wp2_with fail
     go_ret;exact⟨rfl,H⟩
    ·have E:((a:Int) == 0)=false:=by rw [beq_eq_false_iff_ne]; omega
     by_cases B:a=1
     ·have V:((a:Int) == 1)=true:=by rw [beq_iff_eq]; omega
      by_cases C:b=1
      ·have W:((b:Int) == 1)=true:=by rw [beq_iff_eq]; omega
       have d:res=0:=by rw [<- y.out,decide_eq_true B,decide_eq_true C]; simp
       subst d;go_wp2_with fail
       go_ret;exact⟨rfl,H⟩
      ·have W:((b:Int) == 1)=false:=by rw [beq_eq_false_iff_ne]; omega
       have d:res=20:=by rw [<- y.out,decide_eq_false z,decide_eq_false r,decide_eq_false C]; simp
       subst d;go_wp2_with fail
       go_ret;exact⟨rfl,H⟩
     ·have V:((a:Int) == 1)=false:=by rw [beq_eq_false_iff_ne]; omega
      have d:res=20:=by rw [<- y.out,decide_eq_false z,decide_eq_false r,decide_eq_false B]; simp
      subst d;go_wp2_with fail
      go_ret;exact⟨rfl,H⟩
namespace PH
theorem mayBook_sum (m:List Nat) (h:mayBook m=true):sum m<=32768:=by
 rcases Nat.lt_or_ge 32768 (sum m) with q | q
 ·have:PH.state m=1:=by
   unfold PH.state;rw [if_neg (by omega),if_pos q]
  rw [many_no_book m this] at h; cases h
 ·exact q
theorem numb_succ (l:List Bool) (q:Nat) (b:Bool) (h:l[q]?=some b):numb (l.take (q+1))=2 * numb (l.take q)+bitV b:=by
 rw [List.take_add_one,h]; exact numb_snoc _ _
theorem next_hit1 (m:List Nat) (l:List Bool) (k q i:Nat) (hq:q<15) (hl:q<l.length) (hi:i<m.length) (hm:m.getD i 0=q+1) (hc:codeAt m i=numb (l.take (q+1))) :
  nextFrom m l (k+1) q=(q+1,0,i):=by
 obtain⟨f,a⟩:=codeAt_lt m i (q+1) hi hm (by omega);rw [hc] at f a;obtain⟨j,g,b,c,d⟩:=code_sym m q _ hq f a;have e:=code_inj m j i g hi (by omega) (by rw [b,hm]) (by rw [c,hc]);subst e;rw [nextFrom,if_neg (by omega),if_pos a,d]
theorem next_miss1 (m:List Nat) (l:List Bool) (k q:Nat) (hq:q<15) (hl:q<l.length) (hge:fst m (q+1)<=numb (l.take (q+1))) (hno:∀i,i<m.length->¬ (m.getD i 0=q+1/\codeAt m i=numb (l.take (q+1)))) :
  nextFrom m l (k+1) q=nextFrom m l k (q+1)/\fst m (q+1)+tal m (q+1)<=numb (l.take (q+1)):=by
 have c:¬ numb (l.take (q+1))<fst m (q+1)+tal m (q+1):=fun h=>by
  obtain⟨j,d,a,b,_⟩:=code_sym m q _ hq hge h;exact hno j d ⟨a,b⟩
 rw [nextFrom,if_neg (by omega),if_neg c];exact⟨rfl,by omega⟩
end PH
theorem Vw (A:Option Addr) (n c:Nat) (m:List Nat) (H:Sp w0 L w) (hn:n=m.length) (hb:Ent L fun w=>Rd w A (cells64 (castI m))) (hl:n<=1024) (h15:∀x ∈ m,x<=15) (hm:mayBook m=false) :
  Calls Tryd.prog 159 #[.slice A n c] w fun e w'=>e=.returned (.tuple #[.pointer none,.int .i64 20])/\Sp w0 L w' :=
 (WY A n c m H hn hb hl h15).mono fun e w' h=>by rw [if_neg (by rw [hm]; decide)] at h; exact h
theorem Vj (A:Option Addr) (n c:Nat) (m:List Nat) (H:Sp w0 L w) (hn:n=m.length) (hb:Ent L fun w=>Rd w A (cells64 (castI m))) (hl:n<=1024) (h15:∀x ∈ m,x<=15) (hm:mayBook m=true) :
  Calls Tryd.prog 159 #[.slice A n c] w fun e w'=>∃g v,e=.returned (.tuple #[.pointer (some ⟨g,0,none⟩),.int .i64 0])/\Sp w0 (Row 3 1 v (PH.rows m).length (cellsN (PH.rows m))::BkB g m v (mostOf m)::L) w' :=
 (WY A n c m H hn hb hl h15).mono fun e w' h=>by rw [if_pos hm] at h; exact h
def fxl (i:Nat):Nat:=if i<144 then 8 else if i<256 then 9 else if i<280 then 7 else 8
def fixedL:List Nat:=(List.range 288).map fxl
namespace PH
def nat (l:List Int):List Nat:=l.map Int.toNat
def stI (l:List Int):Int:=if may l=true then PH.state (nat l) else 0
def erI (l:List Int):Int:=if may l=true then 0 else 1
def ecI (l:List Int):Int:=if may l=true then (if PH.state (nat l)=1 then 20 else 0) else 1
def okB (l:List Int):Bool:=may l && mayBook (nat l)
def enI (l:List Int):Int:=if may l=true then 20 else 1
def cn (l:List Int):Nat:=if ecI l=0 then l.length else 0
def crow (l:List Int):List Value:=if ecI l=0 then rowU (codeAt (nat l)) l.length else []
theorem may_split {l:List Int} (h:may l=true):l=castI (nat l)/\(nat l).length<=1024/\∀n ∈ nat l,n<=15:=by
 obtain⟨m,a,b,c⟩:=may_nat h;have:nat l=m:=by
  unfold nat;rw [a,List.map_map];refine(List.map_congr_left fun n _=>?_).trans (List.map_id m);show((n:Int)).toNat=n;omega
 rw [this];exact⟨a,b,c⟩
theorem nat_len (l:List Int):(nat l).length=l.length:=by simp [nat]
theorem sum_of_not_many {m:List Nat} (h:¬ PH.state m=1):sum m<=32768:=by
 rcases Nat.lt_or_ge 32768 (sum m) with q | q
 ·exfalso; apply h
  unfold PH.state;rw [if_neg (by omega),if_pos q]
 ·exact q
theorem nextFrom_err (m:List Nat) (l:List Bool) (k n:Nat) (hn:n<=l.length) (hk:n+k<=15) (hk0:n+k<=l.length∨True) :
  n<=(nextFrom m l k n).1/\(nextFrom m l k n).1<=l.length/\((nextFrom m l k n).2.1=0/\n+1<=(nextFrom m l k n).1∨(nextFrom m l k n).2.1=4∨(nextFrom m l k n).2.1=20):=by
 induction k generalizing n with
 | zero=>exact⟨Nat.le_refl _,hn,.inr (.inr rfl)⟩
 | succ k ih =>
  rw [nextFrom];by_cases h:l.length<=n
  ·rw [if_pos h]; exact⟨Nat.le_refl _,hn,.inr (.inl rfl)⟩
  ·rw [if_neg h];by_cases d:numb (l.take (n+1))<fst m (n+1)+tal m (n+1)
   ·rw [if_pos d];exact⟨by show n<=n+1; omega,by show n+1<=_; omega,.inl ⟨rfl,Nat.le_refl _⟩⟩
   ·rw [if_neg d];obtain⟨a,b,c⟩:=ih (n+1) (by omega) (by omega) (.inr trivial);refine⟨by omega,b,?_⟩;rcases c with ⟨c1,c2⟩ | c | c
    ·exact .inl ⟨c1,by omega⟩
    ·exact .inr (.inl c)
    ·exact .inr (.inr c)
end PH
section
variable (A:Option Addr) (n c:Nat) (l:List Int) {w0 w:World} {L:List Pr}
theorem XH (H:Sp w0 L w) (hn:n=l.length) (hb:Ent L fun w=>Rd w A (cells64 l)) (hl:n<=1000000) :
  Calls Tryd.prog 103 #[.slice A n c] w fun e w'=>e=.returned (.tuple #[.int .i64 (PH.stI l),.int .i64 (PH.erI l)])/\Sp w0 L w':=by
 unfold PH.stI PH.erI;cases hm:PH.may l with
 | true =>
  obtain⟨a,b,d⟩:=PH.may_split hm;rw [if_pos rfl,if_pos rfl];exact Z0 A n c (PH.nat l) H (by rw [PH.nat_len]; exact hn) (by rw [<- a]; exact hb) (by rw [hn,<- PH.nat_len]; exact b) d
 | false =>
  rw [if_neg (by decide),if_neg (by decide)];exact Z3 A n c l H hn hb hm
theorem XI (H:Sp w0 L w) (hn:n=l.length) (hb:Ent L fun w=>Rd w A (cells64 l)) (hl:n<=1000000) :
  Calls Tryd.prog 102 #[.slice A n c] w fun e w'=>∃v,e=.returned (.tuple #[v,.int .i64 (PH.ecI l)])/\Sp w0 (Row 47 1 v (PH.cn l) (PH.crow l)::L) w':=by
 cases hm:PH.may l with
 | true =>
  obtain⟨d,f,g⟩:=PH.may_split hm;by_cases b:PH.state (PH.nat l)=1
  ·have a:PH.ecI l=20:=by unfold PH.ecI; rw [if_pos hm,if_pos b]
   unfold PH.cn PH.crow;rw [a,if_neg (by decide),if_neg (by decide)];exact(Y8 A n c (PH.nat l) H (by rw [PH.nat_len]; exact hn) (by rw [<- d]; exact hb) (by rw [hn,<- PH.nat_len]; exact f) g b).mono fun _ _ ⟨e,H2⟩=>⟨_,e,H2.rowNil _ _⟩
  ·have a:PH.ecI l=0:=by unfold PH.ecI; rw [if_pos hm,if_neg b]
   unfold PH.cn PH.crow;rw [a,if_pos rfl,if_pos rfl,<- hn];exact X7 A n c (PH.nat l) H (by rw [PH.nat_len]; exact hn) (by rw [<- d]; exact hb) (by rw [hn,<- PH.nat_len]; exact f) g (PH.sum_of_not_many b)
 | false =>
  have a:PH.ecI l=1:=by unfold PH.ecI; rw [if_neg (by rw [hm]; decide)]
  unfold PH.cn PH.crow;rw [a,if_neg (by decide),if_neg (by decide)];exact(XG A n c l H hn hb hm).mono fun _ _ ⟨e,H2⟩=>⟨_,e,H2.rowNil _ _⟩
theorem XJ (H:Sp w0 L w) (hn:n=l.length) (hb:Ent L fun w=>Rd w A (cells64 l)) (hl:n<=1000000) (hk:PH.okB l=false) :
  Calls Tryd.prog 159 #[.slice A n c] w fun e w'=>e=.returned (.tuple #[.pointer none,.int .i64 (PH.enI l)])/\Sp w0 L w':=by
 unfold PH.enI;unfold PH.okB at hk;cases hm:PH.may l with
 | true =>
  obtain⟨a,b,d⟩:=PH.may_split hm;rw [hm,Bool.true_and] at hk;rw [if_pos rfl];exact Vw A n c (PH.nat l) H (by rw [PH.nat_len]; exact hn) (by rw [<- a]; exact hb) (by rw [hn,<- PH.nat_len]; exact b) d hk
 | false =>
  rw [if_neg (by decide)];exact Vg A n c l H hn hb (by omega) hm
theorem Y9 (H:Sp w0 L w) (hn:n=l.length) (hb:Ent L fun w=>Rd w A (cells64 l)) (hk:PH.okB l=true) :
  Calls Tryd.prog 159 #[.slice A n c] w fun e w'=>∃g v,e=.returned (.tuple #[.pointer (some ⟨g,0,none⟩),.int .i64 0])/\Sp w0 (Row 3 1 v (PH.rows (PH.nat l)).length (cellsN (PH.rows (PH.nat l)))::BkB g (PH.nat l) v (mostOf (PH.nat l))::L) w':=by
 unfold PH.okB at hk;simp only [Bool.and_eq_true] at hk;obtain⟨a,b,d⟩:=PH.may_split hk.1;exact Vj A n c (PH.nat l) H (by rw [PH.nat_len]; exact hn) (by rw [<- a]; exact hb) (by rw [hn,<- PH.nat_len]; exact b) d hk.2
theorem Xt (H:Sp w0 L w) (hn:n=l.length) (hb:Ent L fun w=>Rd w A (cells64 l)) (hl:n<=1000000) :
  Calls Tryd.prog 101 #[.slice A n c] w fun e w'=>e=.returned (.int .i64 (if PH.okB l=true then 0 else PH.enI l))/\Sp w0 L w':=by
 unfold PH.enI PH.okB;cases hm:PH.may l with
 | true =>
  obtain⟨a,b,d⟩:=PH.may_split hm;rw [Bool.true_and];exact Vi A n c (PH.nat l) H (by rw [PH.nat_len]; exact hn) (by rw [<- a]; exact hb) (by rw [hn,<- PH.nat_len]; exact b) d
 | false =>
  rw [Bool.false_and,if_neg (by decide),if_neg (by decide)];exact WI A n c l H hn hb hm
end
theorem WJ (x:Int):bits .and .i64 x 7=x % 8:=by
 have a:(BitVec.ofInt 64 (7:Int)).toNat=7:=rfl;show IntKind.i64.wrap ((BitVec.ofInt 64 x &&& BitVec.ofInt 64 (7:Int)).toNat:Int)=_;rw [BitVec.toNat_and,BitVec.toNat_ofInt,a,nat_mask3,IntKind.wrap_i64];omega
end Go.Proofs.YteajimobgkempaaDoor

