/- A pack. -/
import Derived.Test.YteajimobgkempaaGreatDoorPk12
set_option linter.all false
set_option maxRecDepth 100000
set_option maxHeartbeats 8000000
namespace Go.Proofs.YteajimobgkempaaGreatDoor
variable {w0 w:World} {L:List Pr}
open Go.RowKit
theorem Vl (ad:Addr) (n c:Nat) (P S R:List PK) (a b:Nat) (H:Sp w0 (RowK (.slice (some ad) n c) (P++S++R)::L) w) (hn:n=P.length+S.length+R.length) (hl:n<=1000000) (ha:P.length=a) (hb:a+S.length=b) :
  Calls Tryz.prog 155 #[.slice (some ad) n c,.int .i64 a,.int .i64 b,cmpF] w fun e w'=>e=.returned (.tuple #[]) /\
   Sp w0 (RowK (.slice (some ad) n c) (P++SS.isort keyK S++R)::L) w':=by
 have h:=TP ad n c (P++S++R) a b H (by simp only [List.length_append]; omega) hl (by omega) (by omega);have d:(P++S++R).take a=P:=by rw [List.append_assoc,List.take_append_of_le_length (by omega),List.take_of_length_le (by omega)]
 have f:((P++S++R).drop a).take (b - a)=S:=by
  rw [List.append_assoc,List.drop_append,List.drop_eq_nil_of_le (by omega),List.nil_append,show a - P.length=0 by omega,List.drop_zero,List.take_append_of_le_length (by omega),List.take_of_length_le (by omega)]
 have g:(P++S++R).drop b=R:=by
  rw [List.drop_append,List.drop_eq_nil_of_le (by rw [List.length_append]; omega),List.nil_append,List.length_append,show b - (P.length+S.length)=0 by omega,List.drop_zero]
 rw [d,f,g] at h;exact h
def StA (s:Nat) (l D:List PK) (a:Nat):Prop:=∃k d l0 y,SS.Chs keyK s k d l0/\l=l0++y/\D=d++y/\a=k * s
def StB (s:Nat) (l D:List PK):Prop:=∃k d l0 y,SS.Chs keyK s k d l0/\l=l0++y/\D=d++SS.isort keyK y/\y.length<s
def StC (s:Nat) (l D:List PK) (a:Nat):Prop:=∃j k D0 L0 d l1 y,SS.Chs keyK (s+s) j D0 L0/\SS.Chs keyK s k d l1/\l=L0++l1++y/\D=D0++d++SS.isort keyK y/\y.length<s/\a=j * (s+s)
theorem Ul {s:Nat} {l D:List PK} {a n:Nat} (h:StA s l D a) (hn:l.length=n) (hb:a+s<=n):∃P S R,D=P++S++R/\P.length=a/\S.length=s/\n=P.length+S.length+R.length/\StA s l (P++SS.isort keyK S++R) (a+s):=by
 obtain⟨k,d,c,y,b,rfl,rfl,rfl⟩:=h;have e:=b.len;rw [List.length_append] at hn;refine⟨d,y.take s,y.drop s,by rw [List.append_assoc,List.take_append_drop],e.1,by rw [List.length_take]; omega,by rw [List.length_take,List.length_drop]; omega,k+1,_,c++y.take s,y.drop s,b.snoc (by rw [List.length_take]; omega),by rw [List.append_assoc,List.take_append_drop],rfl,by rw [Nat.succ_mul]⟩
theorem Tg {s:Nat} {l D:List PK} {a n:Nat} (h:StA s l D a) (hn:l.length=n) (han:a<=n) (hb:n<a+s):∃P S R,D=P++S++R/\P.length=a/\a+S.length=n/\n=P.length+S.length+R.length/\StB s l (P++SS.isort keyK S++R):=by
 obtain⟨k,d,c,y,b,rfl,rfl,rfl⟩:=h;have e:=b.len;rw [List.length_append] at hn;refine⟨d,y,[],by rw [List.append_nil],e.1,by omega,by simp; omega,k,d,c,y,b,rfl,by rw [List.append_nil],by omega⟩
theorem Um {s:Nat} {l D:List PK} {a n:Nat} (h:StC s l D a) (hn:l.length=n) (hb:a+(s+s)<=n):∃X U V Y,D=X++U++V++Y/\X.length=a/\U.length=s/\V.length=s/\n=X.length+U.length+V.length+Y.length/\SS.Srt keyK U/\SS.Srt keyK V/\StC s l (X++SS.mrg keyK U V++Y) (a+(s+s)):=by
 obtain⟨j,k,p,v,d,A,y,q,r,rfl,rfl,w,rfl⟩:=h;have b:=q.len;have f:=r.len;rw [List.length_append,List.length_append,b.2,f.2] at hn;have g:∃k',k=k'+2:=by
  rcases k with _ | _ | k
  ·simp at hn; omega
  ·simp at hn; omega
  ·exact⟨k,rfl⟩
 obtain⟨k,rfl⟩:=g;obtain⟨i,B,C,c,rfl,rfl,x⟩:=r.inv;obtain⟨m,t,z,e,rfl,rfl,u⟩:=x.inv;have o:=u.len;have E:(k+2) * s=k * s+s+s:=by rw [Nat.add_mul]; omega
 refine⟨p,SS.isort keyK i,SS.isort keyK m,t++SS.isort keyK y,by simp,b.1,by rw [SS.len_isort,c],by rw [SS.len_isort,e],by rw [SS.len_isort,SS.len_isort,List.length_append,SS.len_isort,c,e,b.1,o.1]; omega,SS.srt_isort _,SS.srt_isort _,j+1,k,p++SS.isort keyK (i++m),v++(i++m),t,z,y,q.snoc (by rw [List.length_append,c,e]),u,by simp,by rw [SS.mrg_isorts]; simp,w,by rw [Nat.succ_mul]⟩
theorem Th {s:Nat} {l D:List PK} {a n:Nat} (h:StC s l D a) (hn:l.length=n) (hb:n<a+(s+s)):(a+s<n->∃X U V Y,D=X++U++V++Y/\X.length=a/\U.length=s/\a+s+V.length=n/\n=X.length+U.length+V.length+Y.length/\SS.Srt keyK U/\SS.Srt keyK V/\StB (s+s) l (X++SS.mrg keyK U V++Y))/\(¬ a+s<n->StB (s+s) l D):=by
 obtain⟨j,k,e,g,d,r,y,f,i,rfl,rfl,t,rfl⟩:=h;have b:=f.len;have m:=i.len;rw [List.length_append,List.length_append,b.2,m.2] at hn;rcases k with _ | k
 ·obtain⟨rfl,rfl⟩:=i.zero;simp only [Nat.zero_mul,Nat.add_zero] at hn;refine⟨fun h=>by omega,fun _=>⟨j,e,g,y,f,by simp,by simp,by omega⟩⟩
 ·have u:(k+1) * s=k * s+s:=Nat.succ_mul _ _;have p:k=0∨s<=k * s:=by
   rcases k with _ | k
   ·exact .inl rfl
   ·right; rw [Nat.succ_mul]; omega
  obtain rfl:k=0:=by
   rcases p with h | h
   ·exact h
   ·omega
  obtain⟨o,v,w,c,rfl,rfl,q⟩:=i.inv;obtain⟨rfl,rfl⟩:=q.zero;simp only [Nat.zero_add,Nat.one_mul] at hn;refine⟨fun _=>⟨e,SS.isort keyK o,SS.isort keyK y,[],by simp,b.1,by rw [SS.len_isort,c],by rw [SS.len_isort]; omega,by rw [SS.len_isort,SS.len_isort,c,b.1]; simp; omega,SS.srt_isort _,SS.srt_isort _,j,e,g,o++y,f,by simp,by rw [SS.mrg_isorts]; simp,by rw [List.length_append]; omega⟩,fun h=>?_⟩;have:y=[]:=List.eq_nil_of_length_eq_zero (by omega);subst this;exact⟨j,e,g,o,f,by simp,by simp [SS.isort,SS.mrg],by omega⟩
theorem Vn {s:Nat} {l D:List PK} (h:StB s l D):StC s l D 0:=by
 obtain⟨k,d,a,y,b,rfl,rfl,c⟩:=h;exact⟨0,k,[],[],d,a,y,.nil,b,rfl,rfl,c,by simp⟩
theorem Un {s n:Nat} {l D:List PK} (h:StB s l D) (hn:l.length=n) (hs:n<=s):D=SS.isort keyK l:=by
 obtain⟨k,d,b,y,a,rfl,rfl,c⟩:=h;rw [List.length_append] at hn;exact a.end_ (by omega)
theorem Vo (ad:Addr) (n c:Nat) (l:List PK) (H:Sp w0 (RowK (.slice (some ad) n c) l::L) w) (hn:l.length=n) (hl:n<=1000000) :
  Calls Tryz.prog 142 #[.slice (some ad) n c,.int .i64 n,cmpF] w fun e w'=>e=.returned (.tuple #[]) /\
   Sp w0 (RowK (.slice (some ad) n c) (SS.isort keyK l)::L) w':=by
 have u:=hid hn;have v:StA 20 l l 0:=⟨0,[],[],l,.nil,rfl,rfl,by simp⟩;have x:=hid v;clear v hn;go_enter Tryz.func142,Tryz.ntmps142
 go_wp2_with fail
 go_loopw [7,8] (fun av bv wr=>∃(a b:Nat) (D:List PK),av=.int .i64 a/\bv=.int .i64 b/\Hid (b=a+20/\StA 20 l D a)/\a<=n/\b<=n+20/\Sp w0 (RowK (.slice (some ad) n c) D::L) wr) (fun _ bv _=>n+20 - (intOf bv).toNat)
 case atStart=>exact⟨0,20,l,rfl,rfl,hid ⟨rfl,x.out⟩,Nat.zero_le _,by omega,H⟩
 case round =>
  clear H x;obtain⟨a,b,D,rfl,rfl,d,y,E,H⟩:=hrel;by_cases F:b<=n
  ·have k1:(b:Int)<=(n:Int):=by omega
   obtain⟨P,S,R,t,f,h,j,o⟩:=Ul d.out.2 u.out (by have:=d.out.1; omega);subst t;have i:=Vl ad n c P S R a b H j hl f (by have:=d.out.1; omega);have k:=hid i;have C:=hid o;have kb:b<=1000000:=by omega
   clear i o f h j;go_wp2_with fail
   refine k.out.mono ?_;rintro _ G ⟨rfl,p⟩;clear k H;go_wp2_with fail
   go_roundw
   case rel =>
    refine⟨b,b+20,_,rfl,by go_num,hid ⟨rfl,?_⟩,F,by omega,p⟩;rw [d.out.1];exact C.out
   case measure=>first | (simp [intOf]; omega) | simp [intOf]
  ·have k1:¬ (b:Int)<=(n:Int):=by omega
   obtain⟨P,S,R,t,f,h,j,o⟩:=Tg d.out.2 u.out y (by have:=d.out.1; omega);subst t;have i:=Vl ad n c P S R a n H j hl f h;generalize P++SS.isort keyK S++R=D at i o;have k:=hid i;have C:=hid o;clear i o f h j;go_wp2_with fail
   refine k.out.mono ?_;rintro _ G ⟨rfl,p⟩;clear k H;go_wp2_with fail
   go_loopw [6] (fun sv wr=>∃(s:Nat) (D:List PK),sv=.int .i64 s/\20<=s/\s<=2 * n+20/\Hid (StB s l D)/\Sp w0 (RowK (.slice (some ad) n c) D::L) wr) (fun sv _=>n - (intOf sv).toNat)
   case atStart=>exact⟨20,D,rfl,Nat.le_refl _,by omega,C,p⟩
   case round =>
    clear p C d;obtain⟨s,D,rfl,J,a0,d,H⟩:=hrel;by_cases a1:s<n
    ·have k2:(s:Int)<(n:Int):=by omega
     obtain⟨s2,z⟩:=exq (s+s);have y1:(2:Int) * (s:Int)=(s2:Int):=by omega
     have y2:(s:Int) * 2=(s2:Int):=by omega
     have g:=hid z;have K:s<s2:=by omega
     have M:s2<=2000000:=by omega
     have q:s2<=2 * n+20:=by omega
     clear z;go_wp2_with fail
     go_loopw [7,8] (fun av bv wr=>∃(a b:Nat) (D:List PK),av=.int .i64 a/\bv=.int .i64 b/\Hid (b=a+s2/\StC s l D a)/\a<=n/\b<=n+s2/\Sp w0 (RowK (.slice (some ad) n c) D::L) wr) (fun _ bv _=>n+s2 - (intOf bv).toNat)
     case atStart=>exact⟨0,s2,D,rfl,rfl,hid ⟨by omega,Vn d.out⟩,Nat.zero_le _,by omega,H⟩
     case round =>
      clear H d;obtain⟨a,b,D,rfl,rfl,d,y,E,H⟩:=hrel;by_cases F:b<=n
      ·have k3:(b:Int)<=(n:Int):=by omega
       obtain⟨X,U,V,Y,t,f,h,j,o,N,O,Q⟩:=Um d.out.2 u.out (by have:=d.out.1; have:=g.out; omega);subst t;obtain⟨m,A⟩:=exq (a+s);have y3:(a:Int)+(s:Int)=(m:Int):=by omega
       have i:=UX ad n c hl w0 L (b - a+1) X U V Y a m b (by omega) o f (by omega) (by have:=d.out.1; have:=g.out; omega) (by rintro rfl; simp at h; omega) (by rintro rfl; simp at j; omega) N O _ H;have k:=hid i;have I:=hid Q;clear i f h j o N O Q A;go_wp2_with fail
       refine k.out.mono ?_;rintro _ G ⟨rfl,p⟩;clear k H;go_wp2_with fail
       go_roundw
       case rel =>
        refine⟨b,b+s2,_,rfl,by go_num,hid ⟨rfl,?_⟩,F,by omega,p⟩;have r:=I.out;rw [g.out,<- d.out.1] at r;exact r
       case measure=>first | (simp [intOf]; omega) | simp [intOf]
      ·have k3:¬ (b:Int)<=(n:Int):=by omega
       obtain⟨f,h⟩:=Th d.out.2 u.out (by have:=d.out.1; have:=g.out; omega);obtain⟨m,A⟩:=exq (a+s);have y3:(a:Int)+(s:Int)=(m:Int):=by omega
       rw [A] at f h;by_cases B:m<n
       ·have k4:(m:Int)<(n:Int):=by omega
        obtain⟨X,U,V,Y,t,T,W,Z,q4,q5,q6,q7⟩:=f B;subst t;have i:=UX ad n c hl w0 L (n - a+1) X U V Y a m n (by omega) q4 T (by omega) (by omega) (by rintro rfl; simp at W; omega) (by rintro rfl; simp at Z; omega) q5 q6 _ H;have k:=hid i;have I:=hid q7;clear i f h T W Z q4 q5 q6 q7 A;go_wp2_with fail
        refine k.out.mono ?_;rintro _ G ⟨rfl,p⟩;clear k H;go_wp2_with fail
        go_roundw
        case rel =>
         refine⟨s2,_,rfl,by omega,q,hid ?_,p⟩;have r:=I.out;rw [g.out] at r;exact r
        case measure=>first | (simp [intOf]; omega) | simp [intOf]
       ·have k4:¬ (m:Int)<(n:Int):=by omega
        have j:=h B;have H3:=hid j;clear f h j A;go_wp2_with fail
        go_roundw
        case rel =>
         refine⟨s2,D,rfl,by omega,q,hid ?_,H⟩;have r:=H3.out;rw [g.out] at r;exact r
        case measure=>first | (simp [intOf]; omega) | simp [intOf]
    ·have k2:¬ (s:Int)<(n:Int):=by omega
     have hd:=Un d.out u.out (by omega);subst hd;go_wp2_with fail
     go_end0;exact⟨rfl,H⟩
theorem Xn (ad:Addr) (n c:Nat) (l:List PK) (H:Sp w0 (RowK (.slice (some ad) n c) l::L) w) (hn:l.length=n) (hl:n<=1000000) :
  Calls Tryz.prog 120 #[.slice (some ad) n c,cmpF] w fun e w'=>e=.returned (.tuple #[]) /\
   Sp w0 (RowK (.slice (some ad) n c) (SS.isort keyK l)::L) w':=by
 have a:=Vo ad n c l H hn hl;have b:=hid a;clear a hn;go_enter Tryz.func120,Tryz.ntmps120
 go_wp2_with fail
 refine b.out.mono ?_;rintro _ f ⟨rfl,d⟩;go_wp2_with fail
 go_end0;exact⟨rfl,d⟩
theorem infoK:(Tryz.prog.info? 143).map (fun i=>(i.zero,i.size,i.bytes))=some (some (.agg #[.int .i64 0,.int .i64 0,.pointer none]),3,24):=by kernel_rfl
theorem Uo (n:Nat) (H:Sp w0 L w) (hn:n<=1000000000) :
  Calls Tryz.prog 141 #[.slice none 0 0,.int .i64 n] w fun e w'=>∃v,e=.returned v/\Sp w0 (Row 143 3 v 0 []::L) w':=by
 obtain⟨h,i,a,b,d⟩:=info_parts infoK;by_cases j:0<n
 ·have k:(0:Int)<(n:Int):=by omega
  go_enter Tryz.func141,Tryz.ntmps141
  go_wp2_with (at_builtin; refine Z3 rfl _ _ 140 3 rfl 143 h (.agg #[.int .i64 0,.int .i64 0,.pointer none]) 3 24 Tryz.underlying140 Tryz.underlying3 i a b d rfl (by decide) n rfl rfl j hn (by decide) H ?_)
  intro g c m o p l;have f:=l.rowCut 0 (Nat.zero_le _);rw [Nat.zero_mul,List.take_zero] at f;have q:(0:Int)<=(c:Int):=by omega
  go_wp2_with fail
  go_ret;exact⟨_,rfl,f⟩
 ·have k:¬ (0:Int)<(n:Int):=by omega
  obtain rfl:n=0:=by omega
  go_enter Tryz.func141,Tryz.ntmps141
  go_wp2_with fail
  go_ret;exact⟨_,rfl,H.rowNil _ _⟩
theorem WI (ad:Addr) (k c:Nat) (qs:List Part) (H:Sp w0 L w) (hk:qs.length=k) (hb:Ent L (fun w=>Rd w (some ad) (qs.map Part.val))) (hq:∀q ∈ qs,q.Ok L 3) (hs:Part.sum qs<=1000000) (hkm:k<=1000000) :
  Calls Tryz.prog 119 #[.slice (some ad) k c] w fun e w'=>∃v,e=.returned v/\Sp w0 (Row 143 3 v (Part.sum qs) (Part.cat qs)::L) w':=by
 obtain⟨i0,E,F,G,I⟩:=info_parts infoK;obtain⟨N,B⟩:=exq (Part.sum qs);have p:∀i,Part.sum (qs.take i)<=N:=fun i=>by rw [<- B]; exact Part.sum_take qs i
 have T:=hid hk;have HB:=hid hb;have HQ:=hid hq;have U:=hid B;have f:=hid p;have a0:N<=1000000:=by omega
 rw [B];have g:∀i,i<k->∃q,qs[i]?=some q/\q.Ok L 3/\qs.take (i+1)=qs.take i++[q]/\∀w',Sp w0 L w'->w'.cell? (ad.add i)=some (.slice q.A q.n q.c):=fun i E=>by
  have b:i<qs.length:=by rw [hk]; exact E
  refine⟨qs[i],List.getElem?_eq_getElem b,hq _ (List.getElem_mem b),List.take_succ_eq_append_getElem b,fun w' H'=>?_⟩;obtain⟨a1,e,t⟩:=hb _ _ H' (by intro h; have:=congrArg List.length h; simp at this; subst this; simp at b);injection e with e
  subst e;refine t i _ ?_;rw [List.getElem?_map,List.getElem?_eq_getElem b]; rfl
 have V:=hid g;clear hk hb hq B p hs g;go_enter Tryz.func119,Tryz.ntmps119
 go_wp2_with fail
 go_loopw [3,11] (fun sv iv wr=>∃(i s:Nat),iv=.int .i64 i/\sv=.int .i64 s/\i<=k/\Hid (Part.sum (qs.take i)=s)/\Sp w0 L wr) (fun _ iv _=>k - (intOf iv).toNat)
 case atStart=>exact⟨0,0,rfl,rfl,Nat.zero_le _,hid rfl,H⟩
 case round =>
  clear H;obtain⟨i,s,rfl,rfl,a2,J,H⟩:=hrel;have a3:s<=N:=by rw [<- J.out]; exact f.out i
  by_cases K:i<k
  ·have M:(i:Int)<(k:Int):=by omega
   obtain⟨q,O,C,n,u⟩:=V.out i K;have t:=u _ H;have a:Part.sum (qs.take (i+1))=s+q.n:=by rw [n,Part.sum_snoc,J.out]
   have l:s+q.n<=N:=by rw [<- a]; exact f.out _
   have d:=hid a;obtain⟨W,D,Y,Z⟩:=q;simp only at t d l;have k2:¬ (s:Int)+(D:Int)<0:=by omega
   clear O C n u a;go_wp2_with fail
   go_roundw
   case rel=>exact⟨i+1,s+D,by go_num,by go_num,by omega,d,H⟩
   case measure=>first | (simp [intOf]; omega) | simp [intOf]
  ·have M:¬ (i:Int)<(k:Int):=by omega
   obtain rfl:i=k:=by omega
   have x:s=N:=by rw [<- J.out,<- U.out,List.take_of_length_le (by rw [T.out]; exact Nat.le_refl _)]
   subst x;have hg:=Uo s H (by omega);have y:=hid hg;clear hg;go_wp2_with fail
   refine y.out.mono ?_;rintro _ w2 ⟨v,rfl,H2⟩;clear y H;go_wp2_with fail
   go_loopw [6,27] (fun vv jv wr=>∃(j:Nat),jv=.int .i64 j/\j<=i/\Sp w0 (Row 143 3 vv (Part.sum (qs.take j)) (Part.cat (qs.take j))::L) wr) (fun _ jv _=>i - (intOf jv).toNat)
   case atStart=>exact⟨0,rfl,Nat.zero_le _,H2⟩
   case round =>
    rename_i v0 _
    clear H2
    rename_i u6 u27
    obtain⟨j,rfl,a4,H⟩:=hrel;obtain⟨r,m⟩:=exq (Part.sum (qs.take j));obtain⟨X,o⟩:=exq (Part.cat (qs.take j));have a5:r<=s:=by rw [<- m]; exact f.out j
    rw [m,o] at H;obtain⟨VA,Vc,P,_,_⟩:=Row.form H 0 rfl;subst P;by_cases Q:j<i
    ·have M:(j:Int)<(i:Int):=by omega
     obtain⟨q,O,C,n,u⟩:=V.out j Q;have t:=u _ H.tail;have a:Part.sum (qs.take (j+1))=r+q.n:=by rw [n,Part.sum_snoc,m]
     have l:r+q.n<=s:=by rw [<- a]; exact f.out _
     have z:Part.cat (qs.take (j+1))=X++q.xs:=by rw [n,Part.cat_snoc,o]
     have d:=hid a;have A:=hid z;have R:=hid C;obtain⟨W,D,Y,Z⟩:=q;simp only at t d A l;clear O C n u a z m o;go_wp2_with (at_builtin; refine wpList_append_sp rfl _ _ 140 rfl 143 i0 (.agg #[.int .i64 0,.int .i64 0,.pointer none]) 3 24 Tryz.underlying140 E F G I rfl (by decide) _ r X rfl H W D Y Z rfl R.out.1 (R.out.2.1 _ _ H.tail) R.out.2.2 (by unfold maxLen; omega) (by omega) ?_)
     intro v9 w9 H9 _;go_wp2_with fail
     go_roundw
     case rel=>exact⟨j+1,by go_num,by omega,by rw [d.out,A.out]; exact H9⟩
     case measure=>first | (simp [intOf]; omega) | simp [intOf]
    ·have M:¬ (j:Int)<(i:Int):=by omega
     obtain rfl:j=i:=by omega
     have S:qs.take j=qs:=List.take_of_length_le (by rw [T.out]; exact Nat.le_refl _);rw [S,U.out] at m;rw [S] at o;have HR:=hid m;have HX:=hid o;clear m o S;go_wp2_with fail
     go_ret;exact⟨_,rfl,by rw [HX.out,HR.out]; exact H⟩
theorem Wg (A1 A2:Option Addr) (n1 c1 n2 c2:Nat) (l1 l2:List PK) (H:Sp w0 L w) (h1:l1.length=n1) (h2:l2.length=n2) (hb1:Ent L (fun w=>Rd w A1 (cellsK l1))) (hb2:Ent L (fun w=>Rd w A2 (cellsK l2))) (h0:0<n1) (hs:n1+n2<=1000000) :
  Calls Tryz.prog 86 #[.slice A1 n1 c1,.slice A2 n2 c2] w fun e w'=>∃v,e=.returned v/\Sp w0 (RowK v (SS.isort keyK (l1++l2))::L) w':=by
 have j:=H.newBk [.slice A1 n1 c1,.slice A2 n2 c2] 140;have k:=Rd.of_blk (j.blk 0 rfl);have f:=WI ⟨w.heap.size,0,none⟩ 2 2 [⟨A1,n1,c1,cellsK l1⟩,⟨A2,n2,c2,cellsK l2⟩] j rfl (fun _ _ H=>Rd.of_blk (H.blk 0 rfl))
  (fun q hq=>by
   rcases List.mem_cons.1 hq with rfl | hq
   ·exact⟨by rw [ZN,h1],hb1.cons _,Y5 _⟩
   ·rw [List.mem_singleton.1 hq];exact⟨by rw [ZN,h2],hb2.cons _,Y5 _⟩) (by simp [Part.sum]; omega) (by omega)
 have b:Part.sum [⟨A1,n1,c1,cellsK l1⟩,⟨A2,n2,c2,cellsK l2⟩]=(l1++l2).length:=by simp [Part.sum,h1,h2]
 have c:Part.cat [⟨A1,n1,c1,cellsK l1⟩,⟨A2,n2,c2,cellsK l2⟩]=cellsK (l1++l2):=by simp [Part.cat,ZE]
 rw [b,c] at f;have i:=hid f;have d:(l1++l2).length=n1+n2:=by rw [List.length_append,h1,h2]
 have a:=hid d;clear f b c k h1 h2 hb1 hb2 d;go_enter Tryz.func86,Tryz.ntmps86
 go_wp2_with fail
 refine i.out.mono ?_;rintro _ w2 ⟨v,rfl,g⟩;replace g:Sp w0 (RowK v (l1++l2)::L) w2:=g.pick 2 [0];clear i j;obtain⟨V,p,l,_,_⟩:=RowK.form g 0 rfl;subst l;rw [a.out] at g ⊢;obtain⟨ad,m⟩:∃ad,V=some ad:=by
  obtain⟨t,u,n,o,_,_⟩:=g.row_rd 0 rfl;injection n with n
  obtain⟨ad,r,_⟩:=o (by
   intro h;have:=ZN (l1++l2);rw [h,a.out] at this;simp at this; omega)
  exact⟨ad,by rw [n,r]⟩
 subst m;have f:=Xn ad (n1+n2) p (l1++l2) g a.out hs;unfold cmpF at f;have i:=hid f;clear f;go_wp2_with fail
 refine i.out.mono ?_;rintro _ x ⟨rfl,s⟩;go_wp2_with fail
 go_ret;exact⟨_,rfl,s⟩
abbrev PoolT:=List (Nat × PK × PK)
def Pool (F:PoolT):Pr:=fun h=>∀e ∈ F,h e.1=some (.cells (e.2.1.cells++e.2.2.cells).toArray 145 (0,0))
inductive Enc (F:PoolT):Nat->List Nat->PK->Prop
 | leaf (c s:Nat):Enc F c [s] ⟨(c:Int),(s:Int),none⟩
 | node {ca cb:Nat} {sa sb:List Nat} {pa pb:PK} {g:Nat} (h:(g,pa,pb) ∈ F) (ha:Enc F ca sa pa) (hb:Enc F cb sb pb):Enc F (ca+cb) (sa++sb) ⟨((ca+cb:Nat):Int),0,some g⟩
theorem Enc.count {F:PoolT} {c:Nat} {s:List Nat} {x:PK} (h:Enc F c s x):x.c=(c:Int):=by cases h <;> rfl
theorem Enc.mono {F F' : PoolT} {c:Nat} {s:List Nat} {x:PK} (h:Enc F c s x) (k:∀e ∈ F,e ∈ F'):Enc F' c s x:=by
 induction h with
 | leaf=>exact .leaf _ _
 | node h _ _ iha ihb=>exact .node (k _ h) iha ihb
theorem Enc.one {F:PoolT} {c:Nat} {s:List Nat} {x:PK} (h:Enc F c s x):0<s.length:=by
 induction h with
 | leaf=>simp
 | node h _ _ iha ihb=>rw [List.length_append]; omega
theorem Pool.get {F:PoolT} (H:Sp w0 L w) (k:Nat) (hk:L[k]?=some (Pool F)) {g:Nat} {pa pb:PK} (h:(g,pa,pb) ∈ F) :
  w.cell? ⟨g,0,none⟩=some (.int .i64 pa.c)/\w.cell? ⟨g,1,none⟩=some (.int .i64 pa.s)/\w.cell? ⟨g,2,none⟩=some pa.ptr/\w.cell? ⟨g,3,none⟩=some (.int .i64 pb.c)/\w.cell? ⟨g,4,none⟩=some (.int .i64 pb.s)/\w.cell? ⟨g,5,none⟩=some pb.ptr:=by
 obtain⟨_,_,_,own,b⟩:=H;have c:=(Zz (b k _ hk _ h)).2;have a:Blk w g 145 (pa.cells++pb.cells):=c;exact⟨a.cell 0,a.cell 1,a.cell 2,a.cell 3,a.cell 4,a.cell 5⟩
theorem Pool.nil (H:Sp w0 L w):Sp w0 (Pool []::L) w:=by
 have:=H.rowNil 0 0;exact this.imp fun _ _ e he=>by cases he
theorem Pool.cons {F:PoolT} {g:Nat} {pa pb:PK} (H:Sp w0 (Bk g 145 (pa.cells++pb.cells)::Pool F::L) w):Sp w0 (Pool ((g,pa,pb)::F)::L) w:=by
 refine H.star.imp fun p hp=>?_;obtain⟨s,b,c⟩:=hp;intro e a;rcases List.mem_cons.1 a with rfl | a
 ·exact(Zz b).2
 ·exact(Zz (c e a)).2
def cntR (n:Nat) (acc:List Nat):List Value:=(List.range n).map fun i=>.int .i64 (acc.count i:Int)
theorem Zx (n i:Nat) (acc:List Nat) (h:i<n):(cntR n acc)[i]?=some (.int .i64 (acc.count i:Int)):=by
 unfold cntR;rw [List.getElem?_map,List.getElem?_range h]; rfl
theorem Yh (n:Nat) (acc:List Nat):(cntR n acc).length=n:=by simp [cntR]
theorem ZK (n s:Nat) (acc:List Nat) (v:Int) (hv:v=((acc.count s:Nat):Int)+1):(cntR n acc).set s (.int .i64 v)=cntR n (acc++[s]):=by
 apply List.ext_getElem?;intro i;rw [List.getElem?_set];by_cases h:i<n
 ·rw [Zx _ _ _ h,Zx _ _ _ h,List.count_append,List.count_singleton];by_cases e:s=i
  ·subst e;rw [if_pos rfl,if_pos (by rw [Yh]; exact h),hv];simp
  ·rw [if_neg e];have:(s == i)=false:=by rw [beq_eq_false_iff_ne]; exact e
   simp [e]
 ·have a:(cntR n acc)[i]?=none:=List.getElem?_eq_none (by rw [Yh]; omega);have b:(cntR n (acc++[s]))[i]?=none:=List.getElem?_eq_none (by rw [Yh]; omega);rw [a,b];split
  ·rw [if_neg (by rw [Yh]; omega)]
  ·rfl
theorem Vp {F:PoolT} {w0:World} {n:Nat} {v:Value} (hn:n<=1000000) {cc:Nat} {s:List Nat} {x:PK} (hE:Enc F cc s x) :
  ∀(L:List Pr) (acc:List Nat) (w:World),(∀z ∈ s,z<n)->acc.length+s.length<=1000000000->Sp w0 (Row 3 1 v n (cntR n acc)::Pool F::L) w ->
  Calls Tryz.prog 87 #[x.val,v] w fun e w'=>e=.returned (.tuple #[])/\Sp w0 (Row 3 1 v n (cntR n (acc++s))::Pool F::L) w':=by
 induction hE with
 | leaf c s =>
  intro L acc w f A H;have i:s<n:=f s (List.mem_singleton.2 rfl);unfold PK.val PK.ptr;simp only [Option.map_none];have h:=(H.newBk [.int .i64 c,.int .i64 s,.pointer none] 143).swap;clear H f;obtain⟨Q,R,G,_,B,l,b⟩:=h.rowSet i;subst G;rw [Zx _ _ _ i] at B;obtain⟨q,m⟩:=exq (acc.count s);have I:q<=1000000000:=by
   rw [<- m];refine Nat.le_trans List.count_le_length ?_;omega
  rw [m] at B;have S:(s:Int)<(n:Int):=by omega
  have a:=b (.int .i64 ((q:Int)+1));rw [ZK n s acc _ (by rw [m])] at a;have J:=hid a;clear a b m;go_enter Tryz.func87,Tryz.ntmps87
  go_wp2_with fail
  refine bodyPost_ret (results_none rfl _ _ _) rfl ?_;exact⟨rfl,J.out.pick 3 [0,2]⟩
 | @node ca cb sa sb pa pb g hF ha hb iha ihb =>
  intro L acc w f A H;rw [List.length_append] at A;unfold PK.val PK.ptr at *;simp only [Option.map_some] at *;have h:Sp w0 (Row 3 1 v n (cntR n acc)::Pool F::Bk w.heap.size 143 [.int .i64 ((ca+cb:Nat):Int),.int .i64 0,.pointer (some ⟨g,0,none⟩)]::L) (w.alloc (.cells #[.int .i64 ((ca+cb:Nat):Int),.int .i64 0,.pointer (some ⟨g,0,none⟩)] 143)):=(H.newBk [.int .i64 ((ca+cb:Nat):Int),.int .i64 0,.pointer (some ⟨g,0,none⟩)] 143).pick 3 [1,2,0];obtain⟨o,p,j,r,t,k⟩:=Pool.get h 1 rfl hF;have C:=iha _ acc _ (fun z l=>f z (List.mem_append_left _ l)) (by omega) h;have D:=fun(M:List Pr) w=>ihb M (acc++sa) w (fun z l=>f z (List.mem_append_right _ l)) (by rw [List.length_append]; omega);have u:=hid C;have E:=hid D;have K:=hid hF;obtain⟨cc,d⟩:∃cc:Int,((ca+cb:Nat):Int)=cc:=⟨_,rfl⟩;rw [d] at h u o p j r t k;rw [d];unfold PK.ptr at j k;clear d hF f iha ihb C D H ha hb;go_enter Tryz.func87,Tryz.ntmps87
  go_wp2_with fail
  refine u.out.mono ?_;rintro _ T ⟨rfl,y⟩;clear u h o p j r t k;obtain⟨o,p,j,r,t,k⟩:=Pool.get y 1 rfl K.out;have N:=y.cell 2 rfl 2;simp only [List.getElem?_cons_zero,List.getElem?_cons_succ] at N;unfold PK.ptr at j k;have O:=hid (E.out _ _ y);clear E;go_wp2_with fail
  refine O.out.mono ?_;rintro _ U ⟨rfl,P⟩;go_wp2_with fail
  go_end0;refine⟨rfl,?_⟩;rw [<- List.append_assoc];exact P.pick 3 [0,1]
namespace PL
abbrev Pk:=Nat × List Nat
def keyP (p:Pk):Int:=(p.1:Int)
def pk0:Pk:=(0,[])
def comb (a b:Pk):Pk:=(a.1+b.1,a.2++b.2)
def pairsTo (l:List Pk) (j:Nat):List Pk:=(List.range j).map fun i=>comb (l.getD (2 * i) pk0) (l.getD (2 * i+1) pk0)
def pairs (l:List Pk):List Pk:=pairsTo l (l.length / 2)
theorem pairsTo_succ (l:List Pk) (j:Nat):pairsTo l (j+1)=pairsTo l j++[comb (l.getD (2 * j) pk0) (l.getD (2 * j+1) pk0)]:=by
 unfold pairsTo; rw [List.range_succ,List.map_append]; rfl
def itemsTo (cs:List Nat) (k:Nat):List Pk:=((List.range k).filter fun i=>decide (0<cs.getD i 0)).map fun i=>(cs.getD i 0,[i])
def items (cs:List Nat):List Pk:=itemsTo cs cs.length
theorem itemsTo_succ (cs:List Nat) (k:Nat):itemsTo cs (k+1)=if 0<cs.getD k 0 then itemsTo cs k++[(cs.getD k 0,[k])] else itemsTo cs k:=by
 unfold itemsTo;rw [List.range_succ,List.filter_append];by_cases h:0<cs.getD k 0
 ·rw [if_pos h,List.filter_cons,decide_eq_true h]; simp
 ·rw [if_neg h,List.filter_cons,decide_eq_false h]; simp
theorem itemsTo_len (cs:List Nat) (k:Nat):(itemsTo cs k).length<=k:=by
 unfold itemsTo;rw [List.length_map];exact Nat.le_trans (List.length_filter_le _ _) (by simp)
theorem itemsTo_mem (cs:List Nat) (k:Nat):∀p ∈ itemsTo cs k,p.1 ∈ cs/\p.2.length=1/\0<p.1/\∀s ∈ p.2,s<k:=by
 intro p b;unfold itemsTo at b;obtain⟨i,c,rfl⟩:=List.mem_map.1 b;obtain⟨d,e⟩:=List.mem_filter.1 c;have a:=of_decide_eq_true e;refine⟨?_,rfl,a,fun s hs=>by rw [List.mem_singleton.1 hs]; exact List.mem_range.1 d⟩;rcases Nat.lt_or_ge i cs.length with h | h
 ·show cs.getD i 0 ∈ cs;rw [List.getD_eq_getElem?_getD,List.getElem?_eq_getElem h]; exact List.getElem_mem h
 ·rw [List.getD_eq_getElem?_getD,List.getElem?_eq_none h] at a;simp at a
def nxt (it l:List Pk):List Pk:=SS.isort keyP (it++pairs l)
def lst (it:List Pk):Nat->List Pk
 | 0=>it
 | i+1=>nxt it (lst it i)
def wt (f:Pk->Nat) (l:List Pk):Nat:=(l.map f).sum
theorem wt_append (f:Pk->Nat) (a b:List Pk):wt f (a++b)=wt f a+wt f b:=by unfold wt; simp
theorem wt_put (f:Pk->Nat) (l:List Pk) (p:Pk):wt f (SS.put keyP l p)=wt f l+f p:=by
 induction l with
 | nil=>simp [SS.put,wt]
 | cons x l ih =>
  unfold SS.put;split
  ·show f x+wt f (SS.put keyP l p)=f x+wt f l+f p;rw [ih]; omega
  ·show f p+(f x+wt f l)=f x+wt f l+f p;omega
theorem wt_mrg (f:Pk->Nat) (u v:List Pk):wt f (SS.mrg keyP u v)=wt f u+wt f v:=by
 unfold SS.mrg;induction v generalizing u with
 | nil=>simp [wt]
 | cons y v ih =>
  rw [List.foldl_cons,ih,wt_put];show _=wt f u+(f y+wt f v);omega
theorem wt_isort (f:Pk->Nat) (l:List Pk):wt f (SS.isort keyP l)=wt f l:=by unfold SS.isort; rw [wt_mrg]; simp [wt]
theorem wt_mem (f:Pk->Nat) {l:List Pk} {p:Pk} (h:p ∈ l):f p<=wt f l:=by
 induction l with
 | nil=>cases h
 | cons x l ih =>
  show _<=f x+wt f l;rcases List.mem_cons.1 h with rfl | h
  ·omega
  ·have:=ih h; omega
theorem wt_take (f:Pk->Nat) (l:List Pk) (i:Nat):wt f (l.take i)<=wt f l:=by
 have h:=wt_append f (l.take i) (l.drop i);rw [List.take_append_drop] at h; omega
theorem wt_pairsTo (f:Pk->Nat) (hf:∀a b,f (comb a b)=f a+f b) (l:List Pk) (j:Nat) (hj:j<=l.length / 2):wt f (pairsTo l j)=wt f (l.take (2 * j)):=by
 induction j with
 | zero=>rfl
 | succ j ih =>
  have c:2 * j<l.length:=by omega
  have d:2 * j+1<l.length:=by omega
  rw [pairsTo_succ,wt_append,ih (by omega),show 2 * (j+1)=2 * j+1+1 by omega,List.take_succ_eq_append_getElem d,List.take_succ_eq_append_getElem c,wt_append,wt_append];have e:l.getD (2 * j) pk0=l[2 * j]:=by rw [List.getD_eq_getElem?_getD,List.getElem?_eq_getElem c]; rfl
  have g:l.getD (2 * j+1) pk0=l[2 * j+1]:=by rw [List.getD_eq_getElem?_getD,List.getElem?_eq_getElem d]; rfl
  rw [e,g];simp only [wt,List.map_cons,List.map_nil,List.sum_cons,List.sum_nil,hf];omega
theorem wt_pairs (f:Pk->Nat) (hf:∀a b,f (comb a b)=f a+f b) (l:List Pk):wt f (pairs l)<=wt f l:=by
 unfold pairs;rw [wt_pairsTo f hf l _ (Nat.le_refl _)];exact wt_take f l _
theorem wt_lst (f:Pk->Nat) (hf:∀a b,f (comb a b)=f a+f b) (it:List Pk) (i:Nat):wt f (lst it i)<=(i+1) * wt f it:=by
 induction i with
 | zero=>simp [lst]
 | succ i ih =>
  show wt f (nxt it (lst it i))<=_;unfold nxt;rw [wt_isort,wt_append,Nat.succ_mul];have:=wt_pairs f hf (lst it i);omega
theorem pairs_len (l:List Pk):(pairs l).length=l.length / 2:=by unfold pairs pairsTo; simp
theorem lst_len (it:List Pk) (i:Nat):(lst it (i+1)).length=it.length+(lst it i).length / 2:=by
 show(nxt it (lst it i)).length=_;unfold nxt;rw [SS.len_isort,List.length_append,pairs_len]
theorem lst_le (it:List Pk) (i:Nat):(lst it i).length<=2 * it.length:=by
 induction i with
 | zero=>show it.length<=_; omega
 | succ i ih=>rw [lst_len]; omega
theorem lst_gap (it:List Pk) (i:Nat) (e:Nat) (h:it.length<=2 ^ (i+e)):2 * it.length<=(lst it i).length+2 ^ e:=by
 induction i generalizing e with
 | zero=>show 2 * it.length<=it.length+_; rw [Nat.zero_add] at h; omega
 | succ i ih =>
  have a:=ih (e+1) (by rw [show i+(e+1)=i+1+e by omega]; exact h);rw [lst_len];rw [Nat.pow_succ] at a;omega
theorem lst_enough (it:List Pk) (m:Nat) (hm:1<=m) (h:it.length<=2 ^ m):2 * it.length - 2<=(lst it (m - 1)).length:=by
 have:=lst_gap it (m - 1) 1 (by rw [show m - 1+1=m by omega]; exact h);omega
theorem lst_mem (P:Pk->Prop) (hc:∀a b,P a->P b->P (comb a b)) (it:List Pk) (hi:∀p ∈ it,P p) (i:Nat):∀p ∈ lst it i,P p:=by
 induction i with
 | zero=>exact hi
 | succ i ih =>
  intro p c;have c:p ∈ SS.isort keyP (it++pairs (lst it i)):=c;rcases List.mem_append.1 (SS.mem_isort.1 c) with c | c
  ·exact hi p c
  ·unfold pairs pairsTo at c;obtain⟨j,d,rfl⟩:=List.mem_map.1 c;have d:=List.mem_range.1 d;refine hc _ _ (ih _ ?_) (ih _ ?_)
   ·rw [List.getD_eq_getElem?_getD,List.getElem?_eq_getElem (show 2 * j<_ by omega)]; exact List.getElem_mem _
   ·rw [List.getD_eq_getElem?_getD,List.getElem?_eq_getElem (show 2 * j+1<_ by omega)]; exact List.getElem_mem _
def sorted (cs:List Nat):List Pk:=SS.isort keyP (items cs)
def flat (cs:List Nat) (m:Nat):List Nat:=if (items cs).length<2 then (items cs).flatMap Prod.snd else ((lst (sorted cs) (m - 1)).take (2 * (items cs).length - 2)).flatMap Prod.snd
def lens (cs:List Nat) (m:Nat):List Nat:=(List.range cs.length).map fun i=>(flat cs m).count i
theorem lens_len (cs:List Nat) (m:Nat):(lens cs m).length=cs.length:=by simp [lens]
def may (l:List Int) (m:Int):Bool:=decide (l.length<=1024) && (decide (1<=m/\m<=15) && (l.all (fun n=>decide (0<=n/\n<=4294967296)) && decide ((items (l.map Int.toNat)).length<=2 ^ m.toNat)))
end PL
def All2 {α β:Type} (R:α->β->Prop):List α->List β->Prop
 | [],[]=>True
 | a::us,b::vs=>R a b/\All2 R us vs
 | _,_=>False
section
variable {α β:Type} {R:α->β->Prop}
theorem All2.len:∀ {us:List α} {vs:List β},All2 R us vs->us.length=vs.length
 | [],[],_=>rfl
 | a::us,b::vs,h=>by rw [List.length_cons,List.length_cons,All2.len h.2]
theorem All2.get (d:α) (e:β):∀ {us:List α} {vs:List β},All2 R us vs->∀i,i<us.length->R (us.getD i d) (vs.getD i e)
 | [],[],_,i,h=>by simp at h
 | a::us,b::vs,h,0,_=>h.1
 | a::us,b::vs,h,i+1,hi=>All2.get d e h.2 i (by simpa using hi)
theorem All2.append:∀ {us:List α} {vs:List β} {cs:List α} {ds:List β},All2 R us vs->All2 R cs ds->All2 R (us++cs) (vs++ds)
 | [],[],_,_,_,h=>h
 | a::us,b::vs,_,_,h,k=>⟨h.1,All2.append h.2 k⟩
theorem All2.snoc {us:List α} {vs:List β} {a:α} {b:β} (h:All2 R us vs) (k:R a b):All2 R (us++[a]) (vs++[b]):=h.append ⟨k,trivial⟩
theorem All2.mono {R' : α->β->Prop} (hR:∀a b,R a b->R' a b):∀ {us:List α} {vs:List β},All2 R us vs->All2 R' us vs
 | [],[],_=>trivial
 | a::us,b::vs,h=>⟨hR _ _ h.1,All2.mono hR h.2⟩
theorem All2.put {ka:α->Int} {kb:β->Int} (hk:∀a b,R a b->ka a=kb b):∀ {us:List α} {vs:List β} {a:α} {b:β},All2 R us vs->R a b->All2 R (SS.put ka us a) (SS.put kb vs b)
 | [],[],_,_,_,h=>⟨h,trivial⟩
 | x::us,y::vs,a,b,h,k=>by
  unfold SS.put;rw [hk _ _ h.1,hk _ _ k];split
  ·exact⟨h.1,All2.put hk h.2 k⟩
  ·exact⟨k,h⟩
theorem All2.mrg {ka:α->Int} {kb:β->Int} (hk:∀a b,R a b->ka a=kb b):∀ {cs:List α} {ds:List β} {us:List α} {vs:List β},All2 R us vs->All2 R cs ds->All2 R (SS.mrg ka us cs) (SS.mrg kb vs ds)
 | [],[],_,_,h,_=>h
 | c::cs,d::ds,_,_,h,k=>by
  show All2 R (SS.mrg ka (SS.put ka _ c) cs) (SS.mrg kb (SS.put kb _ d) ds);exact All2.mrg hk (h.put hk k.1) k.2
theorem All2.isort {ka:α->Int} {kb:β->Int} (hk:∀a b,R a b->ka a=kb b) {us:List α} {vs:List β} (h:All2 R us vs):All2 R (SS.isort ka us) (SS.isort kb vs):=All2.mrg hk (show All2 R [] [] from trivial) h
end
def EncL (F:PoolT) (ts:List PL.Pk) (xs:List PK):Prop:=All2 (fun t x=>Enc F t.1 t.2 x) ts xs
theorem EncL.isort {F:PoolT} {ts:List PL.Pk} {xs:List PK} (h:EncL F ts xs):EncL F (SS.isort PL.keyP ts) (SS.isort keyK xs):=All2.isort (fun _ _ h=>by show _=PK.c _; rw [h.count]; rfl) h
theorem EncL.mono {F F' : PoolT} {ts:List PL.Pk} {xs:List PK} (h:EncL F ts xs) (k:∀e ∈ F,e ∈ F'):EncL F' ts xs:=All2.mono (fun _ _ h=>Enc.mono h k) h
def leafs (cs:List Nat) (k:Nat):List PK:=(PL.itemsTo cs k).map fun p=>⟨(p.1:Int),((p.2.getD 0 0:Nat):Int),none⟩
theorem XE (cs:List Nat) (k:Nat):(leafs cs k).length=(PL.itemsTo cs k).length:=by simp [leafs]
theorem WJ (cs:List Nat) (k:Nat):leafs cs (k+1)=if 0<cs.getD k 0 then leafs cs k++[⟨((cs.getD k 0:Nat):Int),(k:Int),none⟩] else leafs cs k:=by
 unfold leafs;rw [PL.itemsTo_succ];split
 ·rw [List.map_append]; rfl
 ·rfl
theorem Vq (F:PoolT) (cs:List Nat) (k:Nat):EncL F (PL.itemsTo cs k) (leafs cs k):=by
 have h:∀l:List PL.Pk,(∀p ∈ l,p.2.length=1)->EncL F l (l.map fun p=>⟨(p.1:Int),((p.2.getD 0 0:Nat):Int),none⟩):=by
  intro l;induction l with
  | nil=>intro _; trivial
  | cons p l ih =>
   intro a;refine⟨?_,ih fun q hq=>a q (List.mem_cons_of_mem _ hq)⟩;obtain⟨c,s⟩:=p;obtain⟨x,rfl⟩:=List.length_eq_one_iff.1 (a (c,s) (List.mem_cons_self ..));exact .leaf c x
 exact h _ fun p a=>(PL.itemsTo_mem cs k p a).2.1
end Go.Proofs.YteajimobgkempaaGreatDoor

