/- A pack of texts: SortF Lib5 ConcatK HuffM HuffN HuffLen. -/
import Derived.Lib.AppendZeros
import Derived.Test.YtloijdbkikccgaaDoorPk03
import Derived.Test.YtloijdbkikccgaaDoorPk07
namespace Go.Proofs.YtloijdbkikccgaaDoor
open Go.RowKit
theorem ins_seg (ad:Addr) (n c:Nat) (P S R:List PK) (a b:Nat) {w0 w:World} {L:List Pr} (H:Sp w0 (RowK (.slice (some ad) n c) (P++S++R)::L) w) (hn:n=P.length+S.length+R.length) (hl:n<=1000000) (ha:P.length=a) (hb:a+S.length=b) :
  Calls Tryd.prog 158 #[.slice (some ad) n c,.int .i64 (a:Int),.int .i64 (b:Int),cmpF] w fun e w'=>e=.returned (.tuple #[]) /\
   Sp w0 (RowK (.slice (some ad) n c) (P++SS.isort keyK S++R)::L) w':=by
 have h:=ins_ok ad n c (P++S++R) a b H (by simp only [List.length_append]; omega) hl (by omega) (by omega)
 have e1:(P++S++R).take a=P:=by rw [List.append_assoc,List.take_append_of_le_length (by omega),List.take_of_length_le (by omega)]
 have e2:((P++S++R).drop a).take (b - a)=S:=by
  rw [List.append_assoc,List.drop_append,List.drop_eq_nil_of_le (by omega),List.nil_append,show a - P.length=0 by omega,List.drop_zero,List.take_append_of_le_length (by omega),List.take_of_length_le (by omega)]
 have e3:(P++S++R).drop b=R:=by
  rw [List.drop_append,List.drop_eq_nil_of_le (by rw [List.length_append]; omega),List.nil_append,List.length_append,show b - (P.length+S.length)=0 by omega,List.drop_zero]
 rw [e1,e2,e3] at h
 exact h
def StA (s:Nat) (l D:List PK) (a:Nat):Prop:=∃k d l0 y,SS.Chs keyK s k d l0/\l=l0++y/\D=d++y/\a=k * s
def StB (s:Nat) (l D:List PK):Prop:=∃k d l0 y,SS.Chs keyK s k d l0/\l=l0++y/\D=d++SS.isort keyK y/\y.length<s
def StC (s:Nat) (l D:List PK) (a:Nat):Prop:=∃j k D0 L0 d l1 y,SS.Chs keyK (s+s) j D0 L0/\SS.Chs keyK s k d l1/\l=L0++l1++y/\D=D0++d++SS.isort keyK y/\y.length<s/\a=j * (s+s)
theorem stA_next {s:Nat} {l D:List PK} {a n:Nat} (h:StA s l D a) (hn:l.length=n) (hb:a+s<=n):∃P S R,D=P++S++R/\P.length=a/\S.length=s/\n=P.length+S.length+R.length/\StA s l (P++SS.isort keyK S++R) (a+s):=by
 obtain⟨k,d,l0,y,h1,rfl,rfl,rfl⟩:=h
 have hl:=h1.len
 rw [List.length_append] at hn
 refine⟨d,y.take s,y.drop s,by rw [List.append_assoc,List.take_append_drop],hl.1,by rw [List.length_take]; omega,by rw [List.length_take,List.length_drop]; omega,k+1,_,l0++y.take s,y.drop s,h1.snoc (by rw [List.length_take]; omega),by rw [List.append_assoc,List.take_append_drop],rfl,by rw [Nat.succ_mul]⟩
theorem stA_end {s:Nat} {l D:List PK} {a n:Nat} (h:StA s l D a) (hn:l.length=n) (han:a<=n) (hb:n<a+s):∃P S R,D=P++S++R/\P.length=a/\a+S.length=n/\n=P.length+S.length+R.length/\StB s l (P++SS.isort keyK S++R):=by
 obtain⟨k,d,l0,y,h1,rfl,rfl,rfl⟩:=h
 have hl:=h1.len
 rw [List.length_append] at hn
 refine⟨d,y,[],by rw [List.append_nil],hl.1,by omega,by simp; omega,k,d,l0,y,h1,rfl,by rw [List.append_nil],by omega⟩
theorem stC_next {s:Nat} {l D:List PK} {a n:Nat} (h:StC s l D a) (hn:l.length=n) (hb:a+(s+s)<=n):∃X U V Y,D=X++U++V++Y/\X.length=a/\U.length=s/\V.length=s/\n=X.length+U.length+V.length+Y.length/\SS.Srt keyK U/\SS.Srt keyK V/\StC s l (X++SS.mrg keyK U V++Y) (a+(s+s)):=by
 obtain⟨j,k,D0,L0,d,l1,y,h1,h2,rfl,rfl,h3,rfl⟩:=h
 have hl1:=h1.len
 have hl2:=h2.len
 rw [List.length_append,List.length_append,hl1.2,hl2.2] at hn
 have hk2:∃k',k=k'+2:=by
  rcases k with _ | _ | k
  ·simp at hn; omega
  ·simp at hn; omega
  ·exact⟨k,rfl⟩
 obtain⟨k,rfl⟩:=hk2
 obtain⟨x1,d1,m1,hx1,rfl,rfl,h4⟩:=h2.inv
 obtain⟨x2,d2,m2,hx2,rfl,rfl,h5⟩:=h4.inv
 have hl5:=h5.len
 have e1:(k+2) * s=k * s+s+s:=by rw [Nat.add_mul]; omega
 refine⟨D0,SS.isort keyK x1,SS.isort keyK x2,d2++SS.isort keyK y,by simp,hl1.1,by rw [SS.len_isort,hx1],by rw [SS.len_isort,hx2],by rw [SS.len_isort,SS.len_isort,List.length_append,SS.len_isort,hx1,hx2,hl1.1,hl5.1]; omega,SS.srt_isort _,SS.srt_isort _,j+1,k,D0++SS.isort keyK (x1++x2),L0++(x1++x2),d2,m2,y,h1.snoc (by rw [List.length_append,hx1,hx2]),h5,by simp,by rw [SS.mrg_isorts]; simp,h3,by rw [Nat.succ_mul]⟩
theorem stC_end {s:Nat} {l D:List PK} {a n:Nat} (h:StC s l D a) (hn:l.length=n) (hb:n<a+(s+s)):(a+s<n->∃X U V Y,D=X++U++V++Y/\X.length=a/\U.length=s/\a+s+V.length=n/\n=X.length+U.length+V.length+Y.length/\SS.Srt keyK U/\SS.Srt keyK V/\StB (s+s) l (X++SS.mrg keyK U V++Y))/\(¬ a+s<n->StB (s+s) l D):=by
 obtain⟨j,k,D0,L0,d,l1,y,h1,h2,rfl,rfl,h3,rfl⟩:=h
 have hl1:=h1.len
 have hl2:=h2.len
 rw [List.length_append,List.length_append,hl1.2,hl2.2] at hn
 rcases k with _ | k
 ·obtain⟨rfl,rfl⟩:=h2.zero
  simp only [Nat.zero_mul,Nat.add_zero] at hn
  refine⟨fun h=>by omega,fun _=>⟨j,D0,L0,y,h1,by simp,by simp,by omega⟩⟩
 ·have e1:(k+1) * s=k * s+s:=Nat.succ_mul _ _
  have hk:k=0∨s<=k * s:=by
   rcases k with _ | k
   ·exact .inl rfl
   ·right; rw [Nat.succ_mul]; omega
  obtain rfl:k=0:=by
   rcases hk with h | h
   ·exact h
   ·omega
  obtain⟨x1,d1,m1,hx1,rfl,rfl,h4⟩:=h2.inv
  obtain⟨rfl,rfl⟩:=h4.zero
  simp only [Nat.zero_add,Nat.one_mul] at hn
  refine⟨fun _=>⟨D0,SS.isort keyK x1,SS.isort keyK y,[],by simp,hl1.1,by rw [SS.len_isort,hx1],by rw [SS.len_isort]; omega,by rw [SS.len_isort,SS.len_isort,hx1,hl1.1]; simp; omega,SS.srt_isort _,SS.srt_isort _,j,D0,L0,x1++y,h1,by simp,by rw [SS.mrg_isorts]; simp,by rw [List.length_append]; omega⟩,fun h=>?_⟩
  have:y=[]:=List.eq_nil_of_length_eq_zero (by omega)
  subst this
  exact⟨j,D0,L0,x1,h1,by simp,by simp [SS.isort,SS.mrg],by omega⟩
theorem stB_start {s:Nat} {l D:List PK} (h:StB s l D):StC s l D 0:=by
 obtain⟨k,d,l0,y,h1,rfl,rfl,h3⟩:=h
 exact⟨0,k,[],[],d,l0,y,.nil,h1,rfl,rfl,h3,by simp⟩
theorem stB_done {s n:Nat} {l D:List PK} (h:StB s l D) (hn:l.length=n) (hs:n<=s):D=SS.isort keyK l:=by
 obtain⟨k,d,l0,y,h1,rfl,rfl,h3⟩:=h
 rw [List.length_append] at hn
 exact h1.end_ (by omega)
set_option maxRecDepth 100000 in
set_option maxHeartbeats 4000000 in
theorem stable_ok (ad:Addr) (n c:Nat) (l:List PK) {w0 w:World} {L:List Pr} (H:Sp w0 (RowK (.slice (some ad) n c) l::L) w) (hn:l.length=n) (hl:n<=1000000) :
  Calls Tryd.prog 141 #[.slice (some ad) n c,.int .i64 (n:Int),cmpF] w fun e w'=>e=.returned (.tuple #[]) /\
   Sp w0 (RowK (.slice (some ad) n c) (SS.isort keyK l)::L) w':=by
 have HN:=Lib.hid hn
 have hst:StA 20 l l 0:=⟨0,[],[],l,.nil,rfl,rfl,by simp⟩
 have HST:=Lib.hid hst
 clear hst hn
 go_enter Tryd.func141,Tryd.ntmps141
 go_wp2_with fail
 go_loopw [7,8] (fun av bv wr=>∃(a b:Nat) (D:List PK),av=.int .i64 (a:Int)/\bv=.int .i64 (b:Int)/\Hid (b=a+20/\StA 20 l D a)/\a<=n/\b<=n+20/\Sp w0 (RowK (.slice (some ad) n c) D::L) wr) (fun _ bv _=>n+20 - (intOf bv).toNat)
 case atStart=>exact⟨0,20,l,rfl,rfl,Lib.hid ⟨rfl,HST.out⟩,Nat.zero_le _,by omega,H⟩
 case round =>
  clear H HST
  obtain⟨a,b,D,rfl,rfl,HE,han,hbn,H⟩:=hrel
  by_cases hb:b<=n
  ·have k1:(b:Int)<=(n:Int):=by omega
   obtain⟨P,S,R,hD,h1,h2,h3,h4⟩:=stA_next HE.out.2 HN.out (by have:=HE.out.1; omega)
   subst hD
   have hc:=ins_seg ad n c P S R a b H h3 hl h1 (by have:=HE.out.1; omega)
   have HC:=Lib.hid hc
   have H4:=Lib.hid h4
   have kb:b<=1000000:=by omega
   clear hc h4 h1 h2 h3
   go_wp2_with fail
   refine HC.out.mono ?_
   rintro _ w9 ⟨rfl,H9⟩
   clear HC H
   go_wp2_with fail
   go_roundw
   case rel =>
    refine⟨b,b+20,_,rfl,by go_num,Lib.hid ⟨rfl,?_⟩,hb,by omega,H9⟩
    rw [HE.out.1]
    exact H4.out
   case measure=>first | (simp [intOf]; omega) | simp [intOf]
  ·have k1:¬ (b:Int)<=(n:Int):=by omega
   obtain⟨P,S,R,hD,h1,h2,h3,h4⟩:=stA_end HE.out.2 HN.out han (by have:=HE.out.1; omega)
   subst hD
   have hc:=ins_seg ad n c P S R a n H h3 hl h1 h2
   generalize P++SS.isort keyK S++R=D at hc h4
   have HC:=Lib.hid hc
   have H4:=Lib.hid h4
   clear hc h4 h1 h2 h3
   go_wp2_with fail
   refine HC.out.mono ?_
   rintro _ w9 ⟨rfl,H9⟩
   clear HC H
   go_wp2_with fail
   go_loopw [6] (fun sv wr=>∃(s:Nat) (D:List PK),sv=.int .i64 (s:Int)/\20<=s/\s<=2 * n+20/\Hid (StB s l D)/\Sp w0 (RowK (.slice (some ad) n c) D::L) wr) (fun sv _=>n - (intOf sv).toNat)
   case atStart=>exact⟨20,D,rfl,Nat.le_refl _,by omega,H4,H9⟩
   case round =>
    clear H9 H4 HE
    obtain⟨s,D,rfl,hs20,hsn,HE,H⟩:=hrel
    by_cases hsl:s<n
    ·have k2:(s:Int)<(n:Int):=by omega
     obtain⟨s2,hs2⟩:∃s2,s+s=s2:=⟨_,rfl⟩
     have y1:(2:Int) * (s:Int)=(s2:Int):=by omega
     have y2:(s:Int) * 2=(s2:Int):=by omega
     have HS2:=Lib.hid hs2
     have hs22:s<s2:=by omega
     have hs23:s2<=2000000:=by omega
     have hs24:s2<=2 * n+20:=by omega
     clear hs2
     go_wp2_with fail
     go_loopw [7,8] (fun av bv wr=>∃(a b:Nat) (D:List PK),av=.int .i64 (a:Int)/\bv=.int .i64 (b:Int)/\Hid (b=a+s2/\StC s l D a)/\a<=n/\b<=n+s2/\Sp w0 (RowK (.slice (some ad) n c) D::L) wr) (fun _ bv _=>n+s2 - (intOf bv).toNat)
     case atStart=>exact⟨0,s2,D,rfl,rfl,Lib.hid ⟨by omega,stB_start HE.out⟩,Nat.zero_le _,by omega,H⟩
     case round =>
      clear H HE
      obtain⟨a,b,D,rfl,rfl,HE,han,hbn,H⟩:=hrel
      by_cases hb:b<=n
      ·have k3:(b:Int)<=(n:Int):=by omega
       obtain⟨X,U,V,Y,hD,h1,h2,h3,h4,h5,h6,h7⟩:=stC_next HE.out.2 HN.out (by have:=HE.out.1; have:=HS2.out; omega)
       subst hD
       obtain⟨m,hm⟩:∃m,a+s=m:=⟨_,rfl⟩
       have y3:(a:Int)+(s:Int)=(m:Int):=by omega
       have hc:=sym_ok ad n c hl w0 L (b - a+1) X U V Y a m b (by omega) h4 h1 (by omega) (by have:=HE.out.1; have:=HS2.out; omega) (by rintro rfl; simp at h2; omega) (by rintro rfl; simp at h3; omega) h5 h6 _ H
       have HC:=Lib.hid hc
       have H7:=Lib.hid h7
       clear hc h1 h2 h3 h4 h5 h6 h7 hm
       go_wp2_with fail
       refine HC.out.mono ?_
       rintro _ w9 ⟨rfl,H9⟩
       clear HC H
       go_wp2_with fail
       go_roundw
       case rel =>
        refine⟨b,b+s2,_,rfl,by go_num,Lib.hid ⟨rfl,?_⟩,hb,by omega,H9⟩
        have h9:=H7.out
        rw [HS2.out,<- HE.out.1] at h9
        exact h9
       case measure=>first | (simp [intOf]; omega) | simp [intOf]
      ·have k3:¬ (b:Int)<=(n:Int):=by omega
       obtain⟨h1,h2⟩:=stC_end HE.out.2 HN.out (by have:=HE.out.1; have:=HS2.out; omega)
       obtain⟨m,hm⟩:∃m,a+s=m:=⟨_,rfl⟩
       have y3:(a:Int)+(s:Int)=(m:Int):=by omega
       rw [hm] at h1 h2
       by_cases hmn:m<n
       ·have k4:(m:Int)<(n:Int):=by omega
        obtain⟨X,U,V,Y,hD,q1,q2,q3,q4,q5,q6,q7⟩:=h1 hmn
        subst hD
        have hc:=sym_ok ad n c hl w0 L (n - a+1) X U V Y a m n (by omega) q4 q1 (by omega) (by omega) (by rintro rfl; simp at q2; omega) (by rintro rfl; simp at q3; omega) q5 q6 _ H
        have HC:=Lib.hid hc
        have H7:=Lib.hid q7
        clear hc h1 h2 q1 q2 q3 q4 q5 q6 q7 hm
        go_wp2_with fail
        refine HC.out.mono ?_
        rintro _ w9 ⟨rfl,H9⟩
        clear HC H
        go_wp2_with fail
        go_roundw
        case rel =>
         refine⟨s2,_,rfl,by omega,hs24,Lib.hid ?_,H9⟩
         have h9:=H7.out
         rw [HS2.out] at h9
         exact h9
        case measure=>first | (simp [intOf]; omega) | simp [intOf]
       ·have k4:¬ (m:Int)<(n:Int):=by omega
        have h3:=h2 hmn
        have H3:=Lib.hid h3
        clear h1 h2 h3 hm
        go_wp2_with fail
        go_roundw
        case rel =>
         refine⟨s2,D,rfl,by omega,hs24,Lib.hid ?_,H⟩
         have h9:=H3.out
         rw [HS2.out] at h9
         exact h9
        case measure=>first | (simp [intOf]; omega) | simp [intOf]
    ·have k2:¬ (s:Int)<(n:Int):=by omega
     have hd:=stB_done HE.out HN.out (by omega)
     subst hd
     go_wp2_with fail
     go_end0
     exact⟨rfl,H⟩
set_option maxRecDepth 100000 in
theorem sortStable_ok (ad:Addr) (n c:Nat) (l:List PK) {w0 w:World} {L:List Pr} (H:Sp w0 (RowK (.slice (some ad) n c) l::L) w) (hn:l.length=n) (hl:n<=1000000) :
  Calls Tryd.prog 97 #[.slice (some ad) n c,cmpF] w fun e w'=>e=.returned (.tuple #[]) /\
   Sp w0 (RowK (.slice (some ad) n c) (SS.isort keyK l)::L) w':=by
 have hc:=stable_ok ad n c l H hn hl
 have HC:=Lib.hid hc
 clear hc hn
 go_enter Tryd.func97,Tryd.ntmps97
 go_wp2_with fail
 refine HC.out.mono ?_
 rintro _ w9 ⟨rfl,H9⟩
 go_wp2_with fail
 go_end0
 exact⟨rfl,H9⟩
theorem Sp.imp {w0 w:World} {A A' : Pr} {L:List Pr} (H:Sp w0 (A::L) w) (h:∀p,A p->A' p):Sp w0 (A'::L) w:=by
 obtain⟨h1,h2,h3,own,hL⟩:=H
 refine⟨h1,h2,h3,own,fun i C hi=>?_⟩
 match i with
 | 0 =>
  obtain rfl:A'=C:=by simpa using hi
  exact h _ (hL 0 _ rfl)
 | i+1=>exact hL (i+1) C (by simpa using hi)
theorem Sp.rowCut {w0 w:World} {L:List Pr} {e:TypeId} {z n c:Nat} {A:Option Addr} {xs:List Value} (k:Nat) (hk:k<=n) (H:Sp w0 (Row e z (.slice A n c) n xs::L) w):Sp w0 (Row e z (.slice A k c) k (xs.take (k * z))::L) w:=by
 refine H.imp fun p hp=>?_
 obtain⟨h1,h2⟩:=hp
 have hkz:k * z<=n * z:=Nat.mul_le_mul_right _ hk
 refine⟨by rw [List.length_take,h1]; omega,?_⟩
 rcases h2 with ⟨hv,h0⟩ | ⟨g,cap,cur,hv,hg,h3,h4,h5,h6⟩
 ·injection hv with e1 e2 e3
  subst e1 e2 e3
  obtain rfl:k=0:=by omega
  exact .inl ⟨rfl,rfl⟩
 ·injection hv with e1 e2 e3
  subst e1 e3
  refine .inr ⟨g,c,cur,rfl,hg,by omega,h4,h5,?_⟩
  rw [<- h6,List.take_take,Nat.min_eq_left hkz]
section
variable {P:Program}
theorem wpList_zeros_sp {w0 w:World} {L:List Pr} {ops:Array Oper} {rest:List Oper} {o:Oper} {a:Act} {Q:Exit->Act->World->Prop} (hgd:o.guard=none) (s x:Operand) (t tn:TypeId)
  (ho:o.op=.call { callee:=.builtin .append,args:=#[s,x],argTypes:=#[t,tn] })
  (e:TypeId) (i:TypeInfo) (z:Value) (size bytes:Nat) (ht:P.underlying t=some (.slice e)) (htn:P.underlying tn=some (.int .i64)) (hi:P.info? e=some i) (hz:i.zero=some z)
  (hsize:i.size=size) (hby:i.bytes=bytes) (hzs:z.cells.size=size) (hsz:0<size)
  (n:Nat) (hs:a.eval s=.slice none 0 0) (hx:a.eval x=.int .i64 (n:Int)) (h0:0<n) (hn:n<=1000000000) (hbytes:bytes<=1000) (H:Sp w0 L w)
  (h:∀g c w',n<=c->c<=maxLen->Sp w0 (Row e size (.slice (some ⟨g,0,none⟩) n c) n ((Builtin.zeroCells z.cells n++Builtin.zeroCells z.cells (c - n)).toList.take (n * size))::L) w'->wpList P ops Q rest (a.put o.dst (.slice (some ⟨g,0,none⟩) n c)) w') :
  wpList P ops Q (o::rest) a w:=by
 have hnb:n * i.bytes<=281474976710656:=by
  rw [hby]
  exact Nat.le_trans (Nat.mul_le_mul hn hbytes) (by decide)
 have hr:=Lib.run_append_nil_zeros (P:=P) w t tn o.type e i z .i64 .i64 ht htn hi hz n h0 (by omega) (by omega) hnb
 refine Lib.wpList_append_run w hgd s x t tn ho _ _ hs hx _ _ hr ?_
 have hge:=grownCap_ge w n 0 e
 have hcm:grownCap w n 0 e<=maxLen:=grownCap_le_maxLen w n 0 e (by unfold maxLen; omega)
 generalize grownCap w n 0 e=c at hge hcm ⊢
 have H2:=(H.drew).newBk (Builtin.zeroCells z.cells n++Builtin.zeroCells z.cells (c - n)).toList e
 rw [Array.toArray_toList] at H2
 have hsz2:w.drew.heap.size=w.heap.size:=rfl
 rw [hsz2] at H2
 have hl:(Builtin.zeroCells z.cells n++Builtin.zeroCells z.cells (c - n)).toList.length=c * size:=by
  rw [Array.length_toList,Array.size_append,size_zeroCells,size_zeroCells,hzs,<- Nat.add_mul]
  congr 1; omega
 have H3:=H2.bkRow size c hl hcm
 exact h _ c _ hge hcm (H3.rowCut n hge)
end
structure Part where
 A:Option Addr
 n:Nat
 c:Nat
 xs:List Value
def Part.val (q:Part):Value:=.slice q.A q.n q.c
def Part.Ok (L:List Pr) (z:Nat) (q:Part):Prop:=q.xs.length=q.n * z/\Ent L (fun w=>Rd w q.A q.xs)/\∀u ∈ q.xs,u.oneCell'=true
def Part.sum (qs:List Part):Nat:=(qs.map Part.n).sum
theorem Part.sum_snoc (qs:List Part) (q:Part):Part.sum (qs++[q])=Part.sum qs+q.n:=by unfold Part.sum; simp
theorem Part.sum_take (qs:List Part) (i:Nat):Part.sum (qs.take i)<=Part.sum qs:=by
 have h:=List.take_append_drop i qs
 have:Part.sum qs=Part.sum (qs.take i)+Part.sum (qs.drop i):=by
  conv=>lhs; rw [<- h]
  unfold Part.sum; simp only [List.map_append,List.sum_append]
 omega
def Part.cat (qs:List Part):List Value:=qs.flatMap Part.xs
theorem Part.cat_snoc (qs:List Part) (q:Part):Part.cat (qs++[q])=Part.cat qs++q.xs:=by unfold Part.cat; simp
theorem infoK:(Tryd.prog.info? 141).map (fun i=>(i.zero,i.size,i.bytes))=some (some (.agg #[.int .i64 0,.int .i64 0,.pointer none]),3,24):=by kernel_rfl
set_option maxRecDepth 100000 in
set_option maxHeartbeats 2000000 in
theorem grow_okK (n:Nat) {w0 w:World} {L:List Pr} (H:Sp w0 L w) (hn:n<=1000000000) :
  Calls Tryd.prog 140 #[.slice none 0 0,.int .i64 (n:Int)] w fun e w'=>∃v,e=.returned v/\Sp w0 (Row 141 3 v 0 []::L) w':=by
 obtain⟨i0,hi,hz0,hz1,hz2⟩:=info_parts infoK
 by_cases h0:0<n
 ·have k1:(0:Int)<(n:Int):=by omega
  go_enter Tryd.func140,Tryd.ntmps140
  go_wp2_with (at_builtin; refine wpList_zeros_sp rfl _ _ 138 3 rfl 141 i0 (.agg #[.int .i64 0,.int .i64 0,.pointer none]) 3 24 Tryd.underlying138 Tryd.underlying3 hi hz0 hz1 hz2 rfl (by decide) n rfl rfl h0 hn (by decide) H ?_)
  intro g c w2 h1 h2 H2
  have H3:=H2.rowCut 0 (Nat.zero_le _)
  rw [Nat.zero_mul,List.take_zero] at H3
  have k2:(0:Int)<=(c:Int):=by omega
  go_wp2_with fail
  go_ret
  exact⟨_,rfl,H3⟩
 ·have k1:¬ (0:Int)<(n:Int):=by omega
  obtain rfl:n=0:=by omega
  go_enter Tryd.func140,Tryd.ntmps140
  go_wp2_with fail
  go_ret
  exact⟨_,rfl,H.rowNil _ _⟩
set_option maxRecDepth 100000 in
set_option maxHeartbeats 2000000 in
theorem concat_okK (ad:Addr) (k c:Nat) (qs:List Part) {w0 w:World} {L:List Pr} (H:Sp w0 L w) (hk:qs.length=k) (hb:Ent L (fun w=>Rd w (some ad) (qs.map Part.val))) (hq:∀q ∈ qs,q.Ok L 3) (hs:Part.sum qs<=1000000) (hkm:k<=1000000) :
  Calls Tryd.prog 96 #[.slice (some ad) k c] w fun e w'=>∃v,e=.returned v/\Sp w0 (Row 141 3 v (Part.sum qs) (Part.cat qs)::L) w':=by
 obtain⟨i0,hi,hz0,hz1,hz2⟩:=info_parts infoK
 obtain⟨N,hN⟩:∃N,Part.sum qs=N:=⟨_,rfl⟩
 have hle:∀i,Part.sum (qs.take i)<=N:=fun i=>by rw [<- hN]; exact Part.sum_take qs i
 have HK:=Lib.hid hk
 have HB:=Lib.hid hb
 have HQ:=Lib.hid hq
 have HN:=Lib.hid hN
 have HLE:=Lib.hid hle
 have hNl:N<=1000000:=by omega
 rw [hN]
 have hget:∀i,i<k->∃q,qs[i]?=some q/\q.Ok L 3/\qs.take (i+1)=qs.take i++[q]/\∀w',Sp w0 L w'->w'.cell? (ad.add i)=some (.slice q.A q.n q.c):=fun i hi=>by
  have hil:i<qs.length:=by rw [hk]; exact hi
  refine⟨qs[i],List.getElem?_eq_getElem hil,hq _ (List.getElem_mem hil),List.take_succ_eq_append_getElem hil,fun w' H'=>?_⟩
  obtain⟨ad',e,hc⟩:=hb _ _ H' (by intro h; have:=congrArg List.length h; simp at this; subst this; simp at hil)
  injection e with e
  subst e
  refine hc i _ ?_
  rw [List.getElem?_map,List.getElem?_eq_getElem hil]; rfl
 have HG:=Lib.hid hget
 clear hk hb hq hN hle hs hget
 go_enter Tryd.func96,Tryd.ntmps96
 go_wp2_with fail
 go_loopw [3,11] (fun sv iv wr=>∃(i s:Nat),iv=.int .i64 (i:Int)/\sv=.int .i64 (s:Int)/\i<=k/\Hid (Part.sum (qs.take i)=s)/\Sp w0 L wr) (fun _ iv _=>k - (intOf iv).toNat)
 case atStart=>exact⟨0,0,rfl,rfl,Nat.zero_le _,Lib.hid rfl,H⟩
 case round =>
  clear H
  obtain⟨i,s,rfl,rfl,hik,HS,H⟩:=hrel
  have hsN:s<=N:=by rw [<- HS.out]; exact HLE.out i
  by_cases hin:i<k
  ·have k1:(i:Int)<(k:Int):=by omega
   obtain⟨q,h1,h2,h3,h4⟩:=HG.out i hin
   have hc:=h4 _ H
   have hs2:Part.sum (qs.take (i+1))=s+q.n:=by rw [h3,Part.sum_snoc,HS.out]
   have hs3:s+q.n<=N:=by rw [<- hs2]; exact HLE.out _
   have HS2:=Lib.hid hs2
   obtain⟨qA,qn,qc,qx⟩:=q
   simp only at hc HS2 hs3
   have k2:¬ (s:Int)+(qn:Int)<0:=by omega
   clear h1 h2 h3 h4 hs2
   go_wp2_with fail
   go_roundw
   case rel=>exact⟨i+1,s+qn,by go_num,by go_num,by omega,HS2,H⟩
   case measure=>first | (simp [intOf]; omega) | simp [intOf]
  ·have k1:¬ (i:Int)<(k:Int):=by omega
   obtain rfl:i=k:=by omega
   have hsN2:s=N:=by rw [<- HS.out,<- HN.out,List.take_of_length_le (by rw [HK.out]; exact Nat.le_refl _)]
   subst hsN2
   have hg:=grow_okK s H (by omega)
   have HGR:=Lib.hid hg
   clear hg
   go_wp2_with fail
   refine HGR.out.mono ?_
   rintro _ w2 ⟨v,rfl,H2⟩
   clear HGR H
   go_wp2_with fail
   go_loopw [6,27] (fun vv jv wr=>∃(j:Nat),jv=.int .i64 (j:Int)/\j<=i/\Sp w0 (Row 141 3 vv (Part.sum (qs.take j)) (Part.cat (qs.take j))::L) wr) (fun _ jv _=>i - (intOf jv).toNat)
   case atStart=>exact⟨0,rfl,Nat.zero_le _,H2⟩
   case round =>
    rename_i v0 _
    clear H2
    rename_i u6 u27
    obtain⟨j,rfl,hjk,H⟩:=hrel
    obtain⟨r,hr⟩:∃r,Part.sum (qs.take j)=r:=⟨_,rfl⟩
    obtain⟨X,hX⟩:∃X,Part.cat (qs.take j)=X:=⟨_,rfl⟩
    have hrN:r<=s:=by rw [<- hr]; exact HLE.out j
    rw [hr,hX] at H
    obtain⟨VA,Vc,hvf,_,_⟩:=Row.form H 0 rfl
    subst hvf
    by_cases hjn:j<i
    ·have k1:(j:Int)<(i:Int):=by omega
     obtain⟨q,h1,h2,h3,h4⟩:=HG.out j hjn
     have hc:=h4 _ H.tail
     have hs2:Part.sum (qs.take (j+1))=r+q.n:=by rw [h3,Part.sum_snoc,hr]
     have hs3:r+q.n<=s:=by rw [<- hs2]; exact HLE.out _
     have hx2:Part.cat (qs.take (j+1))=X++q.xs:=by rw [h3,Part.cat_snoc,hX]
     have HS2:=Lib.hid hs2
     have HX2:=Lib.hid hx2
     have HO:=Lib.hid h2
     obtain⟨qA,qn,qc,qx⟩:=q
     simp only at hc HS2 HX2 hs3
     clear h1 h2 h3 h4 hs2 hx2 hr hX
     go_wp2_with (at_builtin; refine wpList_append_sp rfl _ _ 138 rfl 141 i0 (.agg #[.int .i64 0,.int .i64 0,.pointer none]) 3 24 Tryd.underlying138 hi hz0 hz1 hz2 rfl (by decide) _ r X rfl H qA qn qc qx rfl HO.out.1 (HO.out.2.1 _ _ H.tail) HO.out.2.2 (by unfold maxLen; omega) (by omega) ?_)
     intro v9 w9 H9 _
     go_wp2_with fail
     go_roundw
     case rel=>exact⟨j+1,by go_num,by omega,by rw [HS2.out,HX2.out]; exact H9⟩
     case measure=>first | (simp [intOf]; omega) | simp [intOf]
    ·have k1:¬ (j:Int)<(i:Int):=by omega
     obtain rfl:j=i:=by omega
     have e1:qs.take j=qs:=List.take_of_length_le (by rw [HK.out]; exact Nat.le_refl _)
     rw [e1,HN.out] at hr
     rw [e1] at hX
     have HR:=Lib.hid hr
     have HX:=Lib.hid hX
     clear hr hX e1
     go_wp2_with fail
     go_ret
     exact⟨_,rfl,by rw [HX.out,HR.out]; exact H⟩
set_option maxRecDepth 100000 in
set_option maxHeartbeats 2000000 in
theorem merge_ok (A1 A2:Option Addr) (n1 c1 n2 c2:Nat) (l1 l2:List PK) {w0 w:World} {L:List Pr} (H:Sp w0 L w) (h1:l1.length=n1) (h2:l2.length=n2) (hb1:Ent L (fun w=>Rd w A1 (cellsK l1))) (hb2:Ent L (fun w=>Rd w A2 (cellsK l2))) (h0:0<n1) (hs:n1+n2<=1000000) :
  Calls Tryd.prog 64 #[.slice A1 n1 c1,.slice A2 n2 c2] w fun e w'=>∃v,e=.returned v/\Sp w0 (RowK v (SS.isort keyK (l1++l2))::L) w':=by
 have H1:=H.newBk [.slice A1 n1 c1,.slice A2 n2 c2] 138
 have hrd:=Rd.of_blk (H1.blk 0 rfl)
 have hc:=concat_okK ⟨w.heap.size,0,none⟩ 2 2 [⟨A1,n1,c1,cellsK l1⟩,⟨A2,n2,c2,cellsK l2⟩] H1 rfl (fun _ _ H=>Rd.of_blk (H.blk 0 rfl))
  (fun q hq=>by
   rcases List.mem_cons.1 hq with rfl | hq
   ·exact⟨by rw [cellsK_len,h1],hb1.cons _,cellsK_one _⟩
   ·rw [List.mem_singleton.1 hq]
    exact⟨by rw [cellsK_len,h2],hb2.cons _,cellsK_one _⟩) (by simp [Part.sum]; omega) (by omega)
 have hsum:Part.sum [⟨A1,n1,c1,cellsK l1⟩,⟨A2,n2,c2,cellsK l2⟩]=(l1++l2).length:=by simp [Part.sum,h1,h2]
 have hcat:Part.cat [⟨A1,n1,c1,cellsK l1⟩,⟨A2,n2,c2,cellsK l2⟩]=cellsK (l1++l2):=by simp [Part.cat,cellsK_append]
 rw [hsum,hcat] at hc
 have HC:=Lib.hid hc
 have hlen:(l1++l2).length=n1+n2:=by rw [List.length_append,h1,h2]
 have HLEN:=Lib.hid hlen
 clear hc hsum hcat hrd h1 h2 hb1 hb2 hlen
 go_enter Tryd.func64,Tryd.ntmps64
 go_wp2_with fail
 refine HC.out.mono ?_
 rintro _ w2 ⟨v,rfl,H2⟩
 replace H2:Sp w0 (RowK v (l1++l2)::L) w2:=H2.pick 2 [0]
 clear HC H1
 obtain⟨V,cv,hvf,_,_⟩:=RowK.form H2 0 rfl
 subst hvf
 rw [HLEN.out] at H2 ⊢
 obtain⟨ad,had⟩:∃ad,V=some ad:=by
  obtain⟨A9,c9,e9,hr9,_,_⟩:=H2.row_rd 0 rfl
  injection e9 with e9
  obtain⟨ad,ha,_⟩:=hr9 (by
   intro h
   have:=cellsK_len (l1++l2)
   rw [h,HLEN.out] at this
   simp at this; omega)
  exact⟨ad,by rw [e9,ha]⟩
 subst had
 have hc:=sortStable_ok ad (n1+n2) cv (l1++l2) H2 HLEN.out hs
 unfold cmpF at hc
 have HC:=Lib.hid hc
 clear hc
 go_wp2_with fail
 refine HC.out.mono ?_
 rintro _ w3 ⟨rfl,H3⟩
 go_wp2_with fail
 go_ret
 exact⟨_,rfl,H3⟩
set_option linter.unusedVariables false
abbrev PoolT:=List (Nat × PK × PK)
def Pool (F:PoolT):Pr:=fun h=>∀e ∈ F,h e.1=some (.cells (e.2.1.cells++e.2.2.cells).toArray 143 (0,0))
inductive Enc (F:PoolT):Nat->List Nat->PK->Prop
 | leaf (c s:Nat):Enc F c [s] ⟨(c:Int),(s:Int),none⟩
 | node {ca cb:Nat} {sa sb:List Nat} {pa pb:PK} {g:Nat} (h:(g,pa,pb) ∈ F) (ha:Enc F ca sa pa) (hb:Enc F cb sb pb):Enc F (ca+cb) (sa++sb) ⟨((ca+cb:Nat):Int),0,some g⟩
theorem Enc.count {F:PoolT} {c:Nat} {s:List Nat} {x:PK} (h:Enc F c s x):x.c=(c:Int):=by cases h <;> rfl
theorem Enc.mono {F F' : PoolT} {c:Nat} {s:List Nat} {x:PK} (h:Enc F c s x) (k:∀e ∈ F,e ∈ F'):Enc F' c s x:=by
 induction h with
 | leaf=>exact .leaf _ _
 | node h _ _ iha ihb=>exact .node (k _ h) iha ihb
theorem Enc.one {F:PoolT} {c:Nat} {s:List Nat} {x:PK} (h:Enc F c s x):0<s.length:=by
 induction h with
 | leaf=>simp
 | node h _ _ iha ihb=>rw [List.length_append]; omega
theorem Pool.get {w0 w:World} {L:List Pr} {F:PoolT} (H:Sp w0 L w) (k:Nat) (hk:L[k]?=some (Pool F)) {g:Nat} {pa pb:PK} (h:(g,pa,pb) ∈ F) :
  w.cell? ⟨g,0,none⟩=some (.int .i64 pa.c)/\w.cell? ⟨g,1,none⟩=some (.int .i64 pa.s)/\w.cell? ⟨g,2,none⟩=some pa.ptr/\w.cell? ⟨g,3,none⟩=some (.int .i64 pb.c)/\w.cell? ⟨g,4,none⟩=some (.int .i64 pb.s)/\w.cell? ⟨g,5,none⟩=some pb.ptr:=by
 obtain⟨_,_,_,own,hL⟩:=H
 have h2:=(rs_some (hL k _ hk _ h)).2
 have hb:Blk w g 143 (pa.cells++pb.cells):=h2
 exact⟨hb.cell 0,hb.cell 1,hb.cell 2,hb.cell 3,hb.cell 4,hb.cell 5⟩
theorem Pool.nil {w0 w:World} {L:List Pr} (H:Sp w0 L w):Sp w0 (Pool []::L) w:=by
 have:=H.rowNil 0 0
 exact this.imp fun _ _ e he=>by cases he
theorem Pool.cons {w0 w:World} {L:List Pr} {F:PoolT} {g:Nat} {pa pb:PK} (H:Sp w0 (Bk g 143 (pa.cells++pb.cells)::Pool F::L) w):Sp w0 (Pool ((g,pa,pb)::F)::L) w:=by
 refine H.star.imp fun p hp=>?_
 obtain⟨s,h1,h2⟩:=hp
 intro e he
 rcases List.mem_cons.1 he with rfl | he
 ·exact(rs_some h1).2
 ·exact(rs_some (h2 e he)).2
def cntR (n:Nat) (acc:List Nat):List Value:=(List.range n).map fun i=>.int .i64 (acc.count i:Int)
theorem cntR_get (n i:Nat) (acc:List Nat) (h:i<n):(cntR n acc)[i]?=some (.int .i64 (acc.count i:Int)):=by
 unfold cntR
 rw [List.getElem?_map,List.getElem?_range h]; rfl
theorem cntR_len (n:Nat) (acc:List Nat):(cntR n acc).length=n:=by simp [cntR]
theorem cntR_set (n s:Nat) (acc:List Nat) (v:Int) (hv:v=((acc.count s:Nat):Int)+1):(cntR n acc).set s (.int .i64 v)=cntR n (acc++[s]):=by
 apply List.ext_getElem?
 intro i
 rw [List.getElem?_set]
 by_cases h:i<n
 ·rw [cntR_get _ _ _ h,cntR_get _ _ _ h,List.count_append,List.count_singleton]
  by_cases e:s=i
  ·subst e
   rw [if_pos rfl,if_pos (by rw [cntR_len]; exact h),hv]
   simp
  ·rw [if_neg e]
   have:(s == i)=false:=by rw [beq_eq_false_iff_ne]; exact e
   simp [e]
 ·have h1:(cntR n acc)[i]?=none:=List.getElem?_eq_none (by rw [cntR_len]; omega)
  have h2:(cntR n (acc++[s]))[i]?=none:=List.getElem?_eq_none (by rw [cntR_len]; omega)
  rw [h1,h2]
  split
  ·rw [if_neg (by rw [cntR_len]; omega)]
  ·rfl
set_option maxRecDepth 100000 in
set_option maxHeartbeats 2000000 in
theorem spread_ok {F:PoolT} {w0:World} {n:Nat} {v:Value} (hn:n<=1000000) {cc:Nat} {s:List Nat} {x:PK} (hE:Enc F cc s x) :
  ∀(L:List Pr) (acc:List Nat) (w:World),(∀z ∈ s,z<n)->acc.length+s.length<=1000000000->Sp w0 (Row 3 1 v n (cntR n acc)::Pool F::L) w ->
  Calls Tryd.prog 65 #[x.val,v] w fun e w'=>e=.returned (.tuple #[])/\Sp w0 (Row 3 1 v n (cntR n (acc++s))::Pool F::L) w':=by
 induction hE with
 | leaf c s =>
  intro L acc w hs hl H
  have hsn:s<n:=hs s (List.mem_singleton.2 rfl)
  unfold PK.val PK.ptr
  simp only [Option.map_none]
  have H1:=(H.newBk [.int .i64 (c:Int),.int .i64 (s:Int),.pointer none] 141).swap
  clear H hs
  obtain⟨ad,cv,hv,_,hc,hz,hset⟩:=H1.rowSet hsn
  subst hv
  rw [cntR_get _ _ _ hsn] at hc
  obtain⟨q,hq⟩:∃q,acc.count s=q:=⟨_,rfl⟩
  have hql:q<=1000000000:=by
   rw [<- hq]
   refine Nat.le_trans List.count_le_length ?_
   omega
  rw [hq] at hc
  have k1:(s:Int)<(n:Int):=by omega
  have hres:=hset (.int .i64 ((q:Int)+1))
  rw [cntR_set n s acc _ (by rw [hq])] at hres
  have HR:=Lib.hid hres
  clear hres hset hq
  go_enter Tryd.func65,Tryd.ntmps65
  go_wp2_with fail
  refine bodyPost_ret (results_none rfl _ _ _) rfl ?_
  exact⟨rfl,HR.out.pick 3 [0,2]⟩
 | @node ca cb sa sb pa pb g hF ha hb iha ihb =>
  intro L acc w hs hl H
  rw [List.length_append] at hl
  unfold PK.val PK.ptr at *
  simp only [Option.map_some] at *
  have H1:Sp w0 (Row 3 1 v n (cntR n acc)::Pool F::Bk w.heap.size 141 [.int .i64 ((ca+cb:Nat):Int),.int .i64 0,.pointer (some ⟨g,0,none⟩)]::L) (w.alloc (.cells #[.int .i64 ((ca+cb:Nat):Int),.int .i64 0,.pointer (some ⟨g,0,none⟩)] 141)):=(H.newBk [.int .i64 ((ca+cb:Nat):Int),.int .i64 0,.pointer (some ⟨g,0,none⟩)] 141).pick 3 [1,2,0]
  obtain⟨p0,p1,p2,p3,p4,p5⟩:=Pool.get H1 1 rfl hF
  have ia:=iha _ acc _ (fun z hz=>hs z (List.mem_append_left _ hz)) (by omega) H1
  have ib:=fun(M:List Pr) w=>ihb M (acc++sa) w (fun z hz=>hs z (List.mem_append_right _ hz)) (by rw [List.length_append]; omega)
  have IA:=Lib.hid ia
  have IB:=Lib.hid ib
  have HF:=Lib.hid hF
  obtain⟨cc,hcc⟩:∃cc:Int,((ca+cb:Nat):Int)=cc:=⟨_,rfl⟩
  rw [hcc] at H1 IA p0 p1 p2 p3 p4 p5
  rw [hcc]
  unfold PK.ptr at p2 p5
  clear hcc hF hs iha ihb ia ib H ha hb
  go_enter Tryd.func65,Tryd.ntmps65
  go_wp2_with fail
  refine IA.out.mono ?_
  rintro _ w2 ⟨rfl,H2⟩
  clear IA H1 p0 p1 p2 p3 p4 p5
  obtain⟨p0,p1,p2,p3,p4,p5⟩:=Pool.get H2 1 rfl HF.out
  have b2:=H2.cell 2 rfl 2
  simp only [List.getElem?_cons_zero,List.getElem?_cons_succ] at b2
  unfold PK.ptr at p2 p5
  have HI:=Lib.hid (IB.out _ _ H2)
  clear IB
  go_wp2_with fail
  refine HI.out.mono ?_
  rintro _ w3 ⟨rfl,H3⟩
  go_wp2_with fail
  go_end0
  refine⟨rfl,?_⟩
  rw [<- List.append_assoc]
  exact H3.pick 3 [0,1]
namespace PL
abbrev Pk:=Nat × List Nat
def keyP (p:Pk):Int:=(p.1:Int)
def pk0:Pk:=(0,[])
def comb (a b:Pk):Pk:=(a.1+b.1,a.2++b.2)
def pairsTo (l:List Pk) (j:Nat):List Pk:=(List.range j).map fun i=>comb (l.getD (2 * i) pk0) (l.getD (2 * i+1) pk0)
def pairs (l:List Pk):List Pk:=pairsTo l (l.length / 2)
theorem pairsTo_succ (l:List Pk) (j:Nat):pairsTo l (j+1)=pairsTo l j++[comb (l.getD (2 * j) pk0) (l.getD (2 * j+1) pk0)]:=by
 unfold pairsTo; rw [List.range_succ,List.map_append]; rfl
def itemsTo (cs:List Nat) (k:Nat):List Pk:=((List.range k).filter fun i=>decide (0<cs.getD i 0)).map fun i=>(cs.getD i 0,[i])
def items (cs:List Nat):List Pk:=itemsTo cs cs.length
theorem itemsTo_succ (cs:List Nat) (k:Nat):itemsTo cs (k+1)=if 0<cs.getD k 0 then itemsTo cs k++[(cs.getD k 0,[k])] else itemsTo cs k:=by
 unfold itemsTo
 rw [List.range_succ,List.filter_append]
 by_cases h:0<cs.getD k 0
 ·rw [if_pos h,List.filter_cons,decide_eq_true h]; simp
 ·rw [if_neg h,List.filter_cons,decide_eq_false h]; simp
theorem itemsTo_len (cs:List Nat) (k:Nat):(itemsTo cs k).length<=k:=by
 unfold itemsTo
 rw [List.length_map]
 exact Nat.le_trans (List.length_filter_le _ _) (by simp)
theorem itemsTo_mem (cs:List Nat) (k:Nat):∀p ∈ itemsTo cs k,p.1 ∈ cs/\p.2.length=1/\0<p.1/\∀s ∈ p.2,s<k:=by
 intro p hp
 unfold itemsTo at hp
 obtain⟨i,hi,rfl⟩:=List.mem_map.1 hp
 obtain⟨h1,h2⟩:=List.mem_filter.1 hi
 have h3:=of_decide_eq_true h2
 refine⟨?_,rfl,h3,fun s hs=>by rw [List.mem_singleton.1 hs]; exact List.mem_range.1 h1⟩
 rcases Nat.lt_or_ge i cs.length with h | h
 ·show cs.getD i 0 ∈ cs
  rw [List.getD_eq_getElem?_getD,List.getElem?_eq_getElem h]; exact List.getElem_mem h
 ·rw [List.getD_eq_getElem?_getD,List.getElem?_eq_none h] at h3
  simp at h3
def nxt (it l:List Pk):List Pk:=SS.isort keyP (it++pairs l)
def lst (it:List Pk):Nat->List Pk
 | 0=>it
 | i+1=>nxt it (lst it i)
def wt (f:Pk->Nat) (l:List Pk):Nat:=(l.map f).sum
theorem wt_append (f:Pk->Nat) (a b:List Pk):wt f (a++b)=wt f a+wt f b:=by unfold wt; simp
theorem wt_put (f:Pk->Nat) (l:List Pk) (p:Pk):wt f (SS.put keyP l p)=wt f l+f p:=by
 induction l with
 | nil=>simp [SS.put,wt]
 | cons x l ih =>
  unfold SS.put
  split
  ·show f x+wt f (SS.put keyP l p)=f x+wt f l+f p
   rw [ih]; omega
  ·show f p+(f x+wt f l)=f x+wt f l+f p
   omega
theorem wt_mrg (f:Pk->Nat) (u v:List Pk):wt f (SS.mrg keyP u v)=wt f u+wt f v:=by
 unfold SS.mrg
 induction v generalizing u with
 | nil=>simp [wt]
 | cons y v ih =>
  rw [List.foldl_cons,ih,wt_put]
  show _=wt f u+(f y+wt f v)
  omega
theorem wt_isort (f:Pk->Nat) (l:List Pk):wt f (SS.isort keyP l)=wt f l:=by unfold SS.isort; rw [wt_mrg]; simp [wt]
theorem wt_mem (f:Pk->Nat) {l:List Pk} {p:Pk} (h:p ∈ l):f p<=wt f l:=by
 induction l with
 | nil=>cases h
 | cons x l ih =>
  show _<=f x+wt f l
  rcases List.mem_cons.1 h with rfl | h
  ·omega
  ·have:=ih h; omega
theorem wt_take (f:Pk->Nat) (l:List Pk) (i:Nat):wt f (l.take i)<=wt f l:=by
 have h:=wt_append f (l.take i) (l.drop i)
 rw [List.take_append_drop] at h; omega
theorem wt_pairsTo (f:Pk->Nat) (hf:∀a b,f (comb a b)=f a+f b) (l:List Pk) (j:Nat) (hj:j<=l.length / 2):wt f (pairsTo l j)=wt f (l.take (2 * j)):=by
 induction j with
 | zero=>rfl
 | succ j ih =>
  have h1:2 * j<l.length:=by omega
  have h2:2 * j+1<l.length:=by omega
  rw [pairsTo_succ,wt_append,ih (by omega),show 2 * (j+1)=2 * j+1+1 by omega,List.take_succ_eq_append_getElem h2,List.take_succ_eq_append_getElem h1,wt_append,wt_append]
  have e1:l.getD (2 * j) pk0=l[2 * j]:=by rw [List.getD_eq_getElem?_getD,List.getElem?_eq_getElem h1]; rfl
  have e2:l.getD (2 * j+1) pk0=l[2 * j+1]:=by rw [List.getD_eq_getElem?_getD,List.getElem?_eq_getElem h2]; rfl
  rw [e1,e2]
  simp only [wt,List.map_cons,List.map_nil,List.sum_cons,List.sum_nil,hf]
  omega
theorem wt_pairs (f:Pk->Nat) (hf:∀a b,f (comb a b)=f a+f b) (l:List Pk):wt f (pairs l)<=wt f l:=by
 unfold pairs
 rw [wt_pairsTo f hf l _ (Nat.le_refl _)]
 exact wt_take f l _
theorem wt_lst (f:Pk->Nat) (hf:∀a b,f (comb a b)=f a+f b) (it:List Pk) (i:Nat):wt f (lst it i)<=(i+1) * wt f it:=by
 induction i with
 | zero=>simp [lst]
 | succ i ih =>
  show wt f (nxt it (lst it i))<=_
  unfold nxt
  rw [wt_isort,wt_append,Nat.succ_mul]
  have:=wt_pairs f hf (lst it i)
  omega
theorem pairs_len (l:List Pk):(pairs l).length=l.length / 2:=by unfold pairs pairsTo; simp
theorem lst_len (it:List Pk) (i:Nat):(lst it (i+1)).length=it.length+(lst it i).length / 2:=by
 show(nxt it (lst it i)).length=_
 unfold nxt
 rw [SS.len_isort,List.length_append,pairs_len]
theorem lst_le (it:List Pk) (i:Nat):(lst it i).length<=2 * it.length:=by
 induction i with
 | zero=>show it.length<=_; omega
 | succ i ih=>rw [lst_len]; omega
theorem lst_gap (it:List Pk) (i:Nat) (e:Nat) (h:it.length<=2 ^ (i+e)):2 * it.length<=(lst it i).length+2 ^ e:=by
 induction i generalizing e with
 | zero=>show 2 * it.length<=it.length+_; rw [Nat.zero_add] at h; omega
 | succ i ih =>
  have h2:=ih (e+1) (by rw [show i+(e+1)=i+1+e by omega]; exact h)
  rw [lst_len]
  rw [Nat.pow_succ] at h2
  omega
theorem lst_enough (it:List Pk) (m:Nat) (hm:1<=m) (h:it.length<=2 ^ m):2 * it.length - 2<=(lst it (m - 1)).length:=by
 have:=lst_gap it (m - 1) 1 (by rw [show m - 1+1=m by omega]; exact h)
 omega
theorem lst_mem (P:Pk->Prop) (hc:∀a b,P a->P b->P (comb a b)) (it:List Pk) (hi:∀p ∈ it,P p) (i:Nat):∀p ∈ lst it i,P p:=by
 induction i with
 | zero=>exact hi
 | succ i ih =>
  intro p hp
  have hp:p ∈ SS.isort keyP (it++pairs (lst it i)):=hp
  rcases List.mem_append.1 (SS.mem_isort.1 hp) with hp | hp
  ·exact hi p hp
  ·unfold pairs pairsTo at hp
   obtain⟨j,hj,rfl⟩:=List.mem_map.1 hp
   have hj:=List.mem_range.1 hj
   refine hc _ _ (ih _ ?_) (ih _ ?_)
   ·rw [List.getD_eq_getElem?_getD,List.getElem?_eq_getElem (show 2 * j<_ by omega)]; exact List.getElem_mem _
   ·rw [List.getD_eq_getElem?_getD,List.getElem?_eq_getElem (show 2 * j+1<_ by omega)]; exact List.getElem_mem _
def sorted (cs:List Nat):List Pk:=SS.isort keyP (items cs)
def flat (cs:List Nat) (m:Nat):List Nat:=if (items cs).length<2 then (items cs).flatMap Prod.snd else ((lst (sorted cs) (m - 1)).take (2 * (items cs).length - 2)).flatMap Prod.snd
def lens (cs:List Nat) (m:Nat):List Nat:=(List.range cs.length).map fun i=>(flat cs m).count i
theorem lens_len (cs:List Nat) (m:Nat):(lens cs m).length=cs.length:=by simp [lens]
def may (l:List Int) (m:Int):Bool:=decide (l.length<=1024) && (decide (1<=m/\m<=15) && (l.all (fun n=>decide (0<=n/\n<=4294967296)) && decide ((items (l.map Int.toNat)).length<=2 ^ m.toNat)))
end PL
def All2 {α β:Type} (R:α->β->Prop):List α->List β->Prop
 | [],[]=>True
 | a::us,b::vs=>R a b/\All2 R us vs
 | _,_=>False
section
variable {α β:Type} {R:α->β->Prop}
theorem All2.len:∀ {us:List α} {vs:List β},All2 R us vs->us.length=vs.length
 | [],[],_=>rfl
 | a::us,b::vs,h=>by rw [List.length_cons,List.length_cons,All2.len h.2]
theorem All2.get (d:α) (e:β):∀ {us:List α} {vs:List β},All2 R us vs->∀i,i<us.length->R (us.getD i d) (vs.getD i e)
 | [],[],_,i,h=>by simp at h
 | a::us,b::vs,h,0,_=>h.1
 | a::us,b::vs,h,i+1,hi=>All2.get d e h.2 i (by simpa using hi)
theorem All2.append:∀ {us:List α} {vs:List β} {cs:List α} {ds:List β},All2 R us vs->All2 R cs ds->All2 R (us++cs) (vs++ds)
 | [],[],_,_,_,h=>h
 | a::us,b::vs,_,_,h,k=>⟨h.1,All2.append h.2 k⟩
theorem All2.snoc {us:List α} {vs:List β} {a:α} {b:β} (h:All2 R us vs) (k:R a b):All2 R (us++[a]) (vs++[b]):=h.append ⟨k,trivial⟩
theorem All2.mono {R' : α->β->Prop} (hR:∀a b,R a b->R' a b):∀ {us:List α} {vs:List β},All2 R us vs->All2 R' us vs
 | [],[],_=>trivial
 | a::us,b::vs,h=>⟨hR _ _ h.1,All2.mono hR h.2⟩
theorem All2.put {ka:α->Int} {kb:β->Int} (hk:∀a b,R a b->ka a=kb b):∀ {us:List α} {vs:List β} {a:α} {b:β},All2 R us vs->R a b->All2 R (SS.put ka us a) (SS.put kb vs b)
 | [],[],_,_,_,h=>⟨h,trivial⟩
 | x::us,y::vs,a,b,h,k=>by
  unfold SS.put
  rw [hk _ _ h.1,hk _ _ k]
  split
  ·exact⟨h.1,All2.put hk h.2 k⟩
  ·exact⟨k,h⟩
theorem All2.mrg {ka:α->Int} {kb:β->Int} (hk:∀a b,R a b->ka a=kb b):∀ {cs:List α} {ds:List β} {us:List α} {vs:List β},All2 R us vs->All2 R cs ds->All2 R (SS.mrg ka us cs) (SS.mrg kb vs ds)
 | [],[],_,_,h,_=>h
 | c::cs,d::ds,_,_,h,k=>by
  show All2 R (SS.mrg ka (SS.put ka _ c) cs) (SS.mrg kb (SS.put kb _ d) ds)
  exact All2.mrg hk (h.put hk k.1) k.2
theorem All2.isort {ka:α->Int} {kb:β->Int} (hk:∀a b,R a b->ka a=kb b) {us:List α} {vs:List β} (h:All2 R us vs):All2 R (SS.isort ka us) (SS.isort kb vs):=All2.mrg hk (show All2 R [] [] from trivial) h
end
def EncL (F:PoolT) (ts:List PL.Pk) (xs:List PK):Prop:=All2 (fun t x=>Enc F t.1 t.2 x) ts xs
theorem EncL.isort {F:PoolT} {ts:List PL.Pk} {xs:List PK} (h:EncL F ts xs):EncL F (SS.isort PL.keyP ts) (SS.isort keyK xs):=All2.isort (fun _ _ h=>by show _=PK.c _; rw [h.count]; rfl) h
theorem EncL.mono {F F' : PoolT} {ts:List PL.Pk} {xs:List PK} (h:EncL F ts xs) (k:∀e ∈ F,e ∈ F'):EncL F' ts xs:=All2.mono (fun _ _ h=>Enc.mono h k) h
def leafs (cs:List Nat) (k:Nat):List PK:=(PL.itemsTo cs k).map fun p=>⟨(p.1:Int),((p.2.getD 0 0:Nat):Int),none⟩
theorem leafs_len (cs:List Nat) (k:Nat):(leafs cs k).length=(PL.itemsTo cs k).length:=by simp [leafs]
theorem leafs_succ (cs:List Nat) (k:Nat):leafs cs (k+1)=if 0<cs.getD k 0 then leafs cs k++[⟨((cs.getD k 0:Nat):Int),(k:Int),none⟩] else leafs cs k:=by
 unfold leafs
 rw [PL.itemsTo_succ]
 split
 ·rw [List.map_append]; rfl
 ·rfl
theorem leafs_enc (F:PoolT) (cs:List Nat) (k:Nat):EncL F (PL.itemsTo cs k) (leafs cs k):=by
 have h:∀l:List PL.Pk,(∀p ∈ l,p.2.length=1)->EncL F l (l.map fun p=>⟨(p.1:Int),((p.2.getD 0 0:Nat):Int),none⟩):=by
  intro l
  induction l with
  | nil=>intro _; trivial
  | cons p l ih =>
   intro hp
   refine⟨?_,ih fun q hq=>hp q (List.mem_cons_of_mem _ hq)⟩
   obtain⟨c,s⟩:=p
   obtain⟨x,rfl⟩:=List.length_eq_one_iff.1 (hp (c,s) (List.mem_cons_self ..))
   exact .leaf c x
 exact h _ fun p hp=>(PL.itemsTo_mem cs k p hp).2.1
end Go.Proofs.YtloijdbkikccgaaDoor

