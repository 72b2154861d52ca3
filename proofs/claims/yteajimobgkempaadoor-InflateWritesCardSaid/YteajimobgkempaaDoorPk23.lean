/- A pack. -/
import Derived.Test.YteajimobgkempaaDoorPk22
set_option linter.all false
set_option maxRecDepth 100000
set_option maxHeartbeats 8000000
namespace Go.Proofs.YteajimobgkempaaDoor
variable {w0 w:World} {L:List Pr}
open Go.RowKit
theorem Xv (gb gv gx gr:Nat) (by_:List UInt8) (vo vb:Value) (most:Nat) (vr:Value) (m:List Nat) (mo:Nat) (n at_:Nat) (l:List Bool) (H:Sp w0 (FeedX gv gx gr by_ vo vb most at_::Row 3 1 vr (PH.rows m).length (cellsN (PH.rows m))::BkB gb m vr (mo:Int)::L) w) (hn:n=l.length) (hb:l=PBits.ofB by_) (hl:n<=800000000) (ha:at_<=n) (hmo:mo<=15) (hs:PH.sum m<=32768) (hm:m.length<=1024) :
  Calls Tryd.prog 156 #[.pointer (some ⟨gb,0,none⟩),.func (.func 155) #[] #[.pointer (some ⟨gv,0,none⟩)]] w fun e w' =>
   e=.returned (.tuple #[.int .i64 ((PH.nextFrom m (l.drop at_) mo 0).2.2:Int),.int .i64 (PH.nextFrom m (l.drop at_) mo 0).2.1])/\Sp w0 (FeedX gv gx gr by_ vo vb most (at_+(PH.nextFrom m (l.drop at_) mo 0).1)::Row 3 1 vr (PH.rows m).length (cellsN (PH.rows m))::BkB gb m vr (mo:Int)::L) w':=by
 obtain⟨T,hT⟩:=exq (PH.nextFrom m (l.drop at_) mo 0);rw [hT];have Z:=hid hT;have O:=hid hn;have HB:=hid hb;have HS:=hid hs;clear hT hn hb hs;go_enter Tryd.func156,Tryd.ntmps156
 go_wp2_with fail
 go_loopw [6,7,8,9] (fun c6 c7 c8 c9 wr=>∃i:Nat,c6=.int .i64 (PH.numb ((l.drop at_).take i):Int)/\c7=.int .i64 ((PH.fst m i+PH.tal m i:Nat):Int)/\c8=.int .i64 ((PH.rowsB m i).length:Int)/\c9=.int .i64 ((i+1:Nat):Int)/\i<=mo/\at_+i<=n/\PH.fst m i+PH.tal m i<=PH.numb ((l.drop at_).take i)/\PH.nextFrom m (l.drop at_) (mo - i) i=T/\Sp w0 (FeedX gv gx gr by_ vo vb most (at_+i)::Row 3 1 vr (PH.rows m).length (cellsN (PH.rows m))::BkB gb m vr (mo:Int)::L) wr) (fun _ _ _ c9 _=>mo+1 - (intOf c9).toNat)
 case atStart=>exact⟨0,rfl,rfl,rfl,rfl,Nat.zero_le _,ha,Nat.zero_le _,Z.out,H⟩
 case round =>
  obtain⟨i,rfl,rfl,rfl,rfl,hi,a8,a0,o,J⟩:=hrel;obtain⟨C,K⟩:=exq (PH.numb ((l.drop at_).take i));obtain⟨F,M⟩:=exq (PH.fst m i+PH.tal m i);obtain⟨R,Q⟩:=exq ((PH.rowsB m i).length);obtain⟨P,z⟩:=exq ((PH.rows m).length);have a9:C<32768:=by
   have:=PH.numb_lt ((l.drop at_).take i);have h2:2 ^ ((l.drop at_).take i).length<=2 ^ 15:=Nat.pow_le_pow_right (by omega) (by rw [List.length_take]; omega);omega
  rw [K,M] at a0;rw [K,M,Q];obtain⟨VR,cR,rfl,_,_⟩:=Row.form J 1 rfl;rw [z] at J;rw [z] at ⊢;obtain⟨a1,a2,_,_,d⟩:=BkB.get J 2 rfl;have e1:((i+1:Nat):Int)=(i:Int)+1:=by omega
  rw [e1];by_cases b0:i<mo
  ·have k1:(i:Int)+1<=(mo:Int):=by omega
   by_cases a3:at_+i<n
   ·have hg:∃b,l[at_+i]?=some b:=⟨l[at_+i]'(by rw [<- O.out]; exact a3),List.getElem?_eq_getElem _⟩;obtain⟨b,S⟩:=hg;have G:=hid S;have a4:=hid o;have HC:=hid K;have U:=hid M;have V:=hid Q;have A:=hid z;have ct:=hid (d (i+1) (by omega));clear S o K M Q z d H Z;go_wp2_with fail
    refine(Vl gv gx gr by_ vo vb most (at_+i) b J (by have:=O.out; rw [HB.out,PBits.ofB_length] at this; omega) (by rw [<- HB.out]; exact G.out)).mono ?_;rintro _ w1 ⟨rfl,B⟩;obtain⟨a1,a2,_,_,d⟩:=BkB.get B 2 rfl;have ct:=d (i+1) (by omega);obtain⟨t,N⟩:=exq (PH.tal m (i+1));rw [N] at ct;have p:=hid N;have b1:t<=1024:=by rw [<- N]; exact Nat.le_trans (PH.tal_le m _) hm
    have b2:R<=15360:=by
     rw [<- V.out];exact Nat.le_trans (PH.rowsB_len m i) (Nat.mul_le_mul (by omega:i<=15) hm)
    have a:=PH.next_on m l at_ i (mo - (i+1)) C F b G.out HC.out U.out;rw [show mo - (i+1)+1=mo - i by omega,a4.out,N,V.out] at a;have u:=hid (PH.numb_take l at_ i b G.out);have W:R+t<=(PH.rows m).length:=by
     rw [<- V.out,<- N,<- PH.rowsB_tal];exact PH.rowsB_mono m (i+1) 15 (by omega)
    have r:=hid W;rw [HC.out] at u;have X:∀q,q<(PH.rows m).length->∃ad,VR=some ad/\w1.cell? (ad.add q)=some (.int .i64 ((PH.rows m).getD q 0:Int)):=by
     intro q D;obtain⟨A9,c9,e9,a5,_,_⟩:=B.row_rd 1 rfl;injection e9 with e9
     subst e9;obtain⟨ad,ea,hc⟩:=a5.at_ (k:=q) (by simpa [cellsN] using D);refine⟨ad,ea,?_⟩;rw [hc];simp [cellsN,List.getD_eq_getElem?_getD,List.getElem?_eq_getElem D]
    have s:=hid X;have hz:=or_zero C (by omega);have ho:=Vh C (by omega);clear d N W X;have q1:bits .and .u32 1 1=1:=by decide +kernel
    have q2:bits .and .u32 0 1=0:=by decide +kernel
    cases b
    ·rw [show bitV false=0 from rfl] at a;rw [show((bitV false:Nat):Int)=0 from rfl];by_cases hit:2 * C+0<2 * F+t
     ·rw [if_pos hit] at a;obtain⟨h,f⟩:=exq (2 * C+0 - 2 * F);rw [f] at a;have kv:(C:Int) * 2 - (F:Int) * 2=(h:Int):=by omega
      obtain⟨q,v⟩:=exq (R+h);rw [v] at a;have kq:(R:Int)+(h:Int)=(q:Int):=by omega
      have D:q<(PH.rows m).length:=by have:=r.out; omega
      have I:=s.out q D;have k4:(h:Int)<(t:Int):=by omega
      have k6:(q:Int)<(P:Int):=by rw [<- A.out]; omega
      obtain⟨y,Y⟩:=exq ((PH.rows m).getD q 0);obtain⟨ad,rfl,j⟩:=I;rw [Y] at j a;have c:=hid a;clear a;clear Y f v D s r;go_wp2_with fail
      rw [c.out];go_ret2;exact⟨rfl,by rw [A.out]; exact B⟩
     ·rw [if_neg hit] at a;have c:=hid a;clear a;obtain⟨h,f⟩:=exq (2 * C+0 - 2 * F);have kv:(C:Int) * 2 - (F:Int) * 2=(h:Int):=by omega
      have k4:¬ (h:Int)<(t:Int):=by omega
      have x:=hid hit;clear hit f s r;go_wp2_with fail
      have hit:=x.out;clear x;go_roundw
      case rel =>
       refine⟨i+1,?_,?_,?_,by go_num,by omega,by omega,?_,c.out.symm,B⟩
       ·rw [u.out]; exact congrArg (Value.int .i64) (by simp [bitV]; omega)
       ·rw [PH.fst_next,U.out,p.out]; exact congrArg (Value.int .i64) (by omega)
       ·rw [PH.rowsB_tal,V.out,p.out]; exact congrArg (Value.int .i64) (by omega)
       ·rw [PH.fst_next,U.out,p.out,u.out]; have a6:bitV false=0:=rfl; have a7:bitV true=1:=rfl; omega
      case measure=>first | (simp [intOf]; omega) | simp [intOf]
    ·rw [show bitV true=1 from rfl] at a;rw [show((bitV true:Nat):Int)=1 from rfl];by_cases hit:2 * C+1<2 * F+t
     ·rw [if_pos hit] at a;obtain⟨h,f⟩:=exq (2 * C+1 - 2 * F);rw [f] at a;have kv:(C:Int) * 2+1 - (F:Int) * 2=(h:Int):=by omega
      obtain⟨q,v⟩:=exq (R+h);rw [v] at a;have kq:(R:Int)+(h:Int)=(q:Int):=by omega
      have D:q<(PH.rows m).length:=by have:=r.out; omega
      have I:=s.out q D;have k4:(h:Int)<(t:Int):=by omega
      have k6:(q:Int)<(P:Int):=by rw [<- A.out]; omega
      obtain⟨y,Y⟩:=exq ((PH.rows m).getD q 0);obtain⟨ad,rfl,j⟩:=I;rw [Y] at j a;have c:=hid a;clear a;clear Y f v D s r;go_wp2_with fail
      rw [c.out];go_ret2;exact⟨rfl,by rw [A.out]; exact B⟩
     ·rw [if_neg hit] at a;have c:=hid a;clear a;obtain⟨h,f⟩:=exq (2 * C+1 - 2 * F);have kv:(C:Int) * 2+1 - (F:Int) * 2=(h:Int):=by omega
      have k4:¬ (h:Int)<(t:Int):=by omega
      have x:=hid hit;clear hit f s r;go_wp2_with fail
      have hit:=x.out;clear x;go_roundw
      case rel =>
       refine⟨i+1,?_,?_,?_,by go_num,by omega,by omega,?_,c.out.symm,B⟩
       ·rw [u.out]; exact congrArg (Value.int .i64) (by simp [bitV]; omega)
       ·rw [PH.fst_next,U.out,p.out]; exact congrArg (Value.int .i64) (by omega)
       ·rw [PH.rowsB_tal,V.out,p.out]; exact congrArg (Value.int .i64) (by omega)
       ·rw [PH.fst_next,U.out,p.out,u.out]; have a6:bitV false=0:=rfl; have a7:bitV true=1:=rfl; omega
      case measure=>first | (simp [intOf]; omega) | simp [intOf]
   ·have g:T=(i,4,0):=by
     rw [<- o,show mo - i=mo - (i+1)+1 by omega,PH.nextFrom,if_pos (by rw [List.length_drop,<- O.out]; omega)]
    have c:=hid g;have A:=hid z;have E:at_+i=n:=by omega
    have HE:=hid E;clear o g K M Q z d H Z E;go_wp2_with fail
    refine(WN gv gx gr by_ vo vb most (at_+i) J (by have:=O.out; rw [HB.out,PBits.ofB_length] at this; omega) (by have:=O.out; rw [HB.out,PBits.ofB_length] at this; have:=HE.out; omega)).mono ?_;rintro _ w1 ⟨rfl,B⟩;go_wp2_with fail
    rw [c.out];go_ret2;exact⟨rfl,by rw [A.out]; exact B⟩
  ·have k1:¬ (i:Int)+1<=(mo:Int):=by omega
   have g:T=(i,20,0):=by rw [<- o,show mo - i=0 by omega]; rfl
   have c:=hid g;have A:=hid z;clear o g K M Q z d H Z;go_wp2_with fail
   rw [c.out];go_ret2;exact⟨rfl,by rw [A.out]; exact J⟩
def Bok (gb:Nat) (m:List Nat):Pr:=Ex fun vr:Value=>Star (Row 3 1 vr (PH.rows m).length (cellsN (PH.rows m))) (BkB gb m vr (PI.mostN m:Int))
theorem ZO (gx gr gb:Nat) (l:List UInt8) (most at_:Nat) (vo vb:Value) (m:List Nat) (H:Sp w0 (Rr gr l at_::XpB gx gr vo most vb::Bok gb m::L) w) (ha:at_<=8 * l.length) (hl:l.length<=100000000) (hs:PH.sum m<=32768) (hm:m.length<=1024) :
  Calls Tryd.prog 135 #[.pointer (some ⟨gx,0,none⟩),.pointer (some ⟨gb,0,none⟩)] w fun e w' =>
   match PI.sign (PBits.ofB l) m at_ with
   | .error c=>e=.panicked (pan c)/\Sp w0 L w'
   | .ok r=>e=.returned (.int .i64 r.2)/\Sp w0 (Rr gr l r.1::XpB gx gr vo most vb::Bok gb m::L) w':=by
 have A:∀(fn:Fn) (first cap:Array Value) (w:World),(Instr.makeFunc fn first cap).run Tryd.prog w=.ok (.func fn first cap) w:=fun _ _ _ _=>rfl;have k:=PI.next_facts m ((PBits.ofB l).drop at_) (PI.mostN m) (PI.mostN_le m);obtain⟨T,i⟩:=exq (PH.nextFrom m ((PBits.ofB l).drop at_) (PI.mostN m) 0);rw [i] at k;have a:PI.sign (PBits.ofB l) m at_=if T.2.1=0 then .ok (at_+T.1,T.2.2) else .error T.2.1.toNat:=by unfold PI.sign; rw [i]
 rw [a];have j:=hid i;have n:=hid k.2;obtain⟨o,H⟩:=(H.pick 3 [2,0,1]).unex;replace H:=H.unstar.pick 4 [2,3,0,1];have x:=Z6 ((H.newBk [.pointer (some ⟨gx,0,none⟩)] 91).pick 5 [1,2,0,3,4]);clear i k a;have y:=hid hl;have z:=hid ha;by_cases d:T.2.1=0
 ·rw [if_pos d];show Calls _ _ _ _ fun e w'=>e=.returned (.int .i64 T.2.2)/\Sp w0 (Rr gr l (at_+T.1)::XpB gx gr vo most vb::Bok gb m::L) w';have b:=Xv gb w.heap.size gx gr l vo vb most o m (PI.mostN m) (8 * l.length) at_ (PBits.ofB l) x (PBits.ofB_length l).symm rfl (by have:=y.out; omega) z.out (PI.mostN_le m) hs hm;rw [j.out,d] at b;obtain⟨t,f⟩:=exq T.2.2;obtain⟨q,a⟩:=exq (at_+T.1);rw [f,a] at b;rw [f,a];clear d f a j n;have p:=hid b;clear b;go_enter Tryd.func135,Tryd.ntmps135
  go_wp2_with fail
  refine p.out.mono ?_;rintro _ w1 ⟨rfl,s⟩;have u:=(ZN s).pick 5 [0,1,3,4];go_wp2_with fail
  refine(Xb w1).mono ?_;rintro _ B ⟨rfl,rfl⟩;go_wp2;go_ret;have C:Sp w0 (Bok gb m::Rr gr l q::XpB gx gr vo most vb::L) w1:=Sp.ex o (u.pick 4 [2,3,0,1]).star;exact⟨rfl,C.pick 3 [1,2,0]⟩
 ·rw [if_neg d];have g:∃c:Nat,T.2.1=(c:Int)/\c≠0:=by
   rcases n.out with h | h | h
   ·exact absurd h.1 d
   ·exact⟨4,h,by decide⟩
   ·exact⟨20,h,by decide⟩
  obtain⟨c,g,v⟩:=g;have b:=Xv gb w.heap.size gx gr l vo vb most o m (PI.mostN m) (8 * l.length) at_ (PBits.ofB l) x (PBits.ofB_length l).symm rfl (by have:=y.out; omega) z.out (PI.mostN_le m) hs hm;rw [j.out,g] at b;rw [g,show((c:Int)).toNat=c from rfl];show Calls _ _ _ _ fun e w'=>e=.panicked (pan c)/\Sp w0 L w';obtain⟨t,f⟩:=exq T.2.2;obtain⟨q,a⟩:=exq (at_+T.1);rw [f,a] at b;clear g d j n f a;have p:=hid b;clear b;go_enter Tryd.func135,Tryd.ntmps135
  go_wp2_with fail
  refine p.out.mono ?_;rintro _ w1 ⟨rfl,s⟩;have u:=(ZN s).pick 5 [0,1,3,4];go_wp2_with fail
  refine(Wk c v w1).mono ?_;rintro _ B ⟨rfl,rfl⟩;go_wp2;exact⟨rfl,rfl,u.pick 4 []⟩
theorem Wl (gx gr:Nat) (l:List UInt8) (most at_ s:Nat) (vo vb:Value) (TA:Option Addr) (n c:Nat) (t:List (Nat × Nat)) (H:Sp w0 (Rr gr l at_::XpB gx gr vo most vb::L) w) (ha:at_<=8 * l.length) (hl:l.length<=100000000)
  (hT:Ent L fun w=>Rd w TA (cellsP t)) (hn:n=t.length) (ht:∀p ∈ t,p.1<=100000/\p.2<=13) (hs:s<=1000000) :
  Calls Tryd.prog 137 #[.pointer (some ⟨gx,0,none⟩),.int .i64 s,.slice TA n c] w fun e w' =>
   match PI.count (PBits.ofB l) t s at_ with
   | .error c=>e=.panicked (pan c)/\Sp w0 L w'
   | .ok r=>e=.returned (.int .i64 r.2)/\Sp w0 (Rr gr l r.1::XpB gx gr vo most vb::L) w':=by
 by_cases q:s<t.length
 ·have z:∀w,Rd w TA (cellsP t)->∃ad,TA=some ad/\w.cell? (ad.add (s * 2))=some (.int .i64 ((t.getD s (0,0)).1:Int))/\w.cell? ⟨(ad.add (s * 2)).block,(ad.add (s * 2)).off+1,none⟩=some (.int .i64 ((t.getD s (0,0)).2:Int)):=fun w h=>rdP h q;obtain⟨ad,rfl,_,_⟩:=z w (hT _ _ H.tail2);have o:Ent L fun w=>w.cell? (ad.add (s * 2))=some (.int .i64 ((t.getD s (0,0)).1:Int))/\w.cell? ⟨(ad.add (s * 2)).block,(ad.add (s * 2)).off+1,none⟩=some (.int .i64 ((t.getD s (0,0)).2:Int)):=fun w0 w H=>by
   obtain⟨Z,e,h⟩:=z w (hT _ _ H);injection e with e
   rw [e]; exact h
  have y:t.getD s (0,0) ∈ t:=by
   rw [List.getD_eq_getElem?_getD,List.getElem?_eq_getElem q];exact List.getElem_mem q
  have G:=ht _ y;have I:PI.count (PBits.ofB l) t s at_=(PI.number (PBits.ofB l) at_ (t.getD s (0,0)).2).bind fun r=>.ok (r.1,(t.getD s (0,0)).1+r.2):=by unfold PI.count; rw [if_pos q]
  rw [I];obtain⟨⟨f,k⟩,C⟩:∃p,t.getD s (0,0)=p:=⟨_,rfl⟩;rw [C] at o G ⊢;have J:=hid o;have u:k<=57:=by have:=G.2; simp only at this; omega
  have hf:=G.1;simp only at hf;have sn:(s:Int)<(n:Int):=by omega
  have N:¬ (s:Int)≥(n:Int):=by omega
  clear o z y hT I C G ht hn q;show Calls _ _ _ _ fun e w'=>match (PI.number (PBits.ofB l) at_ k).bind fun r=>.ok (r.1,f+r.2) with
   | .error c=>e=.panicked (pan c)/\Sp w0 L w'
   | .ok r=>e=.returned (.int .i64 r.2)/\Sp w0 (Rr gr l r.1::XpB gx gr vo most vb::L) w'
  cases hr:PI.number (PBits.ofB l) at_ k with
  | error e =>
   have O:=hid hr;show Calls _ _ _ _ fun e' w'=>e'=.panicked (pan e)/\Sp w0 L w';clear hr;go_enter Tryd.func137,Tryd.ntmps137
   go_wp2_with fail
   refine wp_region_sc (L:=L) [some (.slice (some ad) n c),some (.int .i64 s),some (.pointer (some (ad.add (s * 2)))),some (.pointer (some (ad.add (s * 2)))),some (.int .i64 f),some (.pointer (some ⟨gx,0,none⟩)),some (.slice (some ad) n c),some (.int .i64 s),some (.pointer (some (ad.add (s * 2)))),some (.pointer (some ⟨(ad.add (s * 2)).block,(ad.add (s * 2)).off+1,none⟩)),some (.int .i64 k),none,none,none] (fun ix vx=>match ix with | 11=>(fun _=>False) vx | _=>True) (fun _ _=>[]) (fun ix=>match ix with | 11=>[Rr gr l at_,XpB gx gr vo most vb] | _=>[]) 14 25
    [some 12,some 13,some 14,some 15,some 16,some 17,some 18,some 19,some 20,some 21,some 22,some 23,some 24,some 6]
    [[],[],[0,1],[2],[3],[],[],[],[6,7],[8],[9],[5,10],[4,11],[12,11,0,1,2,3,4,5,6,7,8,9,10,11,12]]
    [[],[],[0,1],[0,1,2],[0,1,2,3],[],[],[],[6,7],[6,7,8],[6,7,8,9],[5,6,7,8,9,10],[0,1,2,3,4,5,6,7,8,9,10,11],[0,1,2,3,4,5,6,7,8,9,10,11,12]]
    [[],[],[],[],[],[],[],[],[],[],[],[],[],[]] [[],[],[],[],[],[],[],[],[],[],[],[],[],[]] [(0,.pointer (some ⟨gx,0,none⟩)),(1,.int .i64 s),(2,.slice (some ad) n c)]
    (by kernel_rfl) rfl (by decide) (by rfl) (by decide +kernel) rfl rfl (by simp) (H) ?hstep ?hend
   case hstep =>
    refine⟨?p0,⟨?p1,⟨?p2,⟨?p3,⟨?p4,⟨?p5,⟨?p6,⟨?p7,⟨?p8,⟨?p9,⟨?p10,⟨?p11,⟨?p12,⟨?p13,trivial⟩⟩⟩⟩⟩⟩⟩⟩⟩⟩⟩⟩⟩⟩
    case p0 | p1 | p2 | p3 | p5 | p6 | p7 | p8 | p9 =>
     intro x wx A g b i d m H K j;replace j:=hid j;clear d m b;repeat (obtain⟨_,i⟩:=i)
     refine so ?_;go_step;exact j.out _ _ rfl H
    case p4 =>
     intro x wx A g b i d m H K a;have P:=tq d 3;have j:=hid a;clear a i d b;have v:wx.cell? (ad.add (s * 2))=some (.int .i64 f)/\wx.cell? ⟨(ad.add (s * 2)).block,(ad.add (s * 2)).off+1,none⟩=some (.int .i64 k):=m (fun w=>w.cell? (ad.add (s * 2))=some (.int .i64 f)/\w.cell? ⟨(ad.add (s * 2)).block,(ad.add (s * 2)).off+1,none⟩=some (.int .i64 k)) J.out _ _ H;have Q:=v.1;clear v;refine so ?_;go_step;exact j.out _ _ rfl H
    case p10 =>
     intro x wx A g b i d m H K a;have R:=tq d 9;have j:=hid a;clear a i d b;have v:wx.cell? (ad.add (s * 2))=some (.int .i64 f)/\wx.cell? ⟨(ad.add (s * 2)).block,(ad.add (s * 2)).off+1,none⟩=some (.int .i64 k):=m (fun w=>w.cell? (ad.add (s * 2))=some (.int .i64 f)/\w.cell? ⟨(ad.add (s * 2)).block,(ad.add (s * 2)).off+1,none⟩=some (.int .i64 k)) J.out _ _ H;have Q:=v.2;clear v;refine so ?_;go_step;exact j.out _ _ rfl H
    case p11 =>
     intro x wx A g b i d m H K a;replace b:=hid b;have S:=tq d 5;have T:=tq d 10;replace H:Sp w0 (_::_::g) wx:=H;have j:=hid a;clear a i d;refine so ?_;go_wp2_with fail
     have B:=Zl gx gr l most at_ k vo vb H (by omega) u (by omega);rw [O.out] at B;refine B.mono ?_;clear B;rintro _ w9 ⟨rfl,U⟩;go_wp2;exact⟨b.out,rfl,U.sub m⟩
    case p12 =>
     intro x wx A g b i d m H K a;have a0:=tq d 4;have a1:False:=(d 11 (by decide)).1;have a2:=(d 11 (by decide)).2 23 rfl;have j:=hid a;clear a i b;exact((d 11 (by decide)).1:False).elim
    case p13 =>
     intro x wx A g b i d m H K a;have a3:True:=(d 12 (by decide)).1;have a4:=(d 12 (by decide)).2 24 rfl;have j:=hid a;clear a i b;exact((d 11 (by decide)).1:False).elim
   case hend =>
    intro x wx A D d H;replace H:Sp w0 (L) wx:=H;have V:False:=d 11 (by decide);clear d;simp only [putAll,Act.put,List.setIfInBounds_toArray,List.set_cons_succ,List.set_cons_zero,Nat.reduceAdd] at D;subst D;exact V.elim
  | ok r =>
   obtain⟨W,a5⟩:=PI.number_ok hr;subst W;have hv:=PI.numAt_small (PBits.ofB l) at_ k 57 u;obtain⟨M,E⟩:=exq (PI.numAt (PBits.ofB l) at_ k);rw [E] at hr hv ⊢;have O:=hid hr;obtain⟨fv,F⟩:=exq (f+M);show Calls _ _ _ _ fun e w'=>e=.returned (.int .i64 ((f+M:Nat):Int))/\Sp w0 (Rr gr l (at_+k)::XpB gx gr vo most vb::L) w';rw [F];have e3:(f:Int)+(M:Int)=(fv:Int):=by omega
   have Y:fv<9000000000000000000:=by omega
   clear hr E F;go_enter Tryd.func137,Tryd.ntmps137
   go_wp2_with fail
   refine wp_region_sc (L:=L) [some (.slice (some ad) n c),some (.int .i64 s),some (.pointer (some (ad.add (s * 2)))),some (.pointer (some (ad.add (s * 2)))),some (.int .i64 f),some (.pointer (some ⟨gx,0,none⟩)),some (.slice (some ad) n c),some (.int .i64 s),some (.pointer (some (ad.add (s * 2)))),some (.pointer (some ⟨(ad.add (s * 2)).block,(ad.add (s * 2)).off+1,none⟩)),some (.int .i64 k),some (.int .i64 M),some (.int .i64 fv),some (.int .i64 fv)] (fun _ _=>True) (fun ix vx=>match ix with | 11=>(fun _=>[Rr gr l (at_+k),XpB gx gr vo most vb]) vx | _=>[]) (fun ix=>match ix with | 11=>[Rr gr l at_,XpB gx gr vo most vb] | _=>[]) 14 25
    [some 12,some 13,some 14,some 15,some 16,some 17,some 18,some 19,some 20,some 21,some 22,some 23,some 24,some 6]
    [[],[],[0,1],[2],[3],[],[],[],[6,7],[8],[9],[5,10],[4,11],[12,11,0,1,2,3,4,5,6,7,8,9,10,11,12]]
    [[],[],[0,1],[0,1,2],[0,1,2,3],[],[],[],[6,7],[6,7,8],[6,7,8,9],[5,6,7,8,9,10],[0,1,2,3,4,5,6,7,8,9,10,11],[0,1,2,3,4,5,6,7,8,9,10,11,12]]
    [[],[],[],[],[],[],[],[],[],[],[],[],[],[]] [[],[],[],[],[],[],[],[],[],[],[],[],[],[]] [(0,.pointer (some ⟨gx,0,none⟩)),(1,.int .i64 s),(2,.slice (some ad) n c)]
    (by kernel_rfl) rfl (by decide) (by rfl) (by decide +kernel) rfl rfl (by simp) (H) ?hstep ?hend
   case hstep =>
    refine⟨?p0,⟨?p1,⟨?p2,⟨?p3,⟨?p4,⟨?p5,⟨?p6,⟨?p7,⟨?p8,⟨?p9,⟨?p10,⟨?p11,⟨?p12,⟨?p13,trivial⟩⟩⟩⟩⟩⟩⟩⟩⟩⟩⟩⟩⟩⟩
    case p0 | p1 | p2 | p3 | p5 | p6 | p7 | p8 | p9 | p12 | p13 =>
     intro x wx A g b i d m H K j;replace j:=hid j;clear d m b;repeat (obtain⟨_,i⟩:=i)
     refine so ?_;go_step;exact j.out _ _ rfl H
    case p4 =>
     intro x wx A g b i d m H K a;have P:=tq d 3;have j:=hid a;clear a i d b;have v:wx.cell? (ad.add (s * 2))=some (.int .i64 f)/\wx.cell? ⟨(ad.add (s * 2)).block,(ad.add (s * 2)).off+1,none⟩=some (.int .i64 k):=m (fun w=>w.cell? (ad.add (s * 2))=some (.int .i64 f)/\w.cell? ⟨(ad.add (s * 2)).block,(ad.add (s * 2)).off+1,none⟩=some (.int .i64 k)) J.out _ _ H;have Q:=v.1;clear v;refine so ?_;go_step;exact j.out _ _ rfl H
    case p10 =>
     intro x wx A g b i d m H K a;have R:=tq d 9;have j:=hid a;clear a i d b;have v:wx.cell? (ad.add (s * 2))=some (.int .i64 f)/\wx.cell? ⟨(ad.add (s * 2)).block,(ad.add (s * 2)).off+1,none⟩=some (.int .i64 k):=m (fun w=>w.cell? (ad.add (s * 2))=some (.int .i64 f)/\w.cell? ⟨(ad.add (s * 2)).block,(ad.add (s * 2)).off+1,none⟩=some (.int .i64 k)) J.out _ _ H;have Q:=v.2;clear v;refine so ?_;go_step;exact j.out _ _ rfl H
    case p11 =>
     intro x wx A g b i d m H K a;have S:=tq d 5;have T:=tq d 10;replace H:Sp w0 (_::_::g) wx:=H;have j:=hid a;clear a i d m b;refine so ?_;go_wp2_with fail
     have B:=Zl gx gr l most at_ k vo vb H (by omega) u (by omega);rw [O.out] at B;refine B.mono ?_;clear B;rintro _ w9 ⟨rfl,U⟩;exact j.out _ _ rfl U
   case hend =>
    intro x wx A D d H;replace H:Sp w0 (_::_::L) wx:=H;have X:x 13=.int .i64 fv:=d 13 (by decide);clear d;simp only [putAll,Act.put,List.setIfInBounds_toArray,List.set_cons_succ,List.set_cons_zero,Nat.reduceAdd] at D;subst D;rw [X];go_wp2;go_ret;exact⟨rfl,H⟩
 ·have I:PI.count (PBits.ofB l) t s at_=.error 20:=by unfold PI.count; rw [if_neg q]
  rw [I];have N:(s:Int)≥(n:Int):=by omega
  show Calls _ _ _ _ fun e w'=>e=.panicked (pan 20)/\Sp w0 L w';clear hT;go_enter Tryd.func137,Tryd.ntmps137
  go_wp2;exact⟨rfl,rfl,H.tail2⟩
structure Tabs (TL TA:Option Addr) (cl ca:Nat) (w:World):Prop where
 long:w.cell? ⟨5,0,none⟩=some (.slice TL 28 cl)
 longs:Rd w TL (cellsP PI.lengthsT)
 far:w.cell? ⟨2,0,none⟩=some (.slice TA 30 ca)
 fars:Rd w TA (cellsP PI.awayT)
 order:∀i,i<19->w.cell? ⟨3,i,none⟩=some (.int .i64 (PI.orderT.getD i 0:Nat))
theorem Tabs.heap {TL TA:Option Addr} {cl ca:Nat} {W w:World} (h:Tabs TL TA cl ca W) (hs:∀b,b<W.heap.size->w.heap[b]?=W.heap[b]?):Tabs TL TA cl ca w:=by
 have a:∀(p:Addr) u,W.cell? p=some u->w.cell? p=some u:=fun p u hp=>by
  rw [<- hp]; exact World.cell?_of_block (hs p.block (Zz hp))
 exact⟨a _ _ h.long,h.longs.keep fun p u _ hp=>by rw [hp]; exact a _ _ hp,a _ _ h.far,h.fars.keep fun p u _ hp=>by rw [hp]; exact a _ _ hp,fun i hi=>a _ _ (h.order i hi)⟩
theorem Yl:∀p ∈ PI.lengthsT,p.1<=100000/\p.2<=13:=by decide
theorem YN:∀p ∈ PI.awayT,p.1<=100000/\p.2<=13:=by decide
theorem Vn (gx gr:Nat) (l:List UInt8) (most at_ s:Nat) (vo vb:Value) (TL TA:Option Addr) (cl ca:Nat) (H:Sp w0 (Rr gr l at_::XpB gx gr vo most vb::L) w) (ha:at_<=8 * l.length) (hl:l.length<=100000000)
  (hT:Ent L (Tabs TL TA cl ca)) (hs:s<=1000000) :
  Calls Tryd.prog 136 #[.pointer (some ⟨gx,0,none⟩),.int .i64 s] w fun e w' =>
   match PI.length (PBits.ofB l) s at_ with
   | .error c=>e=.panicked (pan c)/\Sp w0 L w'
   | .ok r=>e=.returned (.int .i64 r.2)/\Sp w0 (Rr gr l r.1::XpB gx gr vo most vb::L) w':=by
 by_cases a:s=28
 ·subst a;show Calls _ _ _ _ fun e w'=>e=.returned (.int .i64 258)/\Sp w0 (Rr gr l at_::XpB gx gr vo most vb::L) w';clear hT;go_enter Tryd.func136,Tryd.ntmps136
  go_wp2;go_ret;exact⟨rfl,H⟩
 ·have f:PI.length (PBits.ofB l) s at_=PI.count (PBits.ofB l) PI.lengthsT s at_:=by unfold PI.length; rw [if_neg a]
  rw [f];have m:¬ (s:Int)=28:=by omega
  have n:=(hT _ _ H.tail2).long;have g:=Wl gx gr l most at_ s vo vb TL 28 cl PI.lengthsT H ha hl (fun w0 w h=>(hT w0 w h).longs) rfl Yl hs;have b:=hid g;clear g hT f;cases hr:PI.count (PBits.ofB l) PI.lengthsT s at_ with
  | error c =>
   rw [hr] at b;show Calls _ _ _ _ fun e w'=>e=.panicked (pan c)/\Sp w0 L w';clear hr;go_enter Tryd.func136,Tryd.ntmps136
   go_wp2_with fail
   refine b.out.mono ?_;rintro _ i ⟨rfl,d⟩;go_wp2;exact⟨rfl,rfl,d⟩
  | ok r =>
   rw [hr] at b;obtain⟨j,k⟩:=r;show Calls _ _ _ _ fun e w'=>e=.returned (.int .i64 k)/\Sp w0 (Rr gr l j::XpB gx gr vo most vb::L) w';clear hr;go_enter Tryd.func136,Tryd.ntmps136
   go_wp2_with fail
   refine b.out.mono ?_;rintro _ i ⟨rfl,d⟩;go_wp2_with fail
   go_ret;exact⟨rfl,d⟩
def RI (g n:Nat) (c:Value) (bp:Nat):Pr:=Ex fun cur:Array Value=>Ex fun(_:cur.size=n/\bp<=n/\cur.toList.take bp=List.replicate bp c)=>Is g (.cells cur 3 (0,0))
theorem RI.rd {g n bp:Nat} {c:Value} (H:Sp w0 (RI g n c bp::L) w):Rd w (some ⟨g,0,none⟩) ((List.replicate bp c)):=by
 obtain⟨a,H⟩:=H.unex;obtain⟨⟨h,i,b⟩,H⟩:=H.unex;have d:=H.is_ 0 rfl;refine fun _=>⟨_,rfl,fun j u hu=>?_⟩;have e:(Addr.add ⟨g,0,none⟩ j)=⟨g,j,none⟩:=by
  unfold Addr.add; split
  ·rename_i h0; subst h0; rfl
  ·simp
 rw [e];have f:j<bp:=by
  have:=(List.getElem?_eq_some_iff.1 hu).1;simpa using this
 rw [<- b,List.getElem?_take_of_lt f] at hu;simp [World.cell?,d];simpa using hu
theorem RI.row {g n:Nat} {c:Value} (H:Sp w0 (RI g n c n::L) w) (hn:n<=maxLen):Sp w0 (Row 3 1 (.slice (some ⟨g,0,none⟩) n n) n (List.replicate n c)::L) w:=by
 obtain⟨a,H⟩:=H.unex;obtain⟨⟨b,e,d⟩,H⟩:=H.unex;exact H.imp fun p hp=>⟨by simp,.inr ⟨g,n,a,rfl,hp,Nat.le_refl _,hn,by rw [b,Nat.mul_one],by rw [Nat.mul_one,d]⟩⟩
theorem RI.of_row {ad:Addr} {n:Nat} {c z:Value} (H:Sp w0 (Row 3 1 (.slice (some ad) n n) n (List.replicate n z)::L) w):∃g,ad=⟨g,0,none⟩/\Sp w0 (RI g n c 0::L) w:=by
 have h:=H.owns 0 rfl;rcases h.2 with ⟨hv,_⟩ | ⟨g,cap,cur,hv,hb,hh,h1,h2,h3,h4⟩
 ·cases hv
 ·injection hv with e1 e2 e3
  injection e1 with e1
  subst e1 e3;refine⟨g,rfl,H.imp fun p hp=>?_⟩;rcases hp.2 with ⟨hv,_⟩ | ⟨g',cap',cur',hv,hb',h1',h2',h3',h4'⟩
  ·cases hv
  ·injection hv with e1 e2 e3
   injection e1 with e1
   injection e1 with e1
   subst e1 e3;exact⟨cur',⟨by rw [h3',Nat.mul_one],Nat.zero_le _,rfl⟩,hb'⟩
theorem RI.copy {g n bp k:Nat} {c:Value} (H:Sp w0 (RI g n c bp::L) w) (a:Addr) (sLen sCap dCap:Nat) (ty:TypeId) (hk:k=min sLen (n - bp)) (hc1:c.oneCell'=true)
  (hsrc:∀j u,((List.replicate k c))[j]?=some u->w.cell? (a.add j)=some u) :
  ∃w',(Builtin.copy_ #[51,51] ty #[.slice (some ⟨g,bp,none⟩) (n - bp) dCap,.slice (some a) sLen sCap]).run Tryd.prog w=.ok (.int .i64 k) w'/\Sp w0 (RI g n c (bp+k)::L) w':=by
 obtain⟨p,e,l,f,m⟩:=info_parts infoJ;obtain⟨b,H⟩:=H.unex;obtain⟨⟨q,r,o⟩,H⟩:=H.unex;have h:=H.is_ 0 rfl;have d:((List.replicate k c)).length=k:=by simp
 have i:=run_copy_row (P:=Tryd.prog) w 51 51 ty 3 g bp (n - bp) dCap a sLen sCap b 3 ((List.replicate k c)) Tryd.underlying51 (by rw [e]; simp [f]) h (by rw [d]; exact hk) hsrc (by rw [d]; omega) (fun u hu=>by rw [(List.mem_replicate.1 hu).2]; exact hc1);rw [d] at i;refine⟨_,i,?_⟩;rw [ZK w g b _ _ _ h];refine Sp.ex _ (Sp.ex ⟨?_,?_,?_⟩ (H.put _))
 ·simp [d]; omega
 ·omega
 ·show List.take (bp+k) (b.toList.take bp++(List.replicate k c)++b.toList.drop (bp+k))=_;have s:(b.toList.take bp++(List.replicate k c)).length=bp+k:=by
   rw [List.length_append,d,List.length_take];simp only [Array.length_toList];omega
  rw [List.take_append_of_le_length (by omega),List.take_of_length_le (by omega),o,<- List.replicate_append_replicate]
theorem repeatI_ok (A:Option Addr) (ca:Nat) (c:Value) (n:Nat) (H:Sp w0 L w) (hb:Ent L (fun w=>Rd w A [c])) (hc1:c.oneCell'=true) (hn1:1<=n) (hn:n<=4096) :
  Calls Tryd.prog 139 #[.slice A 1 ca,.int .i64 n] w fun e w'=>∃g,e=.returned (.slice (some ⟨g,0,none⟩) n n)/\Sp w0 (Row 3 1 (.slice (some ⟨g,0,none⟩) n n) n (List.replicate n c)::L) w':=by
 obtain⟨S,p,r,s,t⟩:=info_parts infoJ;obtain⟨ad,rfl⟩:∃ad,A=some ad:=by
  obtain⟨ad,e,_⟩:=(hb _ _ H) (by simp);exact⟨ad,e⟩
 have T:=hid hb;have k3:¬ (n:Int)<0:=by omega
 have k2:¬ (9223372036854775807:Int)<(n:Int):=by omega
 clear hb;go_enter Tryd.func139,Tryd.ntmps139
 go_wp2_with fail
 refine(XB n (by omega) _).mono ?_;rintro _ _ ⟨rfl,rfl⟩;go_wp2_with (at_make; refine wpList_make_sp rfl _ _ _ rfl 3 S (.int .i64 0) Tryd.underlying51 p r s rfl n rfl rfl (by rw [t]; omega) (by unfold maxLen; omega) H ?_)
 intro a1 U I;obtain⟨g,rfl,v⟩:=RI.of_row (c:=c) I;have a:∀j u,(List.replicate 1 c)[j]?=some u->U.cell? (ad.add j)=some u:=by
  obtain⟨y,f,z⟩:=(T.out _ _ v.tail) (by simp);injection f with f
  rw [f];exact z
 obtain⟨w2,h,J⟩:=RI.copy v ad 1 ca n 3 (k:=1) (by omega) hc1 a;rw [Nat.sub_zero] at h;rw [Nat.zero_add] at J;clear I v a;go_wp2_with (at_builtin; refine Lib.wpList_copy_run _ rfl _ _ 51 51 rfl _ _ rfl rfl h ?_)
 clear h;go_wp2_with fail
 go_loopw [8] (fun bv wr=>∃bp:Nat,bv=.int .i64 bp/\1<=bp/\bp<=n/\Sp w0 (RI g n c bp::L) wr) (fun bv _=>n - (intOf bv).toNat)
 case atStart=>exact⟨1,rfl,Nat.le_refl _,hn1,J⟩
 case round =>
  obtain⟨bp,rfl,V,W,M⟩:=hrel;by_cases X:bp<n
  ·have Y:(bp:Int)<(n:Int):=by omega
   obtain⟨k,N⟩:∃k,k=min bp (n - bp):=⟨_,rfl⟩;obtain⟨q,O⟩:=exq (bp+k);have y0:(bp:Int)+(k:Int)=(q:Int):=by omega
   have y1:¬ n=bp:=by omega
   have y2:bp<=n:=by omega
   have y3:¬ bp=0:=by omega
   have Z:q<=n:=by omega
   have P:=hid N;have B:=hid O;have a0:1<=k:=by omega
   clear N O;go_wp2_with fail
   refine wp_region_sc (L:=L) [some (.int .i64 bp),some (.slice (some ⟨g,0,none⟩) n n),some (.int .i64 bp),some (.slice (some ⟨g,bp,none⟩) (n - bp) (n - bp)),some (.slice (some ⟨g,0,none⟩) n n),some (.int .i64 bp),some (.slice (some ⟨g,0,none⟩) bp n),some (.int .i64 k),some (.int .i64 q),some (.int .i64 q)] (fun _ _=>True) (fun ix vx=>match ix with | 7=>(fun _=>[RI g n c (bp+k)]) vx | _=>[]) (fun ix=>match ix with | 7=>[RI g n c bp] | _=>[]) 10 48
    [some 38,some 39,some 40,some 41,some 42,some 43,some 44,some 45,some 46,some 8]
    [[],[],[],[1,2],[],[],[4,5],[3,6],[0,7],[8,7,0,1,2,3,4,5,6,7,8]]
    [[],[],[],[1,2],[],[],[4,5],[1,2,3,4,5,6],[0,1,2,3,4,5,6,7],[0,1,2,3,4,5,6,7,8]]
    [[],[],[],[],[],[],[],[],[],[]] [[],[],[],[],[],[],[],[],[],[]] [(7,.slice (some ⟨g,0,none⟩) n n),(8,.int .i64 bp)]
    (by kernel_rfl) rfl (by decide) (by rfl) (by decide +kernel) rfl rfl (by simp) (M) ?hstep ?hend
   case hstep =>
    refine⟨?p0,⟨?p1,⟨?p2,⟨?p3,⟨?p4,⟨?p5,⟨?p6,⟨?p7,⟨?p8,⟨?p9,trivial⟩⟩⟩⟩⟩⟩⟩⟩⟩⟩
    case p0 | p1 | p2 | p3 | p4 | p5 | p6 | p8 | p9 =>
     intro x wx A b i o d C H K l;replace l:=hid l;clear d C i;repeat (obtain⟨_,o⟩:=o)
     refine so ?_;go_step;exact l.out _ _ rfl H
    case p7 =>
     intro x wx A b i o d C H K m;have D:=tq d 3;have E:=tq d 6;replace H:Sp w0 (_::b) wx:=H;have l:=hid m;clear m o d C i;have F:=RI.rd H;have a:∀j u,(List.replicate k c)[j]?=some u->wx.cell? ((⟨g,0,none⟩:Addr).add j)=some u:=fun j u hu=>by
      obtain⟨y,f,z⟩:=F (by intro h0; have:=congrArg List.length h0; simp at this; omega);injection f with f
      subst f;refine z j u ?_;have hj:j<k:=by
       have:=(List.getElem?_eq_some_iff.1 hu).1;simpa using this
      have:=P.out;simp only [List.getElem?_replicate] at hu ⊢;rw [if_pos hj] at hu;rw [if_pos (by omega)];exact hu
     obtain⟨w9,G,H9⟩:=RI.copy H ⟨g,0,none⟩ bp n (n - bp) 3 P.out hc1 a;refine so ?_;exact Lib.wp_copy_run wx _ _ 51 51 rfl _ _ (ev D) (ev E) G (l.out _ _ rfl H9)
   case hend =>
    intro x wx A Q d H;replace H:Sp w0 (_::L) wx:=H;have R:x 9=.int .i64 q:=d 9 (by decide);clear d;simp only [putAll,Act.put,List.setIfInBounds_toArray,List.set_cons_succ,List.set_cons_zero,Nat.reduceAdd] at Q;subst Q;rw [R];clear R;go_wp2;go_roundw
    case rel=>exact⟨q,rfl,by have:=B.out; omega,Z,by rw [<- B.out]; exact H⟩
    case measure =>
     have:=B.out;first | (simp [intOf]; omega) | simp [intOf]
  ·have Y:¬ (bp:Int)<(n:Int):=by omega
   obtain rfl:bp=n:=by omega
   go_wp2_with fail
   go_ret;exact⟨g,rfl,RI.row M (by unfold maxLen; omega)⟩
end Go.Proofs.YteajimobgkempaaDoor

