/- A pack. -/
import Derived.Test.YtnjpnmpemhldcaaGreatDoorPk30
set_option linter.all false
set_option maxRecDepth 100000
set_option maxHeartbeats 8000000
namespace Go.Proofs.YtnjpnmpemhldcaaGreatDoor
variable {w0 w:World} {L:List Pr}
open Go.RowKit
structure BP where
 b:List UInt8
 W:List PD.Wd
 last:Bool
 A:List Nat
 D:List Nat
 R:List PD.Wd
 F:List Nat
structure DV where
 b:Option Addr
 w:Option Addr
 a:Option Addr
 d:Option Addr
 r:Option Addr
 f:Option Addr
 bc:Nat
 wc:Nat
 ac:Nat
 dc:Nat
 rc:Nat
 fc:Nat
structure DBr (g:Nat) (v:DV) (p:BP) (u:World):Prop where
 c1:u.cell? ⟨g,1,none⟩=some (.slice v.b p.b.length v.bc)
 c2:u.cell? ⟨g,2,none⟩=some (.slice v.w p.W.length v.wc)
 c3:u.cell? ⟨g,3,none⟩=some (.bool p.last)
 c4:u.cell? ⟨g,4,none⟩=some (.slice v.a p.A.length v.ac)
 c5:u.cell? ⟨g,5,none⟩=some (.slice v.d p.D.length v.dc)
 c6:u.cell? ⟨g,6,none⟩=some (.slice v.r p.R.length v.rc)
 c7:u.cell? ⟨g,7,none⟩=some (.slice v.f p.F.length v.fc)
 b:Byt u (.slice v.b p.b.length v.bc) p.b
 w:Rd u v.w (Zd p.W)
 a:Rd u v.a (cellsN p.A)
 d:Rd u v.d (cellsN p.D)
 r:Rd u v.r (Zd p.R)
 f:Rd u v.f (cellsN p.F)
theorem Xo (g gw k:Nat) (v:DV) (p:BP) (B:List Bool) (H:Sp w0 (WB gw B::L) w) (hb:Ent L (DBr g v p)) (hk:k<4) (hB:B.length<=900000000) :
  Calls Tryz.prog 138 #[.pointer (some ⟨g,0,none⟩),.pointer (some ⟨gw,0,none⟩),.int .u64 k] w fun e w'=>e=.returned (.tuple #[])/\Sp w0 (WB gw (B++([p.last]++PBits.bitsOf k 2))::L) w':=by
 have c:=(hb _ _ H.tail).c3;have d:∀bit:Nat,bit<2->Calls Tryz.prog 140 #[.pointer (some ⟨gw,0,none⟩),.int .u64 bit,.int .i64 1] w fun e w'=>e=.returned (.int .i64 0)/\Sp w0 (WB gw (B++PBits.bitsOf bit 1)::L) w':=fun bit hbit=>Yg gw B bit 1 H (by decide) (by simpa using hbit) (by omega);have a:∀(l:Bool) (w2:World),Sp w0 (WB gw (B++[l])::L) w2->Calls Tryz.prog 140 #[.pointer (some ⟨gw,0,none⟩),.int .u64 k,.int .i64 2] w2 fun e w'=>e=.returned (.int .i64 0)/\Sp w0 (WB gw (B++([l]++PBits.bitsOf k 2))::L) w':=fun l w2 H2=>by
  have h:=Yg gw (B++[l]) k 2 H2 (by decide) (by simpa using hk) (by rw [List.length_append]; simp; omega);rw [List.append_assoc] at h;exact h
 have f:=hid d;have H2:=hid a;clear d a H;cases hl:p.last with
 | true =>
  rw [hl] at c;go_enter Tryz.func138,Tryz.ntmps138
  go_wp2_with fail
  refine(f.out 1 (by decide)).mono ?_;rintro _ w2 ⟨rfl,a⟩;go_wp2_with fail
  refine(H2.out true _ a).mono ?_;rintro _ i ⟨rfl,b⟩;go_wp2;go_end0;exact⟨rfl,b⟩
 | false =>
  rw [hl] at c;go_enter Tryz.func138,Tryz.ntmps138
  go_wp2_with fail
  refine(f.out 0 (by decide)).mono ?_;rintro _ w2 ⟨rfl,a⟩;go_wp2_with fail
  refine(H2.out false _ a).mono ?_;rintro _ i ⟨rfl,b⟩;go_wp2;go_end0;exact⟨rfl,b⟩
theorem rowRd {M:List Pr} {A:Option Addr} {n c z:Nat} {e:TypeId} {xs:List Value} (H:Sp w0 M w) (k:Nat) (hk:M[k]?=some (Row e z (.slice A n c) n xs)):Rd w A xs:=by
 obtain⟨b,d,a,h,_⟩:=H.row_rd k hk;injection a with a _ _
 subst a;exact h
theorem Yh {A:List Nat} (hA:∀x ∈ A,x<=15) (s:Nat):A.getD s 0<=15:=by
 rw [List.getD_eq_getElem?_getD];cases h:A[s]? with
 | none=>simp
 | some x=>exact hA x (List.mem_of_getElem? h)
theorem Ya {A D:List Nat} (hA:∀x ∈ A,x<=15) (hD:∀x ∈ D,x<=15):∀(W:List PD.Wd),(∀t ∈ W,PD.WdOk A D t)->(PD.layW A D W).length<=28 * W.length:=by
 intro W;induction W with
 | nil=>intro _; exact Nat.le_refl _
 | cons t l ih =>
  intro h;have a:=ih fun u hu=>h u (List.mem_cons_of_mem _ hu);have b:=(h t (List.mem_cons_self ..)).2.2.2;have c:(PD.wW A D t).length<=28:=by
   rw [PD.wW_len];have:(if t.1=0 then A else D).getD t.2.1 0<=15:=by
    split
    ·exact Yh hA _
    ·exact Yh hD _
   omega
  show(PD.wW A D t++PD.layW A D l).length<=_;rw [List.length_append,List.length_cons];omega
theorem Ym (m:List Nat):cells64 (castI m)=cellsN m:=by unfold cells64 castI cellsN; rw [List.map_map]; rfl
theorem Xp {w:World} {A:Option Addr} {f:Nat->Nat} {n i:Nat} (h:Rd w A (rowU f n)) (hi:i<n):∃ad,A=some ad/\w.cell? (ad.add i)=some (.int .u32 (f i:Int)):=by
 obtain⟨ad,e,a⟩:=h (by intro e; have:=Z2 f n i hi; rw [e] at this; simp at this);exact⟨ad,e,a _ _ (Z2 f n i hi)⟩
theorem XT (gw:Nat) (B:List Bool) (WA AA DA:Option Addr) (n wc na ac nd dc:Nat) (W:List PD.Wd) (MA MD:List Nat) (H:Sp w0 (WB gw B::L) w)
  (hw:Ent L fun w=>Rd w WA (Zd W)) (ha:Ent L fun w=>Rd w AA (cellsN MA)) (hd:Ent L fun w=>Rd w DA (cellsN MD)) (hn:n=W.length) (hna:na=MA.length) (hnd:nd=MD.length) (hnm:n<=2000000) (ha1:na<=1024) (hd1:nd<=1024)
  (hA:∀x ∈ MA,x<=15) (hD:∀x ∈ MD,x<=15) (hAs:PH.sum MA<=32768) (hDs:PH.sum MD<=32768) (hok:∀t ∈ W,PD.WdOk MA MD t) (hB:B.length+30 * n<=900000000) :
  Calls Tryz.prog 142 #[.pointer (some ⟨gw,0,none⟩),.slice WA n wc,.agg #[.slice AA na ac,.slice DA nd dc]] w fun e w'=>e=.returned (.tuple #[])/\Sp w0 (WB gw (B++PD.layW MA MD W)::L) w':=by
 have HW:=hid hw;have HA:=hid ha;have HD:=hid hd;have HN:=hid hn;have F:=hid hA;have G:=hid hD;have a4:=hid hAs;have a5:=hid hDs;have a6:=hid hok;have a7:=hid hna;have a8:=hid hnd;have l:=H.newBk [.slice AA na ac,.slice DA nd dc] 142;have z:=l.newBk [.slice none 0 0,.slice none 0 0] 249;rw [size_alloc] at z;have C:=hid z;clear H l z hw ha hd hn hA hD hAs hDs hok hna hnd;go_enter Tryz.func142,Tryz.ntmps142
 go_wp2_with fail
 generalize w.heap.size+1=g6 at C ⊢;generalize w.heap.size=g5 at C ⊢
 go_loopw [10] (fun kv wr=>(kv=.int .i64 0/\Sp w0 (Bk g6 249 [.slice none 0 0,.slice none 0 0]::Bk g5 142 [.slice AA na ac,.slice DA nd dc]::WB gw B::L) wr) ∨
  (∃v0,kv=.int .i64 1/\Sp w0 (Row 26 1 v0 na (rowU (PH.codeAt MA) na)::Bk g6 249 [v0,.slice none 0 0]::Bk g5 142 [.slice AA na ac,.slice DA nd dc]::WB gw B::L) wr) ∨
  ∃v0 v1,kv=.int .i64 2/\Sp w0 (Row 26 1 v0 na (rowU (PH.codeAt MA) na)::Row 26 1 v1 nd (rowU (PH.codeAt MD) nd)::Bk g6 249 [v0,v1]::Bk g5 142 [.slice AA na ac,.slice DA nd dc]::WB gw B::L) wr) (fun kv _=>2 - (intOf kv).toNat)
 case atStart=>exact .inl ⟨rfl,C.out⟩
 case round =>
  clear C;rcases hrel with ⟨rfl,l⟩ | ⟨v0,rfl,l⟩ | ⟨v0,v1,rfl,l⟩
  ·have c5:=l.cell 1 rfl 0;simp only [List.getElem?_cons_zero] at c5;have HC:=hid (We AA na ac MA l a7.out (fun w0 w h=>by rw [Ym]; exact HA.out w0 w (h.pick 3 [])) ha1 F.out a4.out);clear l;go_wp2_with fail
   refine HC.out.mono ?_;rintro _ w2 ⟨v,rfl,z⟩;obtain⟨U,o,rfl,_,_⟩:=Row.form z 0 rfl;have c6:=z.cell 1 rfl 0;have z6:=z.frozen 1 rfl 0;simp only [List.getElem?_cons_zero] at c6;have C:=hid ((z.swap.set 0 (.slice U na o)).swap);clear HC z c5;go_wp2_with fail
   go_roundw
   case rel=>exact .inr (.inl ⟨_,by go_num,C.out⟩)
   case measure=>first | (simp [intOf]; omega) | simp [intOf]
  ·have c5:=l.cell 2 rfl 1;simp only [List.getElem?_cons_zero,List.getElem?_cons_succ] at c5;have HC:=hid (We DA nd dc MD l a8.out (fun w0 w h=>by rw [Ym]; exact HD.out w0 w (h.pick 4 [])) hd1 G.out a5.out);clear l;go_wp2_with fail
   refine HC.out.mono ?_;rintro _ w2 ⟨v,rfl,z⟩;obtain⟨V,p,rfl,_,_⟩:=Row.form z 0 rfl;have c6:=z.cell 2 rfl 1;have z6:=z.frozen 2 rfl 1;simp only [List.getElem?_cons_zero,List.getElem?_cons_succ] at c6;have C:=hid (((z.pick 3 [2,0,1]).set 1 (.slice V nd p)).pick 3 [2,1,0]);clear HC z c5;go_wp2_with fail
   go_roundw
   case rel=>exact .inr (.inr ⟨v0,_,by go_num,C.out⟩)
   case measure=>first | (simp [intOf]; omega) | simp [intOf]
  ·obtain⟨U,o,rfl,_,_⟩:=Row.form l 0 rfl;obtain⟨V,p,rfl,_,_⟩:=Row.form l 1 rfl;have C:=hid (l.pick 5 [4,0,1,2,3]);clear l;go_wp2_with fail
   go_loopw [25] (fun iv wr=>∃i:Nat,iv=.int .i64 i/\i<=n/\Sp w0 (WB gw (B++PD.layW MA MD (W.take i))::Row 26 1 (.slice U na o) na (rowU (PH.codeAt MA) na)::Row 26 1 (.slice V nd p) nd (rowU (PH.codeAt MD) nd)::Bk g6 249 [.slice U na o,.slice V nd p]::Bk g5 142 [.slice AA na ac,.slice DA nd dc]::L) wr) (fun iv _=>n - (intOf iv).toNat)
   case atStart=>exact⟨0,rfl,Nat.zero_le _,by rw [List.take_zero]; show Sp w0 (WB gw (B++[])::_) _; rw [List.append_nil]; exact C.out⟩
   case round =>
    obtain⟨i,rfl,c8,l⟩:=hrel;clear C;by_cases b5:i<n
    ·have k1:(i:Int)<(n:Int):=by omega
     have D:i<W.length:=by rw [<- HN.out]; exact b5
     obtain⟨ad,rfl,p0,p1,p2,p3⟩:=rdW (HW.out _ _ (l.pick 5 [])) D;have X:W.getD i (0,0,0,0) ∈ W:=by rw [List.getD_eq_getElem?_getD,List.getElem?_eq_getElem D]; exact List.getElem_mem D
     have a9:=a6.out _ X;have a0:PD.layW MA MD (W.take (i+1))=PD.layW MA MD (W.take i)++PD.wW MA MD (W.getD i (0,0,0,0)):=by
      rw [List.take_succ_eq_append_getElem D,PD.layW_app,List.getD_eq_getElem?_getD,List.getElem?_eq_getElem D];show _++(PD.wW MA MD W[i]++[])=_;rw [List.append_nil]; rfl
     have b0:(PD.layW MA MD (W.take i)).length<=28 * i:=by
      have h:=Ya F.out G.out (W.take i) (fun t ht=>a6.out t (List.mem_of_mem_take ht));rw [List.length_take] at h; omega
     obtain⟨⟨b,s,q,r⟩,ht⟩:∃t,W.getD i (0,0,0,0)=t:=⟨_,rfl⟩;rw [ht] at p0 p1 p2 p3 a9 a0;simp only at p0 p1 p2 p3;obtain⟨b6,d,P,I⟩:=a9;simp only at b6 d P I;have b1:=hid (show r<2 ^ q/\q<=13 from⟨P,I⟩);have c1:r<8192:=Nat.lt_of_lt_of_le P (show 2 ^ q<=2 ^ 13 from Nat.pow_le_pow_right (by decide) I);obtain⟨M,hM⟩:=exq ((if b=0 then MA else MD));have J:PD.wW MA MD (b,s,q,r)=PH.bitsC (M.getD s 0) (PH.codeAt M s)++PBits.bitsOf r q:=by rw [<- hM]; rfl
     rw [hM] at d;obtain⟨ln,E⟩:=exq (M.getD s 0);obtain⟨Q,N⟩:=exq (PH.codeAt M s);have a1:(∀x ∈ M,x<=15)/\PH.sum M<=32768:=by
      rw [<- hM]; split
      ·exact⟨F.out,a4.out⟩
      ·exact⟨G.out,a5.out⟩
     have a2:ln<=15:=by rw [<- E]; exact Yh a1.1 s
     have O:Q<2 ^ ln:=by
      have h1:1<=ln:=by rw [<- E]; exact d.2.1
      have h:=PH.code_lt M s (ln - 1) d.1 (by omega) (by omega) a1.2;rw [show ln - 1+1=ln by omega] at h;rw [<- N]; exact h
     rw [E,N] at J;obtain⟨B1,R⟩:=exq (B++PD.layW MA MD (W.take i));have c3:B1.length<=B.length+28 * i:=by rw [<- R,List.length_append]; omega
     have b7:Hid (B++PD.layW MA MD (W.take (i+1))=B1++PH.bitsC ln Q++PBits.bitsOf r q):=by
      rw [a0,J,<- List.append_assoc,R,<- List.append_assoc]; exact hid rfl
     rw [R] at l;have z:=l.newBk [.int .i64 b,.int .i64 s,.int .i64 q,.int .i64 r] 179;have S:=hid (z.pick 6 [1,0,2,3,4,5]);have b8:∃g9,wr.heap.size=g9:=⟨_,rfl⟩;obtain⟨g9,a3⟩:=b8;rw [a3] at S;have T:∃(ca ea:Addr) (cn cc en ec:Nat),s<cn/\s<en/\Ent (Bk g9 179 [.int .i64 b,.int .i64 s,.int .i64 q,.int .i64 r]::Row 26 1 (.slice U na o) na (rowU (PH.codeAt MA) na)::Row 26 1 (.slice V nd p) nd (rowU (PH.codeAt MD) nd)::Bk g6 249 [.slice U na o,.slice V nd p]::Bk g5 142 [.slice AA na ac,.slice DA nd dc]::L) fun u=>u.cell? ⟨g9,0,none⟩=some (.int .i64 b)/\u.cell? ⟨g9,1,none⟩=some (.int .i64 s)/\u.cell? ⟨g6,b,none⟩=some (.slice (some ca) cn cc)/\u.cell? (ca.add s)=some (.int .u32 Q)/\u.cell? ⟨g5,b,none⟩=some (.slice (some ea) en ec)/\u.cell? (ea.add s)=some (.int .i64 ln):=by
      have b2:b=0∨b=1:=by omega
      have HT:=S.out.tail;rcases b2 with rfl | rfl
      ·obtain rfl:MA=M:=hM;have y:s<na:=by rw [a7.out]; exact d.1
       obtain⟨ca,rfl,_⟩:=Xp (rowRd HT 1 rfl) y;obtain⟨ea,rfl,_⟩:=rdN (HA.out _ _ (HT.pick 5 [])) d.1;refine⟨ca,ea,na,o,na,ac,y,y,fun w0 u H=>⟨H.cell 0 rfl 0,H.cell 0 rfl 1,H.cell 3 rfl 0,?_,H.cell 4 rfl 0,?_⟩⟩
       ·obtain⟨c2,e,hc⟩:=Xp (rowRd H 1 rfl) y;injection e with e
        rw [e,hc,N]
       ·rw [rdN' (HA.out _ _ (H.pick 5 [])) d.1,E]
      ·obtain rfl:MD=M:=hM;have y:s<nd:=by rw [a8.out]; exact d.1
       obtain⟨ca,rfl,_⟩:=Xp (rowRd HT 2 rfl) y;obtain⟨ea,rfl,_⟩:=rdN (HD.out _ _ (HT.pick 5 [])) d.1;refine⟨ca,ea,nd,p,nd,dc,y,y,fun w0 u H=>⟨H.cell 0 rfl 0,H.cell 0 rfl 1,H.cell 3 rfl 1,?_,H.cell 4 rfl 1,?_⟩⟩
       ·obtain⟨c2,e,hc⟩:=Xp (rowRd H 2 rfl) y;injection e with e
        rw [e,hc,N]
       ·rw [rdN' (HD.out _ _ (H.pick 5 [])) d.1,E]
     obtain⟨ca,ea,cn,cc,en,ec,c4,c7,Y⟩:=T;have j:=hid Y;have b9:=hid O;have k2:(s:Int)<(cn:Int):=by omega
     have k3:(s:Int)<(en:Int):=by omega
     have k4:(b:Int)<2:=by omega
     have c0:Q<4294967296:=Nat.lt_of_lt_of_le O (Nat.le_trans (Nat.pow_le_pow_right (by decide) a2) (by decide));have b3:=hid a3;clear Y O a0 J a1 E N d hM ht X l z R b0 P a3 D;go_wp2_with fail
     rw [b3.out];refine Zb (L:=Bk g9 179 [.int .i64 b,.int .i64 s,.int .i64 q,.int .i64 r]::Row 26 1 (.slice U na o) na (rowU (PH.codeAt MA) na)::Row 26 1 (.slice V nd p) nd (rowU (PH.codeAt MD) nd)::Bk g6 249 [.slice U na o,.slice V nd p]::Bk g5 142 [.slice AA na ac,.slice DA nd dc]::L) [some (.pointer (some ⟨gw,0,none⟩)),some (.pointer (some ⟨g9,0,none⟩)),some (.int .i64 b),some (.pointer (some ⟨g6,b,none⟩)),some (.slice (some ca) cn cc),some (.pointer (some ⟨g9,1,none⟩)),some (.int .i64 s),some (.pointer (some (ca.add s))),some (.int .u32 Q),some (.int .u64 Q),some (.pointer (some ⟨g9,0,none⟩)),some (.int .i64 b),some (.pointer (some ⟨g5,b,none⟩)),some (.slice (some ea) en ec),some (.pointer (some ⟨g9,1,none⟩)),some (.int .i64 s),some (.pointer (some (ea.add s))),some (.int .i64 ln),some (.int .i64 0)] (fun _ _=>True) (fun ix vx=>match ix with | 18=>(fun _=>[WB gw (B1++PH.bitsC ln Q)]) vx | _=>[]) (fun ix=>match ix with | 18=>[WB gw B1] | _=>[]) 19 56
      [some 29,some 30,some 31,some 32,some 33,some 34,some 35,some 36,some 37,some 38,some 39,some 40,some 41,some 42,some 43,some 44,some 45,some 46,some 47]
      [[],[],[1],[2],[3],[],[5],[4,6],[7],[8],[],[10],[11],[12],[],[14],[13,15],[16],[0,9,17]]
      [[],[],[1],[1,2],[1,2,3],[],[5],[1,2,3,4,5,6],[1,2,3,4,5,6,7],[1,2,3,4,5,6,7,8],[],[10],[10,11],[10,11,12],[],[14],[10,11,12,13,14,15],[10,11,12,13,14,15,16],[0,1,2,3,4,5,6,7,8,9,10,11,12,13,14,15,16,17]]
      [[],[],[],[],[],[],[],[],[],[],[],[],[],[],[],[],[],[],[]] [[],[],[],[],[],[],[],[],[],[],[],[],[],[],[],[],[],[],[]] [(0,.pointer (some ⟨gw,0,none⟩)),(5,.pointer (some ⟨g5,0,none⟩)),(6,.pointer (some ⟨g6,0,none⟩)),(9,.pointer (some ⟨g9,0,none⟩))]
      (by kernel_rfl) rfl (by decide) (by rfl) (by decide +kernel) rfl rfl (by simp) (S.out) ?hstep ?hend
     case hstep =>
      refine⟨?p0,⟨?p1,⟨?p2,⟨?p3,⟨?p4,⟨?p5,⟨?p6,⟨?p7,⟨?p8,⟨?p9,⟨?p10,⟨?p11,⟨?p12,⟨?p13,⟨?p14,⟨?p15,⟨?p16,⟨?p17,⟨?p18,trivial⟩⟩⟩⟩⟩⟩⟩⟩⟩⟩⟩⟩⟩⟩⟩⟩⟩⟩⟩
      case p0 | p1 | p3 | p5 | p7 | p9 | p10 | p12 | p14 | p16 =>
       intro x wx A f c m g k H K hK;replace hK:=hid hK;clear g k c;repeat (obtain⟨_,m⟩:=m)
       refine so ?_;go_step;exact hK.out _ _ rfl H
      case p2 =>
       intro x wx A f c m g k H K a;have c9:=tq g 1;have hK:=hid a;clear a m g c;obtain⟨Z,t1,d0,d1,d2,d3⟩:=k _ j.out _ _ H;clear k;refine so ?_;go_step;exact hK.out _ _ rfl H
      case p4 =>
       intro x wx A f c m g k H K a;have d4:=tq g 3;have hK:=hid a;clear a m g c;obtain⟨Z,t1,d0,d1,d2,d3⟩:=k _ j.out _ _ H;clear k;refine so ?_;go_step;exact hK.out _ _ rfl H
      case p6 =>
       intro x wx A f c m g k H K a;have d5:=tq g 5;have hK:=hid a;clear a m g c;obtain⟨Z,t1,d0,d1,d2,d3⟩:=k _ j.out _ _ H;clear k;refine so ?_;go_step;exact hK.out _ _ rfl H
      case p8 =>
       intro x wx A f c m g k H K a;have d6:=tq g 7;have hK:=hid a;clear a m g c;obtain⟨Z,t1,d0,d1,d2,d3⟩:=k _ j.out _ _ H;clear k;refine so ?_;go_step;exact hK.out _ _ rfl H
      case p11 =>
       intro x wx A f c m g k H K a;have d7:=tq g 10;have hK:=hid a;clear a m g c;obtain⟨Z,t1,d0,d1,d2,d3⟩:=k _ j.out _ _ H;clear k;refine so ?_;go_step;exact hK.out _ _ rfl H
      case p13 =>
       intro x wx A f c m g k H K a;have d8:=tq g 12;have hK:=hid a;clear a m g c;obtain⟨Z,t1,d0,d1,d2,d3⟩:=k _ j.out _ _ H;clear k;refine so ?_;go_step;exact hK.out _ _ rfl H
      case p15 =>
       intro x wx A f c m g k H K a;have d9:=tq g 14;have hK:=hid a;clear a m g c;obtain⟨Z,t1,d0,d1,d2,d3⟩:=k _ j.out _ _ H;clear k;refine so ?_;go_step;exact hK.out _ _ rfl H
      case p17 =>
       intro x wx A f c m g k H K a;have e0:=tq g 16;have hK:=hid a;clear a m g c;obtain⟨Z,t1,d0,d1,d2,d3⟩:=k _ j.out _ _ H;clear k;refine so ?_;go_step;exact hK.out _ _ rfl H
      case p18 =>
       intro x wx A f c m g k H K a;have e1:=tq g 0;have e2:=tq g 9;have e3:=tq g 17;replace H:Sp w0 (_::f) wx:=H;have hK:=hid a;clear a m g k c;refine so ?_;go_wp2_with fail
       refine(To gw B1 Q ln H (by omega) b9.out (by omega)).mono ?_;rintro _ w9 ⟨rfl,H9⟩;exact hK.out _ _ rfl H9
     case hend =>
      intro x wx A hA g H;replace H:Sp w0 (_::_::_::_::_::_::L) wx:=H;clear g;simp only [putAll,Act.put,List.setIfInBounds_toArray,List.set_cons_succ,List.set_cons_zero,Nat.reduceAdd] at hA;subst hA;have b4:=hid H;obtain⟨Z,t1,t2,t3⟩:wx.cell? ⟨g9,0,none⟩=some (.int .i64 b)/\wx.cell? ⟨g9,1,none⟩=some (.int .i64 s)/\wx.cell? ⟨g9,2,none⟩=some (.int .i64 q)/\wx.cell? ⟨g9,3,none⟩=some (.int .i64 r):=⟨H.cell 1 rfl 0,H.cell 1 rfl 1,H.cell 1 rfl 2,H.cell 1 rfl 3⟩;clear H S j;go_wp2_with fail
      refine(Yg gw (B1++PH.bitsC ln Q) r q b4.out (by have:=b1.out.2; omega) b1.out.1 (by rw [List.length_append,PH.bitsC_len]; omega)).mono ?_;rintro _ w9 ⟨rfl,H9⟩;clear b4;go_wp2_with fail
      go_roundw
      case rel =>
       refine⟨i+1,by go_num,by omega,?_⟩;rw [b7.out];have h:=H9.pick 2 [0];rw [List.append_assoc] at h;have h:=H9.pick 6 [0,2,3,4,5];exact h
      case measure=>first | (simp [intOf]; omega) | simp [intOf]
    ·have k1:¬ (i:Int)<(n:Int):=by omega
     rw [List.take_of_length_le (by rw [<- HN.out]; omega)] at l;have C:=hid (l.pick 5 [0]);clear l;go_wp2_with fail
     go_end0;exact⟨rfl,C.out⟩
theorem T1 (n:Nat) (h:n<65536):n ^^^ 65535=65535 - n:=by
 have a:(BitVec.ofNat 16 n ^^^ BitVec.allOnes 16).toNat=(~~~ (BitVec.ofNat 16 n)).toNat:=by rw [BitVec.xor_allOnes]
 rw [BitVec.toNat_xor,BitVec.toNat_not,BitVec.toNat_allOnes,BitVec.toNat_ofNat,Nat.mod_eq_of_lt (by simpa using h)] at a;simpa using a
theorem WN (n:Nat) (h:n<65536):bits .xor .u64 (n:Int) 65535=((65535 - n:Nat):Int):=by
 show IntKind.u64.wrap ((BitVec.ofInt 64 (n:Int) ^^^ BitVec.ofInt 64 ((65535:Nat):Int)).toNat:Int)=_;rw [BitVec.toNat_xor,ofInt_u64 n (by omega),ofInt_u64 65535 (by omega),T1 n h];have a:∀z:Int,IntKind.u64.wrap z=z % 18446744073709551616:=fun z=>by simp [IntKind.wrap,IntKind.bits,IntKind.signed]
 rw [a];omega
theorem WO (g gw:Nat) (v:DV) (p:BP) (B:List Bool) (H:Sp w0 (WB gw B::L) w) (hb:Ent L (DBr g v p)) (hl:p.b.length<=65535) (hB:B.length<=800000000) :
  Calls Tryz.prog 106 #[.pointer (some ⟨g,0,none⟩),.pointer (some ⟨gw,0,none⟩)] w fun e w'=>e=.returned (.tuple #[])/\Sp w0 (WB gw (B++([p.last]++PBits.bitsOf 0 2++(List.replicate (PD.pad (B.length+3)) false++PI.storedW p.b)))::L) w':=by
 obtain⟨n,t⟩:=exq p.b.length;have u:=hid hb;have x:=hid t;obtain⟨f,a⟩:=exq (B++([p.last]++PBits.bitsOf 0 2));have i:f.length=B.length+3:=by rw [<- a]; simp [PBits.bitsOf_length]
 obtain⟨y,d⟩:=exq (f++List.replicate (PD.pad f.length) false);have F:y.length=(f.length+7) / 8 * 8:=by rw [<- d,List.length_append,List.length_replicate]; unfold PD.pad; omega
 have z:=Xo g gw 0 v p B H hb (by decide) (by omega);rw [a] at z;have G:=hid z;have j:=hid a;have k:=hid d;have K:=WN n (by omega);obtain⟨m,A⟩:=exq (65535 - n);rw [A] at K;have b:m<2 ^ 16/\n<2 ^ 16:=by omega
 have M:=hid A;have c:=hid b;rw [t] at hl;clear hb z a d H t A b;go_enter Tryz.func106,Tryz.ntmps106
 go_wp2_with fail
 refine G.out.mono ?_;rintro _ O ⟨rfl,I⟩;clear G;go_wp2_with fail
 refine(Ur gw f I (by omega)).mono ?_;rintro _ P ⟨rfl,r⟩;rw [k.out] at r;have C:=(u.out _ _ r.tail).c1;rw [x.out] at C;have l:=hid r;clear I r;go_wp2_with fail
 refine(Yg gw y n 16 l.out (by decide) c.out.2 (by omega)).mono ?_;rintro _ Q ⟨rfl,J⟩;clear l C;have o:=hid J;clear J;go_wp2_with fail
 refine(Yg gw _ m 16 o.out (by decide) c.out.1 (by rw [List.length_append,PBits.bitsOf_length]; omega)).mono ?_;rintro _ w4 ⟨rfl,s⟩;have C:=(u.out _ _ s.tail).c1;have q:=(u.out _ _ s.tail).b;have D:=hid s;have E:=hid q
 clear s o q
 go_wp2_with fail
 refine(Us gw _ D.out E.out (by simp only [List.length_append,PBits.bitsOf_length]; omega) (by simp only [List.length_append,PBits.bitsOf_length]; omega) (by rw [x.out]; omega)).mono ?_;rintro _ w5 ⟨rfl,N⟩;go_wp2;go_end0;refine⟨rfl,?_⟩;have e:B++([p.last]++PBits.bitsOf 0 2++(List.replicate (PD.pad (B.length+3)) false++PI.storedW p.b))=y++PBits.bitsOf n 16++PBits.bitsOf m 16++PBits.ofB p.b:=by
  unfold PI.storedW;rw [<- k.out,<- j.out,x.out,M.out,<- i,<- j.out];simp only [List.append_assoc]
 have h:Sp w0 (WB gw (B++([p.last]++PBits.bitsOf 0 2++(List.replicate (PD.pad (B.length+3)) false++PI.storedW p.b)))::L) w5:=by rw [e]; exact N
 exact h
theorem Xq (g:Nat) (v:DV) (p:BP) {TL TF:Option Addr} {cl cf:Nat} (H:Sp w0 L w) (hb:Ent L (DBr g v p)) (hT:Ent L (DTabs TL TF cl cf)) (hF:p.F.length=19) :
  Calls Tryz.prog 84 #[.pointer (some ⟨g,0,none⟩)] w fun e w'=>e=.returned (.int .i64 (PD.told p.F:Int))/\Sp w0 L w':=by
 obtain⟨T,b⟩:=exq (PD.told p.F);rw [b];have l:PD.toldN p.F 19=T:=b;have E:=hid hT;have y:=hid hb;have A:=hid hF;have B:=hid l;clear hT hb hF b l;go_enter Tryz.func84,Tryz.ntmps84
 go_wp2_with fail
 go_loopw [3] (fun kv wr=>∃k:Nat,kv=.int .i64 k/\k<=19/\PD.toldN p.F k=T/\Sp w0 L wr) (fun kv _=>(intOf kv).toNat)
 case atStart=>exact⟨19,rfl,Nat.le_refl _,B.out,H⟩
 case round =>
  obtain⟨k,rfl,N,m,c⟩:=hrel;clear B H;by_cases s:4<k
  ·obtain⟨j,C⟩:=exq (k - 1);have O:(k:Int) - 1=(j:Int):=by omega
   have F:(k:Int) > 4:=by omega
   have G:decide (4<k)=true:=decide_eq_true s;have P:decide ((4:Int)<(k:Int))=true:=decide_eq_true (by omega);have I:(j:Int)<19:=by omega
   have a:k=j+1:=by omega
   have J:=(E.out _ _ c).order j (by omega);have D:=(y.out _ _ c).c7;rw [A.out] at D;obtain⟨z,r⟩:=exq (PI.orderT.getD j 0);have n:z<19:=by
    have:∀j,j<19->PI.orderT.getD j 0<19:=by decide
    rw [<- r]; exact this j (by omega)
   have Q:(z:Int)<19:=by omega
   obtain⟨K,o,t⟩:=rdN (y.out _ _ c).f (i:=z) (by rw [A.out]; exact n);obtain⟨x,u⟩:=exq (p.F.getD z 0);rw [o] at D;rw [u] at t;rw [r] at J;rw [a,PD.toldN,r,u] at m;have f:=hid m;have d:=hid c;clear m u r o c;by_cases l:x=0
   ·subst l;replace t:wr.cell? (K.add z)=some (.int .i64 0):=t;rw [if_pos ⟨by omega,rfl⟩] at f;clear a C;go_wp2_with fail
    go_quiet (fail)
    have q:=hid (d.out.drewN nq);clear d;go_wp2_with fail
    go_roundw
    case rel=>exact⟨j,by go_num,by omega,f.out,q.out⟩
    case measure=>first | (simp [intOf]; omega) | simp [intOf]
   ·have M:¬ (x:Int)=0:=by omega
    have R:((x:Int) == 0)=false:=by rw [beq_eq_false_iff_ne]; exact M
    rw [if_neg (fun h=>l h.2),<- a] at f;clear a C;go_wp2_with fail
    go_quiet (fail)
    have q:=hid (d.out.drewN nq);clear d;go_wp2_with fail
    go_ret;exact⟨by rw [<- f.out]; rfl,q.out⟩
  ·have F:¬ (k:Int) > 4:=by omega
   have G:decide (4<k)=false:=decide_eq_false s;have I:decide ((4:Int)<(k:Int))=false:=decide_eq_false (by omega);have f:Hid (k=T):=by
    rw [<- m];cases k with
    | zero=>exact hid rfl
    | succ j=>rw [PD.toldN,if_neg (fun h=>s h.1)]; exact hid rfl
   have d:=hid c;clear m c;go_wp2_with fail
   go_quiet (fail)
   have q:=hid (d.out.drewN nq);clear d;go_wp2_with fail
   go_ret;exact⟨by rw [<- f.out]; rfl,q.out⟩
theorem WP {A D:List Nat} {W:List PD.Wd} {i:Nat} (h:i<W.length):PD.costW A D (W.take (i+1))=PD.costW A D (W.take i)+((if (W.getD i (0,0,0,0)).1=0 then A else D).getD (W.getD i (0,0,0,0)).2.1 0+(W.getD i (0,0,0,0)).2.2.1):=by
 have e:W.getD i (0,0,0,0)=W[i]:=by rw [List.getD_eq_getElem?_getD,List.getElem?_eq_getElem h]; rfl
 unfold PD.costW;rw [e,List.take_succ_eq_append_getElem h,List.map_append,List.sum_append,List.map_singleton,List.sum_singleton]
theorem Z4 (WA AA DA:Option Addr) (n wc na ac nd dc:Nat) (W:List PD.Wd) (A D:List Nat) (H:Sp w0 L w)
  (hw:Ent L fun w=>Rd w WA (Zd W)) (ha:Ent L fun w=>Rd w AA (cellsN A)) (hd:Ent L fun w=>Rd w DA (cellsN D)) (hn:n=W.length) (hna:na=A.length) (hnd:nd=D.length) (hnm:n<=2000000)
  (hA:∀x ∈ A,x<=15) (hD:∀x ∈ D,x<=15) (hok:∀t ∈ W,PD.WdOk A D t) :
  Calls Tryz.prog 85 #[.slice WA n wc,.agg #[.slice AA na ac,.slice DA nd dc]] w fun e w'=>e=.returned (.int .i64 (PD.costW A D W:Int))/\Sp w0 L w':=by
 have HW:=hid hw;have HA:=hid ha;have HD:=hid hd;have V:=hid hn;have l:=hid hA;have m:=hid hD;have u:=hid hok;have J:=hid hna;have K:=hid hnd;have o:=hid (H.newBk [.slice AA na ac,.slice DA nd dc] 142);clear H hw ha hd hn hA hD hok hna hnd;go_enter Tryz.func85,Tryz.ntmps85
 go_wp2_with fail
 generalize w.heap.size=g5 at o ⊢;go_loopw [5,10] (fun cv iv wr=>∃(i s:Nat),cv=.int .i64 s/\iv=.int .i64 i/\i<=n/\PD.costW A D (W.take i)=s/\Sp w0 (Bk g5 142 [.slice AA na ac,.slice DA nd dc]::L) wr) (fun _ iv _=>n - (intOf iv).toNat)
 case atStart=>exact⟨0,0,rfl,rfl,Nat.zero_le _,rfl,o.out⟩
 case round =>
  obtain⟨i,N,rfl,rfl,a1,d,v⟩:=hrel;clear o;by_cases O:i<n
  ·have k1:(i:Int)<(n:Int):=by omega
   have f:i<W.length:=by rw [<- V.out]; exact O
   obtain⟨ad,rfl,X,Y,Z,p3⟩:=rdW (HW.out _ _ v.tail) f;have p:W.getD i (0,0,0,0) ∈ W:=by rw [List.getD_eq_getElem?_getD,List.getElem?_eq_getElem f]; exact List.getElem_mem f
   have y:=u.out _ p;have c:=WP (A:=A) (D:=D) f;have a2:N<=28 * i:=by
    have h:=Ya l.out m.out (W.take i) (fun t ht=>u.out t (List.mem_of_mem_take ht));rw [PD.layW_len,List.length_take,d] at h; omega
   obtain⟨⟨b,s,q,r⟩,ht⟩:∃t,W.getD i (0,0,0,0)=t:=⟨_,rfl⟩;rw [ht] at X Y Z p3 y c;rw [d] at c;simp only at X Y Z p3 c;obtain⟨P,a,z,B⟩:=y;simp only at P a z B;obtain⟨M,C⟩:=exq ((if b=0 then A else D));rw [C] at a c;obtain⟨I,g⟩:=exq (M.getD s 0);have Q:I<=15:=by
    rw [<- g]; refine Yh ?_ s;rw [<- C]; split
    ·exact l.out
    ·exact m.out
   rw [g] at c;have j:=v.newBk [.int .i64 b,.int .i64 s,.int .i64 q,.int .i64 r] 179;have k:∃(ea:Addr) (en ec:Nat),s<en/\World.cell? (wr.alloc (.cells #[.int .i64 b,.int .i64 s,.int .i64 q,.int .i64 r] 179)) ⟨g5,b,none⟩=some (.slice (some ea) en ec)/\World.cell? (wr.alloc (.cells #[.int .i64 b,.int .i64 s,.int .i64 q,.int .i64 r] 179)) (ea.add s)=some (.int .i64 I):=by
    have E:b=0∨b=1:=by omega
    rcases E with rfl | rfl
    ·obtain rfl:A=M:=C;obtain⟨ea,rfl,R⟩:=rdN (HA.out _ _ (j.pick 2 [])) a.1;exact⟨ea,na,ac,by rw [J.out]; exact a.1,j.cell 1 rfl 0,by rw [R,g]⟩
    ·obtain rfl:D=M:=C;obtain⟨ea,rfl,R⟩:=rdN (HD.out _ _ (j.pick 2 [])) a.1;exact⟨ea,nd,dc,by rw [K.out]; exact a.1,j.cell 1 rfl 1,by rw [R,g]⟩
   obtain⟨ea,en,ec,a0,d0,d1⟩:=k;have t0:=j.cell 0 rfl 0;have t1:=j.cell 0 rfl 1;have t2:=j.cell 0 rfl 2;simp only [List.getElem?_cons_zero,List.getElem?_cons_succ] at t0 t1 t2;have k3:(s:Int)<(en:Int):=by omega
   have k4:(b:Int)<2:=by omega
   obtain⟨S,F⟩:=exq (I+q);obtain⟨T,G⟩:=exq (N+S);have y1:(I:Int)+(q:Int)=(S:Int):=by omega
   have y2:(N:Int)+(S:Int)=(T:Int):=by omega
   have U:Hid (PD.costW A D (W.take (i+1))=T):=by rw [c,F,G]; exact hid rfl
   have o:=hid j.tail;clear c g a C ht p v j z f d F G;go_wp2_with fail
   go_quiet (fail)
   have HQ:=hid (o.out.drewN nq);clear o;go_wp2_with fail
   go_roundw
   case rel=>exact⟨i+1,T,rfl,by go_num,by omega,U.out,HQ.out⟩
   case measure=>first | (simp [intOf]; omega) | simp [intOf]
  ·have k1:¬ (i:Int)<(n:Int):=by omega
   rw [List.take_of_length_le (by rw [<- V.out]; omega)] at d;have HS:=hid d;have o:=hid v.tail;clear v d;go_wp2_with fail
   go_ret;exact⟨by rw [HS.out]; rfl,o.out⟩
end Go.Proofs.YtnjpnmpemhldcaaGreatDoor

