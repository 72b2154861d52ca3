/- A pack. -/
import Derived.Test.YteajimobgkempaaGreatDoorPk22
import Derived.Test.YteajimobgkempaaGreatDoorPk30
set_option linter.all false
set_option maxRecDepth 100000
set_option maxHeartbeats 8000000
namespace Go.Proofs.YteajimobgkempaaGreatDoor
variable {w0 w:World} {L:List Pr}
open Go.RowKit
structure BP where
 b:List UInt8
 W:List PD.Wd
 last:Bool
 A:List Nat
 D:List Nat
 R:List PD.Wd
 F:List Nat
structure DV where
 b:Option Addr
 w:Option Addr
 a:Option Addr
 d:Option Addr
 r:Option Addr
 f:Option Addr
 bc:Nat
 wc:Nat
 ac:Nat
 dc:Nat
 rc:Nat
 fc:Nat
structure DBr (g:Nat) (v:DV) (p:BP) (u:World):Prop where
 c1:u.cell? ⟨g,1,none⟩=some (.slice v.b p.b.length v.bc)
 c2:u.cell? ⟨g,2,none⟩=some (.slice v.w p.W.length v.wc)
 c3:u.cell? ⟨g,3,none⟩=some (.bool p.last)
 c4:u.cell? ⟨g,4,none⟩=some (.slice v.a p.A.length v.ac)
 c5:u.cell? ⟨g,5,none⟩=some (.slice v.d p.D.length v.dc)
 c6:u.cell? ⟨g,6,none⟩=some (.slice v.r p.R.length v.rc)
 c7:u.cell? ⟨g,7,none⟩=some (.slice v.f p.F.length v.fc)
 b:Byt u (.slice v.b p.b.length v.bc) p.b
 w:Rd u v.w (Ze p.W)
 a:Rd u v.a (cellsN p.A)
 d:Rd u v.d (cellsN p.D)
 r:Rd u v.r (Ze p.R)
 f:Rd u v.f (cellsN p.F)
theorem Xr (g gw k:Nat) (v:DV) (p:BP) (B:List Bool) (H:Sp w0 (WB gw B::L) w) (hb:Ent L (DBr g v p)) (hk:k<4) (hB:B.length<=900000000) :
  Calls Tryz.prog 114 #[.pointer (some ⟨g,0,none⟩),.pointer (some ⟨gw,0,none⟩),.int .u64 k] w fun e w'=>e=.returned (.tuple #[])/\Sp w0 (WB gw (B++([p.last]++PBits.bitsOf k 2))::L) w':=by
 have c:=(hb _ _ H.tail).c3;have d:∀bit:Nat,bit<2->Calls Tryz.prog 116 #[.pointer (some ⟨gw,0,none⟩),.int .u64 bit,.int .i64 1] w fun e w'=>e=.returned (.int .i64 0)/\Sp w0 (WB gw (B++PBits.bitsOf bit 1)::L) w':=fun bit hbit=>Ym gw B bit 1 H (by decide) (by simpa using hbit) (by omega);have a:∀(l:Bool) (w2:World),Sp w0 (WB gw (B++[l])::L) w2->Calls Tryz.prog 116 #[.pointer (some ⟨gw,0,none⟩),.int .u64 k,.int .i64 2] w2 fun e w'=>e=.returned (.int .i64 0)/\Sp w0 (WB gw (B++([l]++PBits.bitsOf k 2))::L) w':=fun l w2 H2=>by
  have h:=Ym gw (B++[l]) k 2 H2 (by decide) (by simpa using hk) (by rw [List.length_append]; simp; omega);rw [List.append_assoc] at h;exact h
 have f:=hid d;have H2:=hid a;clear d a H;cases hl:p.last with
 | true =>
  rw [hl] at c;go_enter Tryz.func114,Tryz.ntmps114
  go_wp2_with fail
  refine(f.out 1 (by decide)).mono ?_;rintro _ w2 ⟨rfl,a⟩;go_wp2_with fail
  refine(H2.out true _ a).mono ?_;rintro _ i ⟨rfl,b⟩;go_wp2;go_end0;exact⟨rfl,b⟩
 | false =>
  rw [hl] at c;go_enter Tryz.func114,Tryz.ntmps114
  go_wp2_with fail
  refine(f.out 0 (by decide)).mono ?_;rintro _ w2 ⟨rfl,a⟩;go_wp2_with fail
  refine(H2.out false _ a).mono ?_;rintro _ i ⟨rfl,b⟩;go_wp2;go_end0;exact⟨rfl,b⟩
theorem rowRd {M:List Pr} {A:Option Addr} {n c z:Nat} {e:TypeId} {xs:List Value} (H:Sp w0 M w) (k:Nat) (hk:M[k]?=some (Row e z (.slice A n c) n xs)):Rd w A xs:=by
 obtain⟨b,d,a,h,_⟩:=H.row_rd k hk;injection a with a _ _
 subst a;exact h
theorem ZF {A:List Nat} (hA:∀x ∈ A,x<=15) (s:Nat):A.getD s 0<=15:=by
 rw [List.getD_eq_getElem?_getD];cases h:A[s]? with
 | none=>simp
 | some x=>exact hA x (List.mem_of_getElem? h)
theorem ZP {A D:List Nat} (hA:∀x ∈ A,x<=15) (hD:∀x ∈ D,x<=15):∀(W:List PD.Wd),(∀t ∈ W,PD.WdOk A D t)->(PD.layW A D W).length<=28 * W.length:=by
 intro W;induction W with
 | nil=>intro _; exact Nat.le_refl _
 | cons t l ih =>
  intro h;have a:=ih fun u hu=>h u (List.mem_cons_of_mem _ hu);have b:=(h t (List.mem_cons_self ..)).2.2.2;have c:(PD.wW A D t).length<=28:=by
   rw [PD.wW_len];have:(if t.1=0 then A else D).getD t.2.1 0<=15:=by
    split
    ·exact ZF hA _
    ·exact ZF hD _
   omega
  show(PD.wW A D t++PD.layW A D l).length<=_;rw [List.length_append,List.length_cons];omega
theorem Z8 (m:List Nat):cells64 (castI m)=cellsN m:=by unfold cells64 castI cellsN; rw [List.map_map]; rfl
theorem Yx {w:World} {A:Option Addr} {f:Nat->Nat} {n i:Nat} (h:Rd w A (rowU f n)) (hi:i<n):∃ad,A=some ad/\w.cell? (ad.add i)=some (.int .u32 (f i:Int)):=by
 obtain⟨ad,e,a⟩:=h (by intro e; have:=ZX f n i hi; rw [e] at this; simp at this);exact⟨ad,e,a _ _ (ZX f n i hi)⟩
theorem XW (gw:Nat) (B:List Bool) (WA AA DA:Option Addr) (n wc na ac nd dc:Nat) (W:List PD.Wd) (MA MD:List Nat) (H:Sp w0 (WB gw B::L) w)
  (hw:Ent L fun w=>Rd w WA (Ze W)) (ha:Ent L fun w=>Rd w AA (cellsN MA)) (hd:Ent L fun w=>Rd w DA (cellsN MD)) (hn:n=W.length) (hna:na=MA.length) (hnd:nd=MD.length) (hnm:n<=2000000) (ha1:na<=1024) (hd1:nd<=1024)
  (hA:∀x ∈ MA,x<=15) (hD:∀x ∈ MD,x<=15) (hAs:PH.sum MA<=32768) (hDs:PH.sum MD<=32768) (hok:∀t ∈ W,PD.WdOk MA MD t) (hB:B.length+30 * n<=900000000) :
  Calls Tryz.prog 118 #[.pointer (some ⟨gw,0,none⟩),.slice WA n wc,.agg #[.slice AA na ac,.slice DA nd dc]] w fun e w'=>e=.returned (.tuple #[])/\Sp w0 (WB gw (B++PD.layW MA MD W)::L) w':=by
 have HW:=hid hw;have HA:=hid ha;have HD:=hid hd;have HN:=hid hn;have G:=hid hA;have I:=hid hD;have a4:=hid hAs;have a5:=hid hDs;have a6:=hid hok;have a7:=hid hna;have a8:=hid hnd;have l:=H.newBk [.slice AA na ac,.slice DA nd dc] 98;have C:=l.newBk [.slice none 0 0,.slice none 0 0] 214;rw [Yv] at C;have D:=hid C;clear H l C hw ha hd hn hA hD hAs hDs hok hna hnd;go_enter Tryz.func118,Tryz.ntmps118
 go_wp2_with fail
 generalize w.heap.size+1=g6 at D ⊢;generalize w.heap.size=g5 at D ⊢
 go_loopw [10] (fun kv wr=>(kv=.int .i64 0/\Sp w0 (Bk g6 214 [.slice none 0 0,.slice none 0 0]::Bk g5 98 [.slice AA na ac,.slice DA nd dc]::WB gw B::L) wr) ∨
  (∃v0,kv=.int .i64 1/\Sp w0 (Row 43 1 v0 na (rowU (PH.codeAt MA) na)::Bk g6 214 [v0,.slice none 0 0]::Bk g5 98 [.slice AA na ac,.slice DA nd dc]::WB gw B::L) wr) ∨
  ∃v0 v1,kv=.int .i64 2/\Sp w0 (Row 43 1 v0 na (rowU (PH.codeAt MA) na)::Row 43 1 v1 nd (rowU (PH.codeAt MD) nd)::Bk g6 214 [v0,v1]::Bk g5 98 [.slice AA na ac,.slice DA nd dc]::WB gw B::L) wr) (fun kv _=>2 - (intOf kv).toNat)
 case atStart=>exact .inl ⟨rfl,D.out⟩
 case round =>
  clear D;rcases hrel with ⟨rfl,l⟩ | ⟨v0,rfl,l⟩ | ⟨v0,v1,rfl,l⟩
  ·have c5:=l.cell 1 rfl 0;simp only [List.getElem?_cons_zero] at c5;have HC:=hid (Wk AA na ac MA l a7.out (fun w0 w h=>by rw [Z8]; exact HA.out w0 w (h.pick 3 [])) ha1 G.out a4.out);clear l;go_wp2_with fail
   refine HC.out.mono ?_;rintro _ w2 ⟨v,rfl,C⟩;obtain⟨V,p,rfl,_,_⟩:=Row.form C 0 rfl;have c6:=C.cell 1 rfl 0;have z6:=C.frozen 1 rfl 0;simp only [List.getElem?_cons_zero] at c6;have D:=hid ((C.swap.set 0 (.slice V na p)).swap);clear HC C c5;go_wp2_with fail
   go_roundw
   case rel=>exact .inr (.inl ⟨_,by go_num,D.out⟩)
   case measure=>first | (simp [intOf]; omega) | simp [intOf]
  ·have c5:=l.cell 2 rfl 1;simp only [List.getElem?_cons_zero,List.getElem?_cons_succ] at c5;have HC:=hid (Wk DA nd dc MD l a8.out (fun w0 w h=>by rw [Z8]; exact HD.out w0 w (h.pick 4 [])) hd1 I.out a5.out);clear l;go_wp2_with fail
   refine HC.out.mono ?_;rintro _ w2 ⟨v,rfl,C⟩;obtain⟨X,y,rfl,_,_⟩:=Row.form C 0 rfl;have c6:=C.cell 2 rfl 1;have z6:=C.frozen 2 rfl 1;simp only [List.getElem?_cons_zero,List.getElem?_cons_succ] at c6;have D:=hid (((C.pick 3 [2,0,1]).set 1 (.slice X nd y)).pick 3 [2,1,0]);clear HC C c5;go_wp2_with fail
   go_roundw
   case rel=>exact .inr (.inr ⟨v0,_,by go_num,D.out⟩)
   case measure=>first | (simp [intOf]; omega) | simp [intOf]
  ·obtain⟨V,p,rfl,_,_⟩:=Row.form l 0 rfl;obtain⟨X,y,rfl,_,_⟩:=Row.form l 1 rfl;have D:=hid (l.pick 5 [4,0,1,2,3]);clear l;go_wp2_with fail
   go_loopw [25] (fun iv wr=>∃i:Nat,iv=.int .i64 i/\i<=n/\Sp w0 (WB gw (B++PD.layW MA MD (W.take i))::Row 43 1 (.slice V na p) na (rowU (PH.codeAt MA) na)::Row 43 1 (.slice X nd y) nd (rowU (PH.codeAt MD) nd)::Bk g6 214 [.slice V na p,.slice X nd y]::Bk g5 98 [.slice AA na ac,.slice DA nd dc]::L) wr) (fun iv _=>n - (intOf iv).toNat)
   case atStart=>exact⟨0,rfl,Nat.zero_le _,by rw [List.take_zero]; show Sp w0 (WB gw (B++[])::_) _; rw [List.append_nil]; exact D.out⟩
   case round =>
    obtain⟨i,rfl,c8,l⟩:=hrel;clear D;by_cases b5:i<n
    ·have k1:(i:Int)<(n:Int):=by omega
     have E:i<W.length:=by rw [<- HN.out]; exact b5
     obtain⟨ad,rfl,p0,p1,p2,p3⟩:=rdW (HW.out _ _ (l.pick 5 [])) E;have Y:W.getD i (0,0,0,0) ∈ W:=by rw [List.getD_eq_getElem?_getD,List.getElem?_eq_getElem E]; exact List.getElem_mem E
     have a9:=a6.out _ Y;have a0:PD.layW MA MD (W.take (i+1))=PD.layW MA MD (W.take i)++PD.wW MA MD (W.getD i (0,0,0,0)):=by
      rw [List.take_succ_eq_append_getElem E,PD.layW_app,List.getD_eq_getElem?_getD,List.getElem?_eq_getElem E];show _++(PD.wW MA MD W[i]++[])=_;rw [List.append_nil]; rfl
     have b0:(PD.layW MA MD (W.take i)).length<=28 * i:=by
      have h:=ZP G.out I.out (W.take i) (fun t ht=>a6.out t (List.mem_of_mem_take ht));rw [List.length_take] at h; omega
     obtain⟨⟨b,s,q,r⟩,ht⟩:∃t,W.getD i (0,0,0,0)=t:=⟨_,rfl⟩;rw [ht] at p0 p1 p2 p3 a9 a0;simp only at p0 p1 p2 p3;obtain⟨b6,d,Q,J⟩:=a9;simp only at b6 d Q J;have b1:=hid (show r<2 ^ q/\q<=13 from⟨Q,J⟩);have c1:r<8192:=Nat.lt_of_lt_of_le Q (show 2 ^ q<=2 ^ 13 from Nat.pow_le_pow_right (by decide) J);obtain⟨M,hM⟩:=exq ((if b=0 then MA else MD));have N:PD.wW MA MD (b,s,q,r)=PH.bitsC (M.getD s 0) (PH.codeAt M s)++PBits.bitsOf r q:=by rw [<- hM]; rfl
     rw [hM] at d;obtain⟨ln,F⟩:=exq (M.getD s 0);obtain⟨R,O⟩:=exq (PH.codeAt M s);have a1:(∀x ∈ M,x<=15)/\PH.sum M<=32768:=by
      rw [<- hM]; split
      ·exact⟨G.out,a4.out⟩
      ·exact⟨I.out,a5.out⟩
     have a2:ln<=15:=by rw [<- F]; exact ZF a1.1 s
     have P:R<2 ^ ln:=by
      have h1:1<=ln:=by rw [<- F]; exact d.2.1
      have h:=PH.code_lt M s (ln - 1) d.1 (by omega) (by omega) a1.2;rw [show ln - 1+1=ln by omega] at h;rw [<- O]; exact h
     rw [F,O] at N;obtain⟨B1,S⟩:=exq (B++PD.layW MA MD (W.take i));have c3:B1.length<=B.length+28 * i:=by rw [<- S,List.length_append]; omega
     have b7:Hid (B++PD.layW MA MD (W.take (i+1))=B1++PH.bitsC ln R++PBits.bitsOf r q):=by
      rw [a0,N,<- List.append_assoc,S,<- List.append_assoc]; exact hid rfl
     rw [S] at l;have C:=l.newBk [.int .i64 b,.int .i64 s,.int .i64 q,.int .i64 r] 139;have T:=hid (C.pick 6 [1,0,2,3,4,5]);have b8:∃g9,wr.heap.size=g9:=⟨_,rfl⟩;obtain⟨g9,a3⟩:=b8;rw [a3] at T;have U:∃(ca ea:Addr) (cn cc en ec:Nat),s<cn/\s<en/\Ent (Bk g9 139 [.int .i64 b,.int .i64 s,.int .i64 q,.int .i64 r]::Row 43 1 (.slice V na p) na (rowU (PH.codeAt MA) na)::Row 43 1 (.slice X nd y) nd (rowU (PH.codeAt MD) nd)::Bk g6 214 [.slice V na p,.slice X nd y]::Bk g5 98 [.slice AA na ac,.slice DA nd dc]::L) fun u=>u.cell? ⟨g9,0,none⟩=some (.int .i64 b)/\u.cell? ⟨g9,1,none⟩=some (.int .i64 s)/\u.cell? ⟨g6,b,none⟩=some (.slice (some ca) cn cc)/\u.cell? (ca.add s)=some (.int .u32 R)/\u.cell? ⟨g5,b,none⟩=some (.slice (some ea) en ec)/\u.cell? (ea.add s)=some (.int .i64 ln):=by
      have b2:b=0∨b=1:=by omega
      have HT:=T.out.tail;rcases b2 with rfl | rfl
      ·obtain rfl:MA=M:=hM;have z:s<na:=by rw [a7.out]; exact d.1
       obtain⟨ca,rfl,_⟩:=Yx (rowRd HT 1 rfl) z;obtain⟨ea,rfl,_⟩:=rdN (HA.out _ _ (HT.pick 5 [])) d.1;refine⟨ca,ea,na,p,na,ac,z,z,fun w0 u H=>⟨H.cell 0 rfl 0,H.cell 0 rfl 1,H.cell 3 rfl 0,?_,H.cell 4 rfl 0,?_⟩⟩
       ·obtain⟨c2,e,hc⟩:=Yx (rowRd H 1 rfl) z;injection e with e
        rw [e,hc,O]
       ·rw [rdN' (HA.out _ _ (H.pick 5 [])) d.1,F]
      ·obtain rfl:MD=M:=hM;have z:s<nd:=by rw [a8.out]; exact d.1
       obtain⟨ca,rfl,_⟩:=Yx (rowRd HT 2 rfl) z;obtain⟨ea,rfl,_⟩:=rdN (HD.out _ _ (HT.pick 5 [])) d.1;refine⟨ca,ea,nd,y,nd,dc,z,z,fun w0 u H=>⟨H.cell 0 rfl 0,H.cell 0 rfl 1,H.cell 3 rfl 1,?_,H.cell 4 rfl 1,?_⟩⟩
       ·obtain⟨c2,e,hc⟩:=Yx (rowRd H 2 rfl) z;injection e with e
        rw [e,hc,O]
       ·rw [rdN' (HD.out _ _ (H.pick 5 [])) d.1,F]
     obtain⟨ca,ea,cn,cc,en,ec,c4,c7,Z⟩:=U;have j:=hid Z;have b9:=hid P;have k2:(s:Int)<(cn:Int):=by omega
     have k3:(s:Int)<(en:Int):=by omega
     have k4:(b:Int)<2:=by omega
     have c0:R<4294967296:=Nat.lt_of_lt_of_le P (Nat.le_trans (Nat.pow_le_pow_right (by decide) a2) (by decide));have b3:=hid a3;clear Z P a0 N a1 F O d hM ht Y l C S b0 Q a3 E;go_wp2_with fail
     rw [b3.out];refine Zb (L:=Bk g9 139 [.int .i64 b,.int .i64 s,.int .i64 q,.int .i64 r]::Row 43 1 (.slice V na p) na (rowU (PH.codeAt MA) na)::Row 43 1 (.slice X nd y) nd (rowU (PH.codeAt MD) nd)::Bk g6 214 [.slice V na p,.slice X nd y]::Bk g5 98 [.slice AA na ac,.slice DA nd dc]::L) [some (.pointer (some ⟨gw,0,none⟩)),some (.pointer (some ⟨g9,0,none⟩)),some (.int .i64 b),some (.pointer (some ⟨g6,b,none⟩)),some (.slice (some ca) cn cc),some (.pointer (some ⟨g9,1,none⟩)),some (.int .i64 s),some (.pointer (some (ca.add s))),some (.int .u32 R),some (.int .u64 R),some (.pointer (some ⟨g9,0,none⟩)),some (.int .i64 b),some (.pointer (some ⟨g5,b,none⟩)),some (.slice (some ea) en ec),some (.pointer (some ⟨g9,1,none⟩)),some (.int .i64 s),some (.pointer (some (ea.add s))),some (.int .i64 ln),some (.int .i64 0)] (fun _ _=>True) (fun ix vx=>match ix with | 18=>(fun _=>[WB gw (B1++PH.bitsC ln R)]) vx | _=>[]) (fun ix=>match ix with | 18=>[WB gw B1] | _=>[]) 19 56
      [some 29,some 30,some 31,some 32,some 33,some 34,some 35,some 36,some 37,some 38,some 39,some 40,some 41,some 42,some 43,some 44,some 45,some 46,some 47]
      [[],[],[1],[2],[3],[],[5],[4,6],[7],[8],[],[10],[11],[12],[],[14],[13,15],[16],[0,9,17]]
      [[],[],[1],[1,2],[1,2,3],[],[5],[1,2,3,4,5,6],[1,2,3,4,5,6,7],[1,2,3,4,5,6,7,8],[],[10],[10,11],[10,11,12],[],[14],[10,11,12,13,14,15],[10,11,12,13,14,15,16],[0,1,2,3,4,5,6,7,8,9,10,11,12,13,14,15,16,17]]
      [[],[],[],[],[],[],[],[],[],[],[],[],[],[],[],[],[],[],[]] [[],[],[],[],[],[],[],[],[],[],[],[],[],[],[],[],[],[],[]] [(0,.pointer (some ⟨gw,0,none⟩)),(5,.pointer (some ⟨g5,0,none⟩)),(6,.pointer (some ⟨g6,0,none⟩)),(9,.pointer (some ⟨g9,0,none⟩))]
      (by kernel_rfl) rfl (by decide) (by rfl) (by decide +kernel) rfl rfl (by simp) (T.out) ?hstep ?hend
     case hstep =>
      refine⟨?p0,⟨?p1,⟨?p2,⟨?p3,⟨?p4,⟨?p5,⟨?p6,⟨?p7,⟨?p8,⟨?p9,⟨?p10,⟨?p11,⟨?p12,⟨?p13,⟨?p14,⟨?p15,⟨?p16,⟨?p17,⟨?p18,trivial⟩⟩⟩⟩⟩⟩⟩⟩⟩⟩⟩⟩⟩⟩⟩⟩⟩⟩⟩
      case p0 | p1 | p3 | p5 | p7 | p9 | p10 | p12 | p14 | p16 =>
       intro x wx A f c o g k H K m;replace m:=hid m;clear g k c;repeat (obtain⟨_,o⟩:=o)
       refine so ?_;go_step;exact m.out _ _ rfl H
      case p2 =>
       intro x wx A f c o g k H K a;have c9:=tq g 1;have m:=hid a;clear a o g c;obtain⟨t0,t1,d0,d1,d2,d3⟩:=k _ j.out _ _ H;clear k;refine so ?_;go_step;exact m.out _ _ rfl H
      case p4 =>
       intro x wx A f c o g k H K a;have d4:=tq g 3;have m:=hid a;clear a o g c;obtain⟨t0,t1,d0,d1,d2,d3⟩:=k _ j.out _ _ H;clear k;refine so ?_;go_step;exact m.out _ _ rfl H
      case p6 =>
       intro x wx A f c o g k H K a;have d5:=tq g 5;have m:=hid a;clear a o g c;obtain⟨t0,t1,d0,d1,d2,d3⟩:=k _ j.out _ _ H;clear k;refine so ?_;go_step;exact m.out _ _ rfl H
      case p8 =>
       intro x wx A f c o g k H K a;have d6:=tq g 7;have m:=hid a;clear a o g c;obtain⟨t0,t1,d0,d1,d2,d3⟩:=k _ j.out _ _ H;clear k;refine so ?_;go_step;exact m.out _ _ rfl H
      case p11 =>
       intro x wx A f c o g k H K a;have d7:=tq g 10;have m:=hid a;clear a o g c;obtain⟨t0,t1,d0,d1,d2,d3⟩:=k _ j.out _ _ H;clear k;refine so ?_;go_step;exact m.out _ _ rfl H
      case p13 =>
       intro x wx A f c o g k H K a;have d8:=tq g 12;have m:=hid a;clear a o g c;obtain⟨t0,t1,d0,d1,d2,d3⟩:=k _ j.out _ _ H;clear k;refine so ?_;go_step;exact m.out _ _ rfl H
      case p15 =>
       intro x wx A f c o g k H K a;have d9:=tq g 14;have m:=hid a;clear a o g c;obtain⟨t0,t1,d0,d1,d2,d3⟩:=k _ j.out _ _ H;clear k;refine so ?_;go_step;exact m.out _ _ rfl H
      case p17 =>
       intro x wx A f c o g k H K a;have e0:=tq g 16;have m:=hid a;clear a o g c;obtain⟨t0,t1,d0,d1,d2,d3⟩:=k _ j.out _ _ H;clear k;refine so ?_;go_step;exact m.out _ _ rfl H
      case p18 =>
       intro x wx A f c o g k H K a;have e1:=tq g 0;have e2:=tq g 9;have e3:=tq g 17;replace H:Sp w0 (_::f) wx:=H;have m:=hid a;clear a o g k c;refine so ?_;go_wp2_with fail
       refine(Tm gw B1 R ln H (by omega) b9.out (by omega)).mono ?_;rintro _ w9 ⟨rfl,H9⟩;exact m.out _ _ rfl H9
     case hend =>
      intro x wx A hA g H;replace H:Sp w0 (_::_::_::_::_::_::L) wx:=H;clear g;simp only [putAll,Act.put,List.setIfInBounds_toArray,List.set_cons_succ,List.set_cons_zero,Nat.reduceAdd] at hA;subst hA;have b4:=hid H;obtain⟨t0,t1,t2,t3⟩:wx.cell? ⟨g9,0,none⟩=some (.int .i64 b)/\wx.cell? ⟨g9,1,none⟩=some (.int .i64 s)/\wx.cell? ⟨g9,2,none⟩=some (.int .i64 q)/\wx.cell? ⟨g9,3,none⟩=some (.int .i64 r):=⟨H.cell 1 rfl 0,H.cell 1 rfl 1,H.cell 1 rfl 2,H.cell 1 rfl 3⟩;clear H T j;go_wp2_with fail
      refine(Ym gw (B1++PH.bitsC ln R) r q b4.out (by have:=b1.out.2; omega) b1.out.1 (by rw [List.length_append,PH.bitsC_len]; omega)).mono ?_;rintro _ w9 ⟨rfl,H9⟩;clear b4;go_wp2_with fail
      go_roundw
      case rel =>
       refine⟨i+1,by go_num,by omega,?_⟩;rw [b7.out];have h:=H9.pick 2 [0];rw [List.append_assoc] at h;have h:=H9.pick 6 [0,2,3,4,5];exact h
      case measure=>first | (simp [intOf]; omega) | simp [intOf]
    ·have k1:¬ (i:Int)<(n:Int):=by omega
     rw [List.take_of_length_le (by rw [<- HN.out]; omega)] at l;have D:=hid (l.pick 5 [0]);clear l;go_wp2_with fail
     go_end0;exact⟨rfl,D.out⟩
theorem infoBb:(Tryz.prog.info? 4).map (fun i=>(i.zero,i.size,i.bytes))=some (some (.bool false),1,1):=by kernel_rfl
def cellsBb (l:List Bool):List Value:=l.map Value.bool
theorem Yy (l:List Bool):∀u ∈ cellsBb l,u.oneCell'=true:=by
 intro u a;obtain⟨x,_,rfl⟩:=List.mem_map.1 a;rfl
def Bls (w:World) (v:Value) (l:List Bool):Prop:=∃A c,v=.slice A l.length c/\Rd w A (cellsBb l)/\l.length<=c/\c<=maxLen
theorem Rd.atBb {w:World} {A:Option Addr} {l:List Bool} (h:Rd w A (cellsBb l)) {k:Nat} (hk:k<l.length) :
  ∃ad,A=some ad/\w.cell? (ad.add k)=some (.bool l[k]):=by
 obtain⟨ad,e,a⟩:=h.at_ (k:=k) (by simpa [cellsBb] using hk);exact⟨ad,e,by simpa [cellsBb] using a⟩
theorem Sp.row_bls (H:Sp w0 L w) (k:Nat) {e:TypeId} {v:Value} {l:List Bool} (hk:L[k]?=some (Row e 1 v l.length (cellsBb l))):Bls w v l:=by
 obtain⟨A,c,e,r⟩:=H.row_rd k hk;exact⟨A,c,e,r⟩
theorem VM (n k:Nat) (m:Int) (H:Sp w0 L w) (hn:n<18446744073709551616) (hk:(k:Int)=max m 0) (hk2:k<=1000000) :
  Calls Tryz.prog 125 #[.int .u64 n,.int .i64 m] w (Ret fun v w'=>∃u,v=.tuple #[u,.bool (n / 2 ^ k == 0)]/\Sp w0 (Row 4 1 u k (cellsBb (PBits.bitsOf n k))::L) w'):=by
 obtain⟨s,t,g,h,l⟩:=info_parts infoBb;have r:=hid hk;clear hk;go_enter Tryz.func125,Tryz.ntmps125
 go_wp2;go_loopw [0,6,7] (fun x out i wr=>∃j:Nat,j<=k/\i=.int .i64 j/\x=.int .u64 ((n / 2 ^ j:Nat):Int)/\Sp w0 (Row 4 1 out j (cellsBb (PBits.bitsOf n j))::L) wr) (fun _ _ i _=>k - (intOf i).toNat)
 case atStart=>exact⟨0,Nat.zero_le _,rfl,by simp,H.rowNil _ _⟩
 case round =>
  obtain⟨j,E,rfl,rfl,f⟩:=hrel;obtain⟨A,c,rfl,_,_⟩:=Row.form f 0 rfl;have y:n / 2 ^ j<18446744073709551616:=Nat.lt_of_le_of_lt (Nat.div_le_self _ _) hn;obtain⟨x,o⟩:=exq (n / 2 ^ j);rw [o] at y ⊢;have p:=hid o;clear o;by_cases z:j<k
  ·have a : (j:Int)<m:=by have:=r.out; omega
   obtain⟨b,d⟩:=exq (((x:Int) % 2 == 1));have B:=hid d;go_wp2_with (at_builtin; refine wpList_append_sp rfl _ _ 64 rfl 4 s (.bool false) 1 1 Tryz.underlying64 t g h l rfl (by decide) (.slice A j c) j (cellsBb (PBits.bitsOf n j)) rfl (f.newBk [.bool b] _).swap (some ⟨wr.heap.size,0,none⟩) 1 1 [.bool b] rfl rfl (Rd.of_blk ((f.newBk [.bool b] _).blk 0 rfl)) (by intro u C; rw [List.mem_singleton.1 C]; rfl) (by unfold maxLen; omega) (by omega) ?_)
   intro F w' D _;clear d;go_wp2;go_roundw
   case rel =>
    refine⟨j+1,by omega,by go_num,?_,?_⟩
    ·rw [Nat.pow_succ,<- Nat.div_div_eq_div_mul,p.out]; simp
    ·have e:cellsBb (PBits.bitsOf n (j+1))=cellsBb (PBits.bitsOf n j)++[.bool b]:=by
      have q:(x % 2 == 1)=b:=by
       rw [<- B.out,Bool.eq_iff_iff,beq_iff_eq,beq_iff_eq]; omega
      rw [PBits.bitsOf_snoc,p.out,q]; simp [cellsBb]
     rw [e];exact D.pick 2 [0]
   case measure=>simp [intOf]; omega
  ·have a : ¬ (j:Int)<m:=by have:=r.out; omega
   obtain rfl:j=k:=by omega
   go_wp2;go_ret2;refine⟨_,rfl,_,?_,f⟩;have e:((x:Int) == 0)=(n / 2 ^ j == 0):=by rw [p.out,Bool.eq_iff_iff,beq_iff_eq,beq_iff_eq]; omega
   exact congrArg (fun b=>Value.tuple #[.slice A j c,.bool b]) e
theorem ZG (v:Value) (l:List Bool) (w:World) (hb:Bls w v l) (hl:l.length<=64) :
  Calls Tryz.prog 85 #[v] w fun e w'=>e=.returned (.int .u64 (PBits.num l:Nat))/\w=w':=by
 obtain⟨A,c,rfl,u,o,p⟩:=hb;unfold maxLen at p;have D:=hid u;clear u;obtain⟨n,q⟩:=exq l.length;rw [q] at hl o ⊢;have r:=hid q;clear q;go_enter Tryz.func85,Tryz.ntmps85
 go_wp2;go_loop [3,4] (fun x i=>∃j:Nat,j<=n/\i=.int .i64 ((j:Int) - 1)/\x=.int .u64 (PBits.num (l.drop j):Nat)) (fun _ i=>(intOf i+1).toNat)
 case atStart=>exact⟨n,Nat.le_refl _,rfl,by rw [List.drop_of_length_le (by rw [r.out]; exact Nat.le_refl _)]; rfl⟩
 case round =>
  obtain⟨j,F,rfl,rfl⟩:=hrel;by_cases E:0<j
  ·obtain⟨i,rfl⟩:∃i,j=i+1:=⟨j - 1,by omega⟩;have s:(((i+1:Nat):Int) - 1)=(i:Int):=by omega
   rw [s];have g:i<l.length:=by rw [r.out]; omega
   have G:(0:Int)<=(i:Int):=by omega
   have H:(i:Int)<n:=by omega
   obtain⟨I,rfl,d⟩:=D.out.atBb g;have a:=PBits.num_step l i g;have b:=PBits.num_lt (l.drop i);have h:(2:Nat) ^ (l.drop i).length<=18446744073709551616:=two64 _ (by simp; rw [r.out]; omega);obtain⟨y,m⟩:=exq (PBits.num (l.drop (i+1)));obtain⟨z,k⟩:=exq (PBits.num (l.drop i));rw [m,k] at a;rw [k] at b;rw [m];have B:z<18446744073709551616:=by omega
   have f:=hid a;have C:=hid k;cases hbit:l[i] with
   | true =>
    rw [hbit] at a d;have t:(2:Int) * y+1<18446744073709551616:=by simp at a; omega
    have f:Hid ((z:Int)=2 * y+1):=by show _=_; simp at a; omega
    clear a b h m k hbit s;go_wp2;go_round
    case rel=>exact⟨i,by omega,rfl,by rw [C.out,f.out]⟩
    case measure=>simp [intOf]
   | false =>
    rw [hbit] at a d;have t:(2:Int) * y<18446744073709551616:=by simp at a; omega
    have f:Hid ((z:Int)=2 * y):=by show _=_; simp at a; omega
    clear a b h m k hbit s;go_wp2;go_round
    case rel=>exact⟨i,by omega,rfl,by rw [C.out,f.out]⟩
    case measure=>simp [intOf]
  ·obtain rfl:j=0:=by omega
   go_wp2;go_ret;exact⟨rfl,rfl⟩
def RwB (g:Nat) (v:Value) (at_:Nat):Pr:=Bk g 66 [v,.int .i64 at_]
def Rw (g:Nat) (l:List Bool) (at_:Nat):Pr:=Ex fun v:Value=>Star (RwB g v at_) (Row 4 1 v l.length (cellsBb l))
theorem ZU {g at_:Nat} {l:List Bool} (H:Sp w0 (Rw g l at_::L) w) :
  ∃A c,Sp w0 (RwB g (.slice A l.length c) at_::Row 4 1 (.slice A l.length c) l.length (cellsBb l)::L) w/\Bls w (.slice A l.length c) l /\
   w.cell? ⟨g,0,none⟩=some (.slice A l.length c)/\w.cell? ⟨g,1,none⟩=some (.int .i64 at_)/\w.frozen? ⟨g,0,none⟩=false/\w.frozen? ⟨g,1,none⟩=false/\l.length<=c/\c<=maxLen:=by
 obtain⟨v,H⟩:=H.unex;replace H:=H.unstar;obtain⟨A,c,rfl,a,b⟩:=Row.form H 1 rfl;exact⟨A,c,H,H.row_bls 1 rfl,H.cell 0 rfl 0,H.cell 0 rfl 1,H.frozen 0 rfl 0,H.frozen 0 rfl 1,a,b⟩
theorem ZM {g at_:Nat} {l:List Bool} {v:Value} (H:Sp w0 (RwB g v at_::Row 4 1 v l.length (cellsBb l)::L) w):Sp w0 (Rw g l at_::L) w:=Sp.ex v H.star
theorem Bls.part {w:World} {A:Option Addr} {n c:Nat} {l:List Bool} (h:Bls w (.slice A n c) l) (q k:Nat) (hq:q+k<=n):Bls w (.slice (A.map (·.add q)) k (c - q)) ((l.drop q).take k):=by
 obtain⟨b,d,e,a,f,g⟩:=h;injection e with e1 e2 e3
 subst e1 e2 e3;refine⟨_,_,by rw [show((l.drop q).take k).length=k by simp; omega],?_,by simp; omega,by omega⟩;have:=a.part q k;unfold cellsBb at this ⊢
 rwa [<- List.map_drop,<- List.map_take] at this
theorem Xc (A:Option Addr) (c:Nat) (l:List Bool) (at_ k:Nat) (h:at_+k<=l.length) (hc:l.length<=c) (_hm:c<=2 ^ 63 - 1) :
  ∃u:Value,(∀W:World,(Instr.sliceAt 64 (.slice A l.length c) (some (.int .i64 at_)) (some (.int .i64 ((at_:Int)+k))) none).run Tryz.prog W=.ok u W)/\∀W,Bls W (.slice A l.length c) l->Bls W u ((l.drop at_).take k):=by
 have d:(at_:Int)+k<=c:=by omega
 have e:(0:Int)<=(at_:Int)+k:=by omega
 have f:(at_:Int)<=(at_:Int)+k:=by omega
 have g:(0:Int)<=(k:Int):=by omega
 by_cases a:c=at_
 ·refine⟨.slice A k (c - at_),fun W=>?_,fun W hB=>?_⟩
  ·subst a;go_simp
   omega
  ·have b:k=0:=by omega
   rw [b,List.take_zero];exact⟨A,_,rfl,Rd.nil,Nat.zero_le _,by unfold maxLen; omega⟩
 ·refine⟨.slice (A.map (·.add at_)) k (c - at_),fun W=>?_,fun W hB=>hB.part at_ k h⟩;go_simp
  omega
theorem UA (g:Nat) (l:List Bool) (at_:Nat) (H:Sp w0 (Rw g l at_::L) w) (hl:l.length<=1000000) :
  Calls Tryz.prog 53 #[.pointer (some ⟨g,0,none⟩)] w (Ret fun v w'=>Sp w0 (Row 5 1 v ((l.length+7) / 8) (cells8 (PBits.bytesOf (PBits.num l) ((l.length+7) / 8)))::Rw g l at_::L) w'):=by
 obtain⟨A,c,H,_,_,_,_,_,s,t⟩:=ZU H;unfold maxLen at t;obtain⟨n,z⟩:=exq l.length;have d:=hid z;obtain⟨U,V,C,D,E⟩:=info_parts info8;rw [z] at hl s;have W:∀v M' xs w',Sp w0 (Row 5 1 v M' xs::RwB g (.slice A n c) at_::Row 4 1 (.slice A n c) n (cellsBb l)::L) w'->Sp w0 (Row 5 1 v M' xs::Rw g l at_::L) w':=fun v M' xs w' H'=>Sp.swap (ZM (v:=.slice A n c) (by rw [z]; exact H'.pick 3 [1,2,0]));rw [z] at H;have HG:=hid W;clear z W;go_enter Tryz.func53,Tryz.ntmps53
 go_wp2;go_loopw [3,4] (fun out i wr=>∃j:Nat,j<=(n+7) / 8/\i=.int .i64 ((8 * j:Nat):Int)/\Sp w0 (Row 5 1 out j (cells8 (PBits.bytesOf (PBits.num l) j))::RwB g (.slice A n c) at_::Row 4 1 (.slice A n c) n (cellsBb l)::L) wr) (fun _ i _=>2000000 - (intOf i).toNat)
 case atStart=>exact⟨0,Nat.zero_le _,rfl,H.rowNil _ _⟩
 case round =>
  obtain⟨j,hj,rfl,q⟩:=hrel;obtain⟨B,X,rfl,_,_⟩:=Row.form q 0 rfl;have Y:wr.cell? ⟨g,0,none⟩=some (.slice A n c):=q.cell 1 rfl 0;obtain⟨p,M⟩:=exq (8 * j);rw [M];have N:=hid M;by_cases a0:p<n
  ·have F : (p:Int)<n:=by omega
   obtain⟨k,Z⟩:∃k,k=min 8 (n - p):=⟨_,rfl⟩;have O:k<=8:=by omega
   have o:p+k<=n:=by omega
   have a1:¬ c=p:=by omega
   have y:Bls wr (.slice A n c) l:=q.row_bls 2 (e:=4) (l:=l) (by rw [d.out]; rfl);have f:=y.part p k o;have r:=PBits.num_mid l p k (by rw [d.out]; exact o);have G:PBits.num ((l.drop p).take k)<256:=by
    have I:=PBits.num_lt ((l.drop p).take k);have P:((l.drop p).take k).length<=8:=by rw [List.length_take]; omega
    exact Nat.lt_of_lt_of_le I (Nat.pow_le_pow_right (n:=2) (by decide) P)
   have a:PBits.num ((l.drop p).take k)=PBits.num l / 256 ^ j % 256:=by
    rw [r,p256,M];by_cases h8:p+8<=n
    ·obtain rfl:k=8:=by omega
     rfl
    ·have I:=PBits.num_lt (l.drop p);rw [PBits.num_drop] at I;have P:(l.drop p).length=k:=by rw [List.length_drop,d.out]; omega
     rw [P] at I;have h3:(2:Nat) ^ k<=256:=Nat.pow_le_pow_right (n:=2) (by decide) O;rw [Nat.mod_eq_of_lt I,Nat.mod_eq_of_lt (by omega)]
   obtain⟨x,Q⟩:=exq (PBits.num ((l.drop p).take k));rw [Q] at G a;have J:=hid y;have HX:=hid Q;have HY:=hid a;have a2:=hid f;have a3:(x:Int) % 256=x:=by omega
   clear M r f a Q y;by_cases h8:(n:Int)<(p:Int)+8
   ·have a4:p+k=n:=by omega
    have K:(p:Int)+k=(n:Int):=by omega
    obtain⟨u,h,b⟩:=Xc A c l p k (by rw [d.out]; exact o) (by rw [d.out]; exact s) t;rw [d.out] at h;rw [K] at h;clear K;have m:=b wr (by rw [d.out]; exact J.out);have R:=hid b;clear b Z;go_wp2_with fail
    refine(ZG _ _ _ m (by rw [List.length_take]; omega)).mono ?_;rintro _ w3 ⟨rfl,rfl⟩;rw [HX.out];clear h m;go_wp2_with (at_builtin; refine wpList_append_sp rfl _ _ 24 rfl 5 U (.int .u8 0) 1 1 Tryz.underlying24 V C D E rfl (by decide) (.slice B j X) j (cells8 (PBits.bytesOf (PBits.num l) j)) rfl (q.newBk [.int .u8 x] _).swap (some ⟨wr.heap.size,0,none⟩) 1 1 [.int .u8 x] rfl rfl (Rd.of_blk ((q.newBk [.int .u8 x] _).blk 0 rfl)) (by intro u h; rw [List.mem_singleton.1 h]; rfl) (by unfold maxLen; omega) (by omega) ?_)
    intro v' w' S _;clear Y;go_wp2;go_roundw
    case rel =>
     refine⟨j+1,by have:=N.out; omega,by rw [<- N.out]; go_num,?_⟩;rw [PBits.byte_next,<- HY.out];have T:cells8 (PBits.bytesOf (PBits.num l) j++[UInt8.ofNat x])=cells8 (PBits.bytesOf (PBits.num l) j)++[.int .u8 x]:=by
      have:(UInt8.ofNat x).toNat=x:=by rw [UInt8.toNat_ofNat']; omega
      simp [cells8,this]
     rw [T];exact S.pick 4 [0,2,3]
    case measure=>simp [intOf]; omega
   ·have K:(p:Int)+k=(p:Int)+8:=by omega
    obtain⟨u,h,b⟩:=Xc A c l p k (by rw [d.out]; exact o) (by rw [d.out]; exact s) t;rw [d.out] at h;rw [K] at h;clear K;have m:=b wr (by rw [d.out]; exact J.out);have R:=hid b;clear b Z;go_wp2_with fail
    refine(ZG _ _ _ m (by rw [List.length_take]; omega)).mono ?_;rintro _ w3 ⟨rfl,rfl⟩;rw [HX.out];clear h m;go_wp2_with (at_builtin; refine wpList_append_sp rfl _ _ 24 rfl 5 U (.int .u8 0) 1 1 Tryz.underlying24 V C D E rfl (by decide) (.slice B j X) j (cells8 (PBits.bytesOf (PBits.num l) j)) rfl (q.newBk [.int .u8 x] _).swap (some ⟨wr.heap.size,0,none⟩) 1 1 [.int .u8 x] rfl rfl (Rd.of_blk ((q.newBk [.int .u8 x] _).blk 0 rfl)) (by intro u h; rw [List.mem_singleton.1 h]; rfl) (by unfold maxLen; omega) (by omega) ?_)
    intro v' w' S _;clear Y;go_wp2;go_roundw
    case rel =>
     refine⟨j+1,by have:=N.out; omega,by rw [<- N.out]; go_num,?_⟩;rw [PBits.byte_next,<- HY.out];have T:cells8 (PBits.bytesOf (PBits.num l) j++[UInt8.ofNat x])=cells8 (PBits.bytesOf (PBits.num l) j)++[.int .u8 x]:=by
      have:(UInt8.ofNat x).toNat=x:=by rw [UInt8.toNat_ofNat']; omega
      simp [cells8,this]
     rw [T];exact S.pick 4 [0,2,3]
    case measure=>simp [intOf]; omega
  ·have F : ¬ (p:Int)<n:=by omega
   obtain rfl:j=(n+7) / 8:=by omega
   go_wp2;go_ret;refine⟨_,rfl,?_⟩;rw [d.out];exact HG.out _ _ _ _ q
end Go.Proofs.YteajimobgkempaaGreatDoor

