/- A pack. -/
import Derived.Test.YtnjpnmpemhldcaaGreatDoorPk38
set_option linter.all false
set_option maxRecDepth 100000
set_option maxHeartbeats 8000000
namespace Go.Proofs.YtnjpnmpemhldcaaGreatDoor
variable {w0 w:World} {L:List Pr}
open Go.RowKit
theorem VU {v:Value} {l:List UInt8} (H:Sp w0 L w) (hb:Byt w v l) (hl:l.length<=1000000000) :
  Calls Tryz.prog 66 #[v] w (Ret fun v' w'=>Sp w0 (Row 5 1 v' l.length (cells8 l)::L) w'):=by
 obtain⟨A,c,rfl,d,q,j⟩:=hb;unfold maxLen at j;have k:=fun(W:World)=>Lib.run_eql_slice_nil (P:=Tryz.prog) W 23 5 A l.length c 0 0 Tryz.underlying23;have e:=hid d;cases A with
 | none =>
  have b:l=[]:=by
   rcases l with _ | ⟨x,l⟩
   ·rfl
   ·obtain⟨r,h,_⟩:=d (by simp [cells8]); cases h
  clear d;have m:=hid b;clear b;go_enter Tryz.func66,Tryz.ntmps66
  go_wp2;go_ret;obtain rfl:=m.out;exact⟨_,rfl,H.rowNil _ _⟩
 | some a =>
  clear d;go_enter Tryz.func66,Tryz.ntmps66
  obtain⟨n,o,f,g,i⟩:=info_parts info8;go_wp2_with (at_builtin; refine Za rfl _ _ 23 rfl 5 n (.int .u8 0) 1 1 Tryz.underlying23 o f g i rfl (by decide) (.slice (some ⟨w.heap.size,0,none⟩) 0 0) 0 [] rfl ((H.newBk [] _).bkRow 1 0 rfl (by decide)) (some a) l.length c (cells8 l) rfl (by simp [cells8]) (e.out.alloc _) (Zg l) (by unfold maxLen; omega) (by omega) ?_)
  intro v' w' p _;clear k;go_wp2;go_ret;exact⟨_,rfl,p⟩
theorem VV (B:List UInt8) (h:PG.begin_ B=0):4<=B.length:=by
 refine Decidable.byContradiction fun hno=>?_;unfold PG.begin_ at h;split at h
 ·cases h
 split at h
 ·cases h
 split at h
 ·cases h
 split at h
 ·cases h
 split at h
 ·cases h
 split at h
 ·cases h
 split at h
 ·cases h
 ·omega
theorem VW {w:World} {ad:Addr} {n c k:Nat} {B:List UInt8} {x:UInt8} (h:Byt w (.slice (some ad) n c) B) (hk:k<B.length) (hx:B.getD k 0=x):w.cell? (ad.add k)=some (.int .u8 x.toNat):=by
 obtain⟨g,i,e,b,_,_⟩:=h;injection e with e1
 subst e1;obtain⟨d,e,a⟩:=b.at8 (k:=k) hk;injection e with e
 subst e;have f:B[k]'hk=x:=by rw [<- hx,List.getD_eq_getElem?_getD,List.getElem?_eq_getElem hk]; rfl
 rw [f] at a;exact a
def hd0:PG.Hd:=⟨0,0,0,0,[],[],[]⟩
def HEnd (w0:World) (L:List Pr) (T:Except Nat (PG.Hd × Nat)) (e:Ending) (w' : World):Prop :=
 match T with
 | .error c=>e=.returned (.tuple #[.agg (hdV hd0 (.slice none 0 0)).toArray,.int .i64 0,.int .i64 c])/\Sp w0 L w'
 | .ok r=>∃A ce,e=.returned (.tuple #[.agg (hdV r.1 (.slice A r.1.extra.length ce)).toArray,.int .i64 r.2,.int .i64 0])/\Sp w0 (Row 5 1 (.slice A r.1.extra.length ce) r.1.extra.length (cells8 r.1.extra)::L) w'
theorem HEnd.yes {w0:World} {T:Except Nat (PG.Hd × Nat)} {w' : World} {hd:PG.Hd} {a ne ce:Nat} {A:Option Addr} (h:T=.ok (hd,a)) (hn:hd.extra.length=ne) (H:Sp w0 (Row 5 1 (.slice A ne ce) ne (cells8 hd.extra)::L) w'):HEnd w0 L T (.returned (.tuple #[.agg #[.int .u8 hd.flags.toNat,.int .u8 hd.level.toNat,.int .u8 hd.system.toNat,.int .u32 hd.time,.slice A ne ce,.string (strOf hd.name),.string (strOf hd.note)],.int .i64 a,.int .i64 0])) w':=by
 subst h hn; exact⟨A,ce,rfl,H⟩
theorem HEnd.no {w0:World} {T:Except Nat (PG.Hd × Nat)} {w' : World} {c:Nat} (h:T=.error c) (H:Sp w0 L w'):HEnd w0 L T (.returned (.tuple #[.agg #[.int .u8 0,.int .u8 0,.int .u8 0,.int .u32 0,.slice none 0 0,.string ⟨#[]⟩,.string ⟨#[]⟩],.int .i64 0,.int .i64 c])) w':=by
 subst h; exact⟨rfl,H⟩
theorem UD (BA:Option Addr) (n c:Nat) (B:List UInt8) (H:Sp w0 L w) (hb:Ent L fun w=>Byt w (.slice BA n c) B) (hct:Ent L CrcTab) (hn:B.length=n) (hnm:n<=100000000) (hcn:n<=c) (hcm:c<=maxLen) :
  Calls Tryz.prog 38 #[.slice BA n c] w (HEnd w0 L (PG.head B)):=by
 obtain⟨T,hT⟩:=exq (PG.head B);rw [hT];have HT:=hid hT;have HB:=hid hb;have m8:=hid hct;have N:=hid hn;have a7:=hid hcm;have H1:=(H.newBk [.slice BA n c] 23).newBk [.int .u8 0,.int .u8 0,.int .u8 0,.int .u32 0,.slice none 0 0,.string ⟨#[]⟩,.string ⟨#[]⟩] 28;have es:(w.alloc (.cells #[.slice BA n c] 23)).heap.size=w.heap.size+1:=Array.size_push _;rw [es] at H1;have c1:((w.alloc (.cells #[.slice BA n c] 23)).alloc (.cells #[.int .u8 0,.int .u8 0,.int .u8 0,.int .u32 0,.slice none 0 0,.string ⟨#[]⟩,.string ⟨#[]⟩] 28)).cell? ⟨w.heap.size,0,none⟩=some (.slice BA n c):=H1.cell 1 rfl 0;have d6:=hid (VS BA n c B H1 hn.symm (fun _ _ q=>hb _ _ q.tail2));clear hT hb hct hn hcm H1 H;go_enter Tryz.func38,Tryz.ntmps38
 go_wp2_with fail
 refine d6.out.mono ?_;rintro _ G ⟨rfl,Z⟩;clear d6 es c1;obtain⟨p,i3⟩:=exq (w.heap.size+1);rw [i3] at Z;rw [i3];clear i3;generalize w.heap.size=gb at Z ⊢;by_cases d3:PG.begin_ B=0
 ·have d6:=hid d3;rw [d3];clear d3;have e1:(G.alloc (.cells #[.int .i64 4] 3)).heap.size=G.heap.size+1:=Array.size_push _;have e2:((G.alloc (.cells #[.int .i64 4] 3)).alloc (.cells #[.bool false] 4)).heap.size=G.heap.size+1+1:=by rw [<- e1]; exact Array.size_push _
  have K2:=((Z.newBk [.int .i64 4] 3).newBk [.bool false] 4).newBk [.nilFunc] 118;rw [e1,e2] at K2;have d0:(((G.alloc (.cells #[.int .i64 4] 3)).alloc (.cells #[.bool false] 4)).alloc (.cells #[.nilFunc] 118)).cell? ⟨G.heap.size+1+1,0,none⟩=some .nilFunc:=K2.cell 0 rfl 0;have d1:(((G.alloc (.cells #[.int .i64 4] 3)).alloc (.cells #[.bool false] 4)).alloc (.cells #[.nilFunc] 118)).frozen? ⟨G.heap.size+1+1,0,none⟩=false:=K2.frozen 0 rfl 0;have K3:=((Z.newBk [.int .i64 4] 3).newBk [.bool false] 4).newBk [.func (.func 62) #[] #[.pointer (some ⟨G.heap.size+1,0,none⟩),.pointer (some ⟨gb,0,none⟩),.pointer (some ⟨G.heap.size,0,none⟩)]] 118;rw [e1,e2] at K3;replace K3:=hid K3;have d7:Sem.run Tryz.prog (store ⟨G.heap.size+1+1,0,none⟩ (.func (.func 62) #[] #[.pointer (some ⟨G.heap.size+1,0,none⟩),.pointer (some ⟨gb,0,none⟩),.pointer (some ⟨G.heap.size,0,none⟩)])) (((G.alloc (.cells #[.int .i64 4] 3)).alloc (.cells #[.bool false] 4)).alloc (.cells #[.nilFunc] 118))=.ok () ((((G.alloc (.cells #[.int .i64 4] 3)).alloc (.cells #[.bool false] 4)).alloc (.cells #[.nilFunc] 118)).setCell ⟨G.heap.size+1+1,0,none⟩ (.func (.func 62) #[] #[.pointer (some ⟨G.heap.size+1,0,none⟩),.pointer (some ⟨gb,0,none⟩),.pointer (some ⟨G.heap.size,0,none⟩)])):=by
   rw [run_store _ _ _ _ _ rfl,d0];simp only [d1];rfl
  clear e1 e2 K2 Z;go_wp2_with fail
  clear d7 d0 d1;replace K3:=K3.out;obtain⟨o,j9⟩:=exq (G.heap.size+1);rw [j9] at K3 ⊢;obtain⟨I,k0⟩:=exq (o+1);rw [k0] at K3 ⊢;generalize World.alloc _ _=w2 at K3 ⊢;generalize G.heap.size=ga at K3 ⊢;clear j9 k0;have h4:=VV B d6.out;rw [N.out] at h4;obtain⟨ad,rfl⟩:∃ad,BA=some ad:=by
   obtain⟨A',c',e,hr,_,_⟩:=HB.out _ _ (K3.pick 5 []);injection e with e1
   subst e1;obtain⟨ad,e,_⟩:=hr.at8 (k:=0) (by rw [N.out]; omega);exact⟨ad,e⟩
  obtain⟨f,hf⟩:=exq (B.getD 3 0);have HF:=hid hf;obtain⟨⟨t1,⟨U,b1⟩⟩,g4⟩:∃q,PG.next B ⟨4,false⟩ 4=q:=⟨_,rfl⟩;have k1:=hid g4;have k2:t1.length<=4:=by have:=Yr B ⟨4,false⟩ 4; rw [g4] at this; exact this
  have k3:U<=n:=by have:=ZO B ⟨4,false⟩ 4 (by rw [N.out]; exact h4); rw [g4,N.out] at this; exact this
  have m9:=hid k2;have g5:=hid k3;obtain⟨D,k4⟩:=exq (PG.num t1);have k5:=hid k4;have n0:(3:Int)<(n:Int):=by omega
  have LB:Hid (Ent (Bk I 118 [.func (.func 62) #[] #[.pointer (some ⟨o,0,none⟩),.pointer (some ⟨gb,0,none⟩),.pointer (some ⟨ga,0,none⟩)]]::Bk p 28 [.int .u8 0,.int .u8 0,.int .u8 0,.int .u32 0,.slice none 0 0,.string ⟨#[]⟩,.string ⟨#[]⟩]::Bk gb 23 [.slice (some ad) n c]::L) fun w=>Byt w (.slice (some ad) n c) B):=hid fun _ _ q=>HB.out _ _ (q.pick 3 []);have LC:Hid (Ent (Bk I 118 [.func (.func 62) #[] #[.pointer (some ⟨o,0,none⟩),.pointer (some ⟨gb,0,none⟩),.pointer (some ⟨ga,0,none⟩)]]::Bk p 28 [.int .u8 0,.int .u8 0,.int .u8 0,.int .u32 0,.slice none 0 0,.string ⟨#[]⟩,.string ⟨#[]⟩]::Bk gb 23 [.slice (some ad) n c]::L) fun w=>w.cell? ⟨gb,0,none⟩=some (.slice (some ad) n c)):=hid fun _ _ q=>q.cell 2 rfl 0;have LF:Hid (Ent (Bk I 118 [.func (.func 62) #[] #[.pointer (some ⟨o,0,none⟩),.pointer (some ⟨gb,0,none⟩),.pointer (some ⟨ga,0,none⟩)]]::Bk p 28 [.int .u8 0,.int .u8 0,.int .u8 0,.int .u32 0,.slice none 0 0,.string ⟨#[]⟩,.string ⟨#[]⟩]::Bk gb 23 [.slice (some ad) n c]::L) fun w=>w.cell? ⟨I,0,none⟩=some (.func (.func 62) #[] #[.pointer (some ⟨o,0,none⟩),.pointer (some ⟨gb,0,none⟩),.pointer (some ⟨ga,0,none⟩)])):=hid fun _ _ q=>q.cell 0 rfl 0;have L3:Hid (Ent (Bk I 118 [.func (.func 62) #[] #[.pointer (some ⟨o,0,none⟩),.pointer (some ⟨gb,0,none⟩),.pointer (some ⟨ga,0,none⟩)]]::Bk p 28 [.int .u8 0,.int .u8 0,.int .u8 0,.int .u32 0,.slice none 0 0,.string ⟨#[]⟩,.string ⟨#[]⟩]::Bk gb 23 [.slice (some ad) n c]::L) fun w=>w.cell? ⟨ad.block,ad.off+3,none⟩=some (.int .u8 f.toNat)):=hid fun _ _ q=>VW (k:=3) (LB.out _ _ q) (by rw [N.out]; omega) hf;have KK:=hid (show Sp w0 (Bk ga 3 [.int .i64 (4:Int)]::Bk o 4 [.bool false]::Bk I 118 [.func (.func 62) #[] #[.pointer (some ⟨o,0,none⟩),.pointer (some ⟨gb,0,none⟩),.pointer (some ⟨ga,0,none⟩)]]::Bk p 28 [.int .u8 0,.int .u8 0,.int .u8 0,.int .u32 0,.slice none 0 0,.string ⟨#[]⟩,.string ⟨#[]⟩]::Bk gb 23 [.slice (some ad) n c]::L) w2 from K3.pick 5 [2,1,0,3,4]);clear hf g4 k2 k3 k4 K3;refine Zr (L:=Bk I 118 [.func (.func 62) #[] #[.pointer (some ⟨o,0,none⟩),.pointer (some ⟨gb,0,none⟩),.pointer (some ⟨ga,0,none⟩)]]::Bk p 28 [.int .u8 0,.int .u8 0,.int .u8 0,.int .u32 0,.slice none 0 0,.string ⟨#[]⟩,.string ⟨#[]⟩]::Bk gb 23 [.slice (some ad) n c]::L) [some (.slice (some ad) n c),some (.pointer (some ⟨ad.block,ad.off+3,none⟩)),some (.int .u8 f.toNat),some (.func (.func 62) #[] #[.pointer (some ⟨o,0,none⟩),.pointer (some ⟨gb,0,none⟩),.pointer (some ⟨ga,0,none⟩)]),none,some (.int .u32 D),some (.agg #[.int .u8 f.toNat,.int .u8 0,.int .u8 0,.int .u32 D,.slice none 0 0,.string ⟨#[]⟩,.string ⟨#[]⟩]),none,some (undef)] (fun ix ux vx=>match ix with | 7=>(fun vv=>vv=.pointer (some ⟨ptrB vv,0,none⟩)) vx | _=>True) (fun ix ux vx=>match ix with | 4=>(fun vv=>[Nx (some ad) n c B (t1) vv,Bk ga 3 [.int .i64 U],Bk o 4 [.bool b1]]) vx | 5=>(fun _=>[Bk ga 3 [.int .i64 U],Bk o 4 [.bool b1]]) vx | 7=>(fun vv=>[Bk (ptrB vv) 28 [.int .u8 0,.int .u8 0,.int .u8 0,.int .u32 0,.slice none 0 0,.string ⟨#[]⟩,.string ⟨#[]⟩]]) vx | 8=>(fun _=>[Bk (ptrB ux) 28 [.int .u8 f.toNat,.int .u8 0,.int .u8 0,.int .u32 D,.slice none 0 0,.string ⟨#[]⟩,.string ⟨#[]⟩]]) vx | _=>[]) (fun ix=>match ix with | 4=>[Bk ga 3 [.int .i64 (4:Int)],Bk o 4 [.bool false]] | _=>[]) 9 83
   [some 20,some 21,some 22,some 23,some 24,some 25,some 26,some 10,none]
   [[],[0],[1],[],[3],[4,4],[2,5],[],[7,6,5,0,1,2,3,4,5,6,7]]
   [[],[0],[0,1],[],[3],[3,4],[0,1,2,3,4,5],[],[0,1,2,3,4,5,6,7]]
   [[],[],[],[],[],[4],[],[],[7]] [[],[],[],[],[],[],[],[],[]] [none,none,none,none,none,none,none,none,some 7] [(1,.pointer (some ⟨gb,0,none⟩)),(8,.pointer (some ⟨I,0,none⟩))]
   (by kernel_rfl) rfl (by decide) (by rfl) (by decide +kernel) rfl (by simp) (by rfl) (KK.out) ?hstep ?hend
  case hstep =>
   refine⟨?p0,⟨?p1,⟨?p2,⟨?p3,⟨?p4,⟨?p5,⟨?p6,⟨?p7,⟨?p8,trivial⟩⟩⟩⟩⟩⟩⟩⟩⟩
   case p1 | p6 =>
    intro x wx A rest i b l H K hK;replace hK:=hid hK;clear b l;repeat (obtain⟨_,i⟩:=i)
    refine so ?_;go_step;exact hK.out _ _ rfl H
   case p0 =>
    intro x wx A rest i b l H K a;have e1:A.tmps[1]?.getD undef=.pointer (some ⟨gb,0,none⟩):=Zs i (1,_) (by simp);have hK:=hid a;clear a i b;have cc:=l _ LC.out _ _ H;refine so ?_;go_step;exact hK.out _ _ rfl H
   case p2 =>
    intro x wx A rest i b l H K a;have s6:=tq b 1;have hK:=hid a;clear a i b;have cc:=l _ L3.out _ _ H;refine so ?_;go_step;exact hK.out _ _ rfl H
   case p3 =>
    intro x wx A rest i b l H K a;have e8:A.tmps[8]?.getD undef=.pointer (some ⟨I,0,none⟩):=Zs i (8,_) (by simp);have hK:=hid a;clear a i b;have cc:=l _ LF.out _ _ H;refine so ?_;go_step;exact hK.out _ _ rfl H
   case p4 =>
    intro x wx A rest i b l H K a;have s7:=tq b 3;replace H:Sp w0 (_::_::rest) wx:=H;have hK:Hid (∀(v:Value) (w' : World),(True)->Sp w0 ((Nx (some ad) n c B (t1) v)::(Bk ga 3 [.int .i64 U])::(Bk o 4 [.bool b1])::rest) w'->K (A.put (some 24) v) w'):=hid a;clear a i b;have HC:=hid (l _ LC.out);clear l;refine so ?_;go_wp2_with fail
    refine(ZS ga o gb (some ad) n c B ⟨4,false⟩ 4 H HC.out N.out h4 (by decide) (by omega) hcn a7.out).mono ?_;rw [k1.out];rintro _ w9 ⟨v9,rfl,V⟩;exact hK.out _ _ trivial V
   case p5 =>
    intro x wx A rest i b l H K a;have s8:True:=(b 4 (by decide)).1;have s9:=(b 4 (by decide)).2 24 rfl;replace H:Sp w0 ((Nx (some ad) n c B (t1) (x 4))::_::_::rest) wx:=H;have hK:=hid a;clear a i b;have HC:=hid (Nx.byt H (fun _ _ q=>l _ LB.out _ _ (q.pick 2 [])));clear l;refine so ?_;go_wp2_with fail
    refine(YI H HC.out m9.out).mono ?_;rw [k5.out];rintro _ w9 ⟨rfl,V⟩;exact hK.out _ _ rfl V.tail
   case p7 =>
    intro x wx A rest i b l H K a;have hK:=hid a;clear a i b l;refine so ?_;go_step;exact hK.out _ _ rfl (H.newBk _ _)
   case p8 =>
    intro x wx A rest i b l H K a;have n1:(x 7)=.pointer (some ⟨ptrB (x 7),0,none⟩):=(b 7 (by decide)).1;have i4:=(b 7 (by decide)).2 10 rfl;have n2:=tq b 6;replace H:Sp w0 ((Bk (ptrB (x 7)) 28 [.int .u8 0,.int .u8 0,.int .u8 0,.int .u32 0,.slice none 0 0,.string ⟨#[]⟩,.string ⟨#[]⟩])::rest) wx:=H;have hK:Hid (∀(v:Value) (w' : World),(v=undef)->Sp w0 ((Bk (ptrB (x 7)) 28 [.int .u8 f.toNat,.int .u8 0,.int .u8 0,.int .u32 D,.slice none 0 0,.string ⟨#[]⟩,.string ⟨#[]⟩])::rest) w'->K (A.put none v) w'):=hid a;clear a i b l;obtain⟨w9,d7,V⟩:=Xs (P:=Tryz.prog) [.int .u8 f.toNat,.int .u8 0,.int .u8 0,.int .u32 D,.slice none 0 0,.string ⟨#[]⟩,.string ⟨#[]⟩] 0 _ wx H (by show 0+7<=7; omega) (UW _ _ _ _ _ _ _ _ _);refine so ?_;exact Zm 28 _ _ rfl _ [.int .u8 f.toNat,.int .u8 0,.int .u8 0,.int .u32 D,.slice none 0 0,.string ⟨#[]⟩,.string ⟨#[]⟩] (ev (i4.trans n1)) (ev n2) d7 Tryz.sizeOf28 (hK.out undef _ rfl V)
  case hend =>
   intro x wx A hA b H;replace H:Sp w0 (_::_::(Bk (ptrB (x 7)) 28 [.int .u8 f.toNat,.int .u8 0,.int .u8 0,.int .u32 D,.slice none 0 0,.string ⟨#[]⟩,.string ⟨#[]⟩])::_::_::_::L) wx:=H;have y7:(x 7)=.pointer (some ⟨ptrB (x 7),0,none⟩):=b 7 (by decide);clear b;simp only [putAll,Act.put,List.setIfInBounds_toArray,List.set_cons_succ,List.set_cons_zero,Nat.reduceAdd] at hA;subst hA;obtain⟨r,k6⟩:=exq (ptrB (x 7));rw [k6] at y7 H;rw [y7];clear y7 k6 KK L3 n0;replace H:Sp w0 (_::_::_::_::_::_::L) wx:=H;have O:=hid H;clear H;obtain⟨⟨t2,⟨a2,b2⟩⟩,g6⟩:∃q,PG.next B ⟨U,b1⟩ 1=q:=⟨_,rfl⟩;obtain⟨⟨t3,⟨R,b3⟩⟩,g7⟩:∃q,PG.next B ⟨a2,b2⟩ 1=q:=⟨_,rfl⟩;have i5:t2.length=1:=by have:=XK B ⟨U,b1⟩ 1 (by rw [N.out]; exact g5.out) (by decide); rw [g6] at this; exact this
   have g8:a2<=n:=by have:=ZO B ⟨U,b1⟩ 1 (by rw [N.out]; exact g5.out); rw [g6,N.out] at this; exact this
   have i6:t3.length=1:=by have:=XK B ⟨a2,b2⟩ 1 (by rw [N.out]; exact g8) (by decide); rw [g7] at this; exact this
   have k7:R<=n:=by have:=ZO B ⟨a2,b2⟩ 1 (by rw [N.out]; exact g8); rw [g7,N.out] at this; exact this
   obtain⟨y,k8⟩:=exq (t2.getD 0 0);obtain⟨s,k9⟩:=exq (t3.getD 0 0);have n3:t2=[y]:=by
    rcases t2 with _ | ⟨u,_ | ⟨u2,t⟩⟩
    ·cases i5
    ·rw [<- k8]; rfl
    ·simp at i5
   have n4:t3=[s]:=by
    rcases t3 with _ | ⟨u,_ | ⟨u2,t⟩⟩
    ·cases i6
    ·rw [<- k9]; rfl
    ·simp at i6
   subst n3 n4;have h0:=hid g6;have h1:=hid g7;have n5:=hid g8;have e0:=hid k7;clear g6 g7 i5 i6 g8 k7 k8 k9;go_wp2_with fail
   go_cut [5] from 11 (fun s5 wx=>s5=.int .i64 0/\Sp w0 (Bk ga 3 [.int .i64 R]::Bk o 4 [.bool b3]::Bk r 28 [.int .u8 f.toNat,.int .u8 y.toNat,.int .u8 s.toNat,.int .u32 D,.slice none 0 0,.string ⟨#[]⟩,.string ⟨#[]⟩]::Bk I 118 [.func (.func 62) #[] #[.pointer (some ⟨o,0,none⟩),.pointer (some ⟨gb,0,none⟩),.pointer (some ⟨ga,0,none⟩)]]::Bk p 28 [.int .u8 0,.int .u8 0,.int .u8 0,.int .u32 0,.slice none 0 0,.string ⟨#[]⟩,.string ⟨#[]⟩]::Bk gb 23 [.slice (some ad) n c]::L) wx)
   case first =>
    by_cases Q:b1=true∨n - U<1
    ·have h2:([y],(⟨a2,b2⟩:PG.S))=(List.replicate (min 1 4) 0,⟨U,true⟩):=by rw [<- h0.out]; exact YH B ⟨U,b1⟩ 1 (by rw [N.out]; exact Q)
     have n6:([s],(⟨R,b3⟩:PG.S))=(List.replicate (min 1 4) 0,⟨U,true⟩):=by
      have e:(⟨a2,b2⟩:PG.S)=⟨U,true⟩:=(Prod.mk.inj h2).2;rw [<- h1.out,e]; exact YH B ⟨U,true⟩ 1 (.inl rfl)
     injection h2 with p1 p2
     injection n6 with p3 p4
     injection p4 with p5 p6
     have P1:=hid p1;have P3:=hid p3;subst p5 p6;have S:=hid (Dead.shut Q O.out);clear p1 p2 p3 Q O h0 h1;refine Zr (L:=Bk I 118 [.func (.func 62) #[] #[.pointer (some ⟨o,0,none⟩),.pointer (some ⟨gb,0,none⟩),.pointer (some ⟨ga,0,none⟩)]]::Bk p 28 [.int .u8 0,.int .u8 0,.int .u8 0,.int .u32 0,.slice none 0 0,.string ⟨#[]⟩,.string ⟨#[]⟩]::Bk gb 23 [.slice (some ad) n c]::L) [some (.func (.func 62) #[] #[.pointer (some ⟨o,0,none⟩),.pointer (some ⟨gb,0,none⟩),.pointer (some ⟨ga,0,none⟩)]),none,none,some (.int .u8 y.toNat),some (.func (.func 62) #[] #[.pointer (some ⟨o,0,none⟩),.pointer (some ⟨gb,0,none⟩),.pointer (some ⟨ga,0,none⟩)]),none,none,some (.int .u8 s.toNat),some (.pointer (some ⟨r,1,none⟩)),some (undef),some (.pointer (some ⟨r,2,none⟩)),some (undef)] (fun ix ux vx=>match ix with | 2=>(fun ux vv=>∃g d,ux=.slice (some g) 1 d/\vv=.pointer (some g)) ux vx | 6=>(fun ux vv=>∃g d,ux=.slice (some g) 1 d/\vv=.pointer (some g)) ux vx | _=>True) (fun ix ux vx=>match ix with | 1=>(fun vv=>[Nx (some ad) n c B ([y]) vv]) vx | 2=>(fun _=>[Nx (some ad) n c B ([y]) ux]) vx | 5=>(fun vv=>[Nx (some ad) n c B ([s]) vv,Bk ga 3 [.int .i64 R],Bk o 4 [.bool true]]) vx | 6=>(fun _=>[Nx (some ad) n c B ([s]) ux,Bk ga 3 [.int .i64 R],Bk o 4 [.bool true]]) vx | 7=>(fun _=>[Bk ga 3 [.int .i64 R],Bk o 4 [.bool true]]) vx | 9=>(fun _=>[Bk r 28 [.int .u8 f.toNat,.int .u8 y.toNat,.int .u8 0,.int .u32 D,.slice none 0 0,.string ⟨#[]⟩,.string ⟨#[]⟩]]) vx | 11=>(fun _=>[Bk r 28 [.int .u8 f.toNat,.int .u8 y.toNat,.int .u8 s.toNat,.int .u32 D,.slice none 0 0,.string ⟨#[]⟩,.string ⟨#[]⟩]]) vx | _=>[]) (fun ix=>match ix with | 5=>[Dead ga o n R 1] | 9=>[Bk r 28 [.int .u8 f.toNat,.int .u8 0,.int .u8 0,.int .u32 D,.slice none 0 0,.string ⟨#[]⟩,.string ⟨#[]⟩]] | _=>[]) 12 83
      [some 27,some 28,some 29,some 30,some 31,some 32,some 33,some 34,some 35,none,some 36,none]
      [[],[0],[1],[2],[],[4,1],[5],[6],[0,1,2,3],[8,3,5,0,1,2,3],[0,1,2,3,4,5,6,7,8,9],[10,7,9,0,1,2,3,4,5,6,7,8,9]]
      [[],[0],[0,1],[0,1,2],[],[0,1,4],[0,1,4,5],[0,1,4,5,6],[0,1,2,3],[0,1,2,3,4,5,8],[0,1,2,3,4,5,6,7,8,9],[0,1,2,3,4,5,6,7,8,9,10]]
      [[],[],[1],[2],[],[],[5],[6],[],[],[],[9]] [[],[5],[],[],[],[],[],[],[],[],[],[]] [none,none,some 1,none,none,none,some 5,none,none,none,none,none] [(8,.pointer (some ⟨I,0,none⟩)),(10,.pointer (some ⟨r,0,none⟩))]
      (by kernel_rfl) rfl (by decide) (by rfl) (by decide +kernel) rfl (by simp) (by rfl) ((S.out.pick 2 [0,1])) ?hstep ?hend
     case hstep =>
      refine⟨?p0,⟨?p1,⟨?p2,⟨?p3,⟨?p4,⟨?p5,⟨?p6,⟨?p7,⟨?p8,⟨?p9,⟨?p10,⟨?p11,trivial⟩⟩⟩⟩⟩⟩⟩⟩⟩⟩⟩⟩
      case p8 | p10 =>
       intro x wx A rest i b l H K hK;replace hK:=hid hK;clear b l;repeat (obtain⟨_,i⟩:=i)
       refine so ?_;go_step;exact hK.out _ _ rfl H
      case p0 =>
       intro x wx A rest i b l H K a;have e8:A.tmps[8]?.getD undef=.pointer (some ⟨I,0,none⟩):=Zs i (8,_) (by simp);have hK:=hid a;clear a i b;have cc:=l _ LF.out _ _ H;refine so ?_;go_step;exact hK.out _ _ rfl H
      case p1 =>
       intro x wx A rest i b l H K a;have n7:=tq b 0;replace H:Sp w0 (_::rest) wx:=H;have hK:Hid (∀(v:Value) (w' : World),(True)->Sp w0 ((Nx (some ad) n c B ([y]) v)::(Dead ga o n R 1)::rest) w'->K (A.put (some 28) v) w'):=hid a;clear a i b;have HC:=hid (l _ LC.out);clear l;obtain⟨⟨bq,n8⟩,H⟩:=H.unex;have HZ:=hid (Dead.shut n8 H.unstar);have HW:=hid (Y4 ga o gb (some ad) n c B R 1 HZ.out HC.out N.out e0.out (by decide) (by omega) hcn a7.out);rw [<- P1.out] at HW;clear HZ H;refine so ?_;go_wp2_with fail
       refine HW.out.mono ?_;rintro _ w9 ⟨v9,rfl,V⟩;refine hK.out _ _ trivial ?_;exact(Dead.shut (.inl rfl) ((V.pick 3 [1,2,0]))).swap
      case p2 =>
       intro x wx A rest i b l H K a;have t0:True:=(b 1 (by decide)).1;have i7:=(b 1 (by decide)).2 28 rfl;replace H:Sp w0 ((Nx (some ad) n c B ([y]) (x 1))::rest) wx:=H;have hK:Hid (∀(v:Value) (w' : World),(∃g d,(x 1)=.slice (some g) 1 d/\v=.pointer (some g))->Sp w0 ((Nx (some ad) n c B ([y]) (x 1))::rest) w'->K (A.put (some 29) v) w'):=hid a;clear a i b;obtain⟨A9,d9,C,e3,e4,F⟩:=Nx.form H (l _ LB.out);obtain⟨W,rfl,c9⟩:=F (by unfold cells8; simp);have s3:=i7.trans C;have e5:=hid C;clear i7 C l c9 F;refine so ?_;go_step;exact hK.out _ _ ⟨W,d9,e5.out,rfl⟩ H
      case p3 =>
       intro x wx A rest i b l H K a;have n9:∃g d,(x 1)=.slice (some g) 1 d/\(x 2)=.pointer (some g):=(b 2 (by decide)).1;have i8:=(b 2 (by decide)).2 29 rfl;replace H:Sp w0 ((Nx (some ad) n c B ([y]) (x 1))::rest) wx:=H;have hK:=hid a;clear a i b;obtain⟨A9,d9,C,e3,e4,F⟩:=Nx.form H (l _ LB.out);obtain⟨W,rfl,c9⟩:=F (by unfold cells8; simp);obtain⟨g9,d8,a9,b0⟩:=n9;rw [C] at a9;injection a9 with e81 e82 e83
       injection e81 with e81
       subst e81;have cc:wx.cell? W=some (.int .u8 y.toNat):=c9 0 _ rfl;have s4:=i8.trans b0;clear i8 b0 C l c9 F e82 e83;refine so ?_;go_step;exact hK.out _ _ rfl H.tail
      case p4 =>
       intro x wx A rest i b l H K a;have e8:A.tmps[8]?.getD undef=.pointer (some ⟨I,0,none⟩):=Zs i (8,_) (by simp);have hK:=hid a;clear a i b;have cc:=l _ LF.out _ _ H;refine so ?_;go_step;exact hK.out _ _ rfl H
      case p5 =>
       intro x wx A rest i b l H K a;have o0:=tq b 4;replace H:Sp w0 (_::rest) wx:=H;have hK:Hid (∀(v:Value) (w' : World),(True)->Sp w0 ((Nx (some ad) n c B ([s]) v)::(Bk ga 3 [.int .i64 R])::(Bk o 4 [.bool true])::rest) w'->K (A.put (some 32) v) w'):=hid a;clear a i b;have HC:=hid (l _ LC.out);clear l;have HW:=hid (Y4 ga o gb (some ad) n c B R 1 H HC.out N.out e0.out (by decide) (by omega) hcn a7.out);rw [<- P3.out] at HW;refine so ?_;go_wp2_with fail
       refine HW.out.mono ?_;rintro _ w9 ⟨v9,rfl,V⟩;exact hK.out _ _ trivial V
      case p6 =>
       intro x wx A rest i b l H K a;have o1:True:=(b 5 (by decide)).1;have e7:=(b 5 (by decide)).2 32 rfl;replace H:Sp w0 ((Nx (some ad) n c B ([s]) (x 5))::_::_::rest) wx:=H;have hK:Hid (∀(v:Value) (w' : World),(∃g d,(x 5)=.slice (some g) 1 d/\v=.pointer (some g))->Sp w0 ((Nx (some ad) n c B ([s]) (x 5))::(Bk ga 3 [.int .i64 R])::(Bk o 4 [.bool true])::rest) w'->K (A.put (some 33) v) w'):=hid a;clear a i b;obtain⟨A9,d9,C,e3,e4,F⟩:=Nx.form H (fun _ _ q=>l _ LB.out _ _ (q.pick 2 []));obtain⟨W,rfl,c9⟩:=F (by unfold cells8; simp);have l0:=e7.trans C;have e5:=hid C;clear e7 C l c9 F;refine so ?_;go_step;exact hK.out _ _ ⟨W,d9,e5.out,rfl⟩ H
      case p7 =>
       intro x wx A rest i b l H K a;have i9:∃g d,(x 5)=.slice (some g) 1 d/\(x 6)=.pointer (some g):=(b 6 (by decide)).1;have f0:=(b 6 (by decide)).2 33 rfl;replace H:Sp w0 ((Nx (some ad) n c B ([s]) (x 5))::_::_::rest) wx:=H;have hK:=hid a;clear a i b;obtain⟨A9,d9,C,e3,e4,F⟩:=Nx.form H (fun _ _ q=>l _ LB.out _ _ (q.pick 2 []));obtain⟨W,rfl,c9⟩:=F (by unfold cells8; simp);obtain⟨g9,d8,a9,b0⟩:=i9;rw [C] at a9;injection a9 with e81 e82 e83
       injection e81 with e81
       subst e81;have cc:wx.cell? W=some (.int .u8 s.toNat):=c9 0 _ rfl;have l1:=f0.trans b0;clear f0 b0 C l c9 F e82 e83;refine so ?_;go_step;exact hK.out _ _ rfl H.tail
      case p9 =>
       intro x wx A rest i b l H K a;have o2:=tq b 8;have o3:=tq b 3;replace H:Sp w0 (_::rest) wx:=H;have hK:=hid a;clear a i b l;have z:=H.frozen 0 rfl 1;have t:=H.cell 0 rfl 1;refine so ?_;go_step;exact hK.out _ _ rfl (H.set 1 (.int .u8 y.toNat))
      case p11 =>
       intro x wx A rest i b l H K a;have o4:=tq b 10;have o5:=tq b 7;replace H:Sp w0 (_::rest) wx:=H;have hK:=hid a;clear a i b l;have z:=H.frozen 0 rfl 2;have t:=H.cell 0 rfl 2;refine so ?_;go_step;exact hK.out _ _ rfl (H.set 2 (.int .u8 s.toNat))
     case hend =>
      intro x wx A hA b H;replace H:Sp w0 (_::_::_::_::_::_::L) wx:=H;clear b;simp only [putAll,Act.put,List.setIfInBounds_toArray,List.set_cons_succ,List.set_cons_zero,Nat.reduceAdd] at hA;subst hA;have K7:=hid H;clear H;go_wp2_with fail
      go_meet
      exact⟨rfl,K7.out⟩
    ·have o6:b1=false:=by cases b1; rfl; exact absurd (.inl rfl) Q
     subst o6;have f1:¬ n - U<1:=fun q=>Q (.inr q);have h2:([y],(⟨a2,b2⟩:PG.S))=((B.drop U).take 1,⟨U+1,false⟩):=by rw [<- h0.out]; exact VT B U 1 (by rw [N.out]; exact f1)
     injection h2 with p1 p2
     injection p2 with p5 p6
     subst p5 p6;obtain⟨ae,h3⟩:∃ae,subZ (some ad) c U 1=some ae:=by
      unfold subZ;split
      ·exact⟨ad,rfl⟩
      ·exact⟨_,rfl⟩
     have LV:Hid (Ent (Bk I 118 [.func (.func 62) #[] #[.pointer (some ⟨o,0,none⟩),.pointer (some ⟨gb,0,none⟩),.pointer (some ⟨ga,0,none⟩)]]::Bk p 28 [.int .u8 0,.int .u8 0,.int .u8 0,.int .u32 0,.slice none 0 0,.string ⟨#[]⟩,.string ⟨#[]⟩]::Bk gb 23 [.slice (some ad) n c]::L) fun w=>w.cell? ae=some (.int .u8 y.toNat)):=hid fun _ _ q=>by
      have h:=((LB.out _ _ q).dropZ U g5.out).take 1 (by rw [List.length_drop,N.out]; omega);rw [<- p1,h3] at h;have h9:=VW (k:=0) h Nat.zero_lt_one rfl;exact h9
     replace h3:=hid h3;have S:=O;clear p1 O Q;refine Zr (L:=Bk I 118 [.func (.func 62) #[] #[.pointer (some ⟨o,0,none⟩),.pointer (some ⟨gb,0,none⟩),.pointer (some ⟨ga,0,none⟩)]]::Bk p 28 [.int .u8 0,.int .u8 0,.int .u8 0,.int .u32 0,.slice none 0 0,.string ⟨#[]⟩,.string ⟨#[]⟩]::Bk gb 23 [.slice (some ad) n c]::L) [some (.func (.func 62) #[] #[.pointer (some ⟨o,0,none⟩),.pointer (some ⟨gb,0,none⟩),.pointer (some ⟨ga,0,none⟩)]),some (.slice (some ae) 1 (c - U)),some (.pointer (some ae)),some (.int .u8 y.toNat),some (.func (.func 62) #[] #[.pointer (some ⟨o,0,none⟩),.pointer (some ⟨gb,0,none⟩),.pointer (some ⟨ga,0,none⟩)]),none,none,some (.int .u8 s.toNat),some (.pointer (some ⟨r,1,none⟩)),some (undef),some (.pointer (some ⟨r,2,none⟩)),some (undef)] (fun ix ux vx=>match ix with | 6=>(fun ux vv=>∃g d,ux=.slice (some g) 1 d/\vv=.pointer (some g)) ux vx | _=>True) (fun ix ux vx=>match ix with | 1=>(fun _=>[Bk ga 3 [.int .i64 ((U+1:Nat):Int)],Bk o 4 [.bool false]]) vx | 5=>(fun vv=>[Nx (some ad) n c B ([s]) vv,Bk ga 3 [.int .i64 R],Bk o 4 [.bool b3]]) vx | 6=>(fun _=>[Nx (some ad) n c B ([s]) ux,Bk ga 3 [.int .i64 R],Bk o 4 [.bool b3]]) vx | 7=>(fun _=>[Bk ga 3 [.int .i64 R],Bk o 4 [.bool b3]]) vx | 9=>(fun _=>[Bk r 28 [.int .u8 f.toNat,.int .u8 y.toNat,.int .u8 0,.int .u32 D,.slice none 0 0,.string ⟨#[]⟩,.string ⟨#[]⟩]]) vx | 11=>(fun _=>[Bk r 28 [.int .u8 f.toNat,.int .u8 y.toNat,.int .u8 s.toNat,.int .u32 D,.slice none 0 0,.string ⟨#[]⟩,.string ⟨#[]⟩]]) vx | _=>[]) (fun ix=>match ix with | 1=>[Bk ga 3 [.int .i64 U],Bk o 4 [.bool false]] | 9=>[Bk r 28 [.int .u8 f.toNat,.int .u8 0,.int .u8 0,.int .u32 D,.slice none 0 0,.string ⟨#[]⟩,.string ⟨#[]⟩]] | _=>[]) 12 83
      [some 27,some 28,some 29,some 30,some 31,some 32,some 33,some 34,some 35,none,some 36,none]
      [[],[0],[1],[2],[],[4,1],[5],[6],[0,1,2,3],[8,3,5,0,1,2,3],[0,1,2,3,4,5,6,7,8,9],[10,7,9,0,1,2,3,4,5,6,7,8,9]]
      [[],[0],[0,1],[0,1,2],[],[0,1,4],[0,1,4,5],[0,1,4,5,6],[0,1,2,3],[0,1,2,3,4,5,8],[0,1,2,3,4,5,6,7,8,9],[0,1,2,3,4,5,6,7,8,9,10]]
      [[],[],[],[],[],[1],[5],[6],[],[],[],[9]] [[],[],[],[],[],[],[],[],[],[],[],[]] [none,none,none,none,none,none,some 5,none,none,none,none,none] [(8,.pointer (some ⟨I,0,none⟩)),(10,.pointer (some ⟨r,0,none⟩))]
      (by kernel_rfl) rfl (by decide) (by rfl) (by decide +kernel) rfl (by simp) (by rfl) ((S.out.pick 3 [0,1,2])) ?hstep ?hend
     case hstep =>
      refine⟨?p0,⟨?p1,⟨?p2,⟨?p3,⟨?p4,⟨?p5,⟨?p6,⟨?p7,⟨?p8,⟨?p9,⟨?p10,⟨?p11,trivial⟩⟩⟩⟩⟩⟩⟩⟩⟩⟩⟩⟩
      case p8 | p10 =>
       intro x wx A rest i b l H K hK;replace hK:=hid hK;clear b l;repeat (obtain⟨_,i⟩:=i)
       refine so ?_;go_step;exact hK.out _ _ rfl H
      case p0 =>
       intro x wx A rest i b l H K a;have e8:A.tmps[8]?.getD undef=.pointer (some ⟨I,0,none⟩):=Zs i (8,_) (by simp);have hK:=hid a;clear a i b;have cc:=l _ LF.out _ _ H;refine so ?_;go_step;exact hK.out _ _ rfl H
      case p1 =>
       intro x wx A rest i b l H K a;have n7:=tq b 0;replace H:Sp w0 (_::_::rest) wx:=H;have hK:=hid a;clear a i b;have HC:=hid (l _ LC.out);clear l;have HW:=hid (Y3 ga o gb (some ad) n c U 1 H HC.out g5.out f1 (by omega) hcn);rw [h3.out] at HW;refine so ?_;go_wp2_with fail
       refine HW.out.mono ?_;rintro _ w9 ⟨rfl,V⟩;exact hK.out _ _ rfl V
      case p2 =>
       intro x wx A rest i b l H K a;have i7:=tq b 1;have hK:=hid a;clear a i b;refine so ?_;go_step;exact hK.out _ _ rfl H
      case p3 =>
       intro x wx A rest i b l H K a;have i8:=tq b 2;have hK:=hid a;clear a i b;have cc:=l _ LV.out _ _ H;refine so ?_;go_step;exact hK.out _ _ rfl H
      case p4 =>
       intro x wx A rest i b l H K a;have e8:A.tmps[8]?.getD undef=.pointer (some ⟨I,0,none⟩):=Zs i (8,_) (by simp);have hK:=hid a;clear a i b;have cc:=l _ LF.out _ _ H;refine so ?_;go_step;exact hK.out _ _ rfl H
      case p5 =>
       intro x wx A rest i b l H K a;have o0:=tq b 4;replace H:Sp w0 (_::_::rest) wx:=H;have hK:Hid (∀(v:Value) (w' : World),(True)->Sp w0 ((Nx (some ad) n c B ([s]) v)::(Bk ga 3 [.int .i64 R])::(Bk o 4 [.bool b3])::rest) w'->K (A.put (some 32) v) w'):=hid a;clear a i b;have HC:=hid (l _ LC.out);clear l;have HW:=hid (ZS ga o gb (some ad) n c B ⟨U+1,false⟩ 1 H HC.out N.out n5.out (by decide) (by omega) hcn a7.out);rw [h1.out] at HW;refine so ?_;go_wp2_with fail
       refine HW.out.mono ?_;rintro _ w9 ⟨v9,rfl,V⟩;exact hK.out _ _ trivial V
      case p6 =>
       intro x wx A rest i b l H K a;have o1:True:=(b 5 (by decide)).1;have e7:=(b 5 (by decide)).2 32 rfl;replace H:Sp w0 ((Nx (some ad) n c B ([s]) (x 5))::_::_::rest) wx:=H;have hK:Hid (∀(v:Value) (w' : World),(∃g d,(x 5)=.slice (some g) 1 d/\v=.pointer (some g))->Sp w0 ((Nx (some ad) n c B ([s]) (x 5))::(Bk ga 3 [.int .i64 R])::(Bk o 4 [.bool b3])::rest) w'->K (A.put (some 33) v) w'):=hid a;clear a i b;obtain⟨A9,d9,C,e3,e4,F⟩:=Nx.form H (fun _ _ q=>l _ LB.out _ _ (q.pick 2 []));obtain⟨W,rfl,c9⟩:=F (by unfold cells8; simp);have l0:=e7.trans C;have e5:=hid C;clear e7 C l c9 F;refine so ?_;go_step;exact hK.out _ _ ⟨W,d9,e5.out,rfl⟩ H
      case p7 =>
       intro x wx A rest i b l H K a;have i9:∃g d,(x 5)=.slice (some g) 1 d/\(x 6)=.pointer (some g):=(b 6 (by decide)).1;have f0:=(b 6 (by decide)).2 33 rfl;replace H:Sp w0 ((Nx (some ad) n c B ([s]) (x 5))::_::_::rest) wx:=H;have hK:=hid a;clear a i b;obtain⟨A9,d9,C,e3,e4,F⟩:=Nx.form H (fun _ _ q=>l _ LB.out _ _ (q.pick 2 []));obtain⟨W,rfl,c9⟩:=F (by unfold cells8; simp);obtain⟨g9,d8,a9,b0⟩:=i9;rw [C] at a9;injection a9 with e81 e82 e83
       injection e81 with e81
       subst e81;have cc:wx.cell? W=some (.int .u8 s.toNat):=c9 0 _ rfl;have l1:=f0.trans b0;clear f0 b0 C l c9 F e82 e83;refine so ?_;go_step;exact hK.out _ _ rfl H.tail
      case p9 =>
       intro x wx A rest i b l H K a;have o2:=tq b 8;have o3:=tq b 3;replace H:Sp w0 (_::rest) wx:=H;have hK:=hid a;clear a i b l;have z:=H.frozen 0 rfl 1;have t:=H.cell 0 rfl 1;refine so ?_;go_step;exact hK.out _ _ rfl (H.set 1 (.int .u8 y.toNat))
      case p11 =>
       intro x wx A rest i b l H K a;have o4:=tq b 10;have o5:=tq b 7;replace H:Sp w0 (_::rest) wx:=H;have hK:=hid a;clear a i b l;have z:=H.frozen 0 rfl 2;have t:=H.cell 0 rfl 2;refine so ?_;go_step;exact hK.out _ _ rfl (H.set 2 (.int .u8 s.toNat))
     case hend =>
      intro x wx A hA b H;replace H:Sp w0 (_::_::_::_::_::_::L) wx:=H;clear b;simp only [putAll,Act.put,List.setIfInBounds_toArray,List.set_cons_succ,List.set_cons_zero,Nat.reduceAdd] at hA;subst hA;have K7:=hid H;clear H;go_wp2_with fail
      go_meet
      exact⟨rfl,K7.out⟩
   case rest =>
    obtain⟨rfl,O⟩:=hcut;replace O:Sp w0 (Bk ga 3 [.int .i64 R]::Bk o 4 [.bool b3]::Bk r 28 [.int .u8 f.toNat,.int .u8 y.toNat,.int .u8 s.toNat,.int .u32 D,.slice none 0 0,.string ⟨#[]⟩,.string ⟨#[]⟩]::Bk I 118 [.func (.func 62) #[] #[.pointer (some ⟨o,0,none⟩),.pointer (some ⟨gb,0,none⟩),.pointer (some ⟨ga,0,none⟩)]]::Bk p 28 [.int .u8 0,.int .u8 0,.int .u8 0,.int .u32 0,.slice none 0 0,.string ⟨#[]⟩,.string ⟨#[]⟩]::Bk gb 23 [.slice (some ad) n c]::L) wc:=O;obtain⟨⟨C,⟨a4,b4⟩⟩,j0⟩:∃q,PG.exR B f ⟨R,b3⟩=q:=⟨_,rfl⟩;obtain⟨E,l2⟩:=exq C.length;have l3:a4<=n:=by have:=UV B f ⟨R,b3⟩ (by rw [N.out]; exact e0.out); rw [j0,N.out] at this; exact this
    have l4:=hid l3;have j1:=hid j0;have f3:=hid l2;clear j0 l2 l3;have J:=O;clear O;have c0:wc.cell? ⟨r,0,none⟩=some (.int .u8 f.toNat):=J.cell 2 rfl 0;have c1:wc.cell? ⟨r,1,none⟩=some (.int .u8 y.toNat):=J.cell 2 rfl 1;have c2:wc.cell? ⟨r,2,none⟩=some (.int .u8 s.toNat):=J.cell 2 rfl 2;have c3:wc.cell? ⟨r,3,none⟩=some (.int .u32 D):=J.cell 2 rfl 3;have c4:wc.cell? ⟨r,4,none⟩=some (.slice none 0 0):=J.cell 2 rfl 4;have c5:wc.cell? ⟨r,5,none⟩=some (.string ⟨#[]⟩):=J.cell 2 rfl 5;have c6:wc.cell? ⟨r,6,none⟩=some (.string ⟨#[]⟩):=J.cell 2 rfl 6;have X:=hid (ZN ⟨f,y,s,D,[],[],[]⟩ (.slice none 0 0) 4 (by omega) J);go_wp2_with fail
    refine X.out.mono ?_;rintro _ w5 ⟨rfl,O⟩;clear X J c0 c1 c2 c3 c4 c5 c6;obtain⟨f4,j2⟩:=exq (PG.has f 4);simp only [j2];have l5:=hid j2;clear j2
    
    go_upto_if 38 with (fail)
    go_cut [5] from 37 (fun s5 wx=>s5=.int .i64 0/\∃A0 ce,Sp w0 (Row 5 1 (.slice A0 E ce) E (cells8 C)::Bk ga 3 [.int .i64 a4]::Bk o 4 [.bool b4]::Bk r 28 [.int .u8 f.toNat,.int .u8 y.toNat,.int .u8 s.toNat,.int .u32 D,.slice A0 E ce,.string ⟨#[]⟩,.string ⟨#[]⟩]::Bk I 118 [.func (.func 62) #[] #[.pointer (some ⟨o,0,none⟩),.pointer (some ⟨gb,0,none⟩),.pointer (some ⟨ga,0,none⟩)]]::Bk p 28 [.int .u8 0,.int .u8 0,.int .u8 0,.int .u32 0,.slice none 0 0,.string ⟨#[]⟩,.string ⟨#[]⟩]::Bk gb 23 [.slice (some ad) n c]::L) wx)
    case first =>
     cases f4 with
     | false =>
      have e:(C,(⟨a4,b4⟩:PG.S))=([],⟨R,b3⟩):=by rw [<- j1.out]; unfold PG.exR; rw [l5.out]; rfl
      injection e with p1 p2
      injection p2 with p3 p4
      subst p1 p3 p4;have o7:E=0:=f3.out.symm;subst o7;have S:=hid (O.rowNil 5 1);clear O;go_wp2_with fail
      go_meet
      exact⟨rfl,none,0,S.out⟩
     | true =>
      obtain⟨⟨u1,⟨g1,d1⟩⟩,f5⟩:∃q,PG.next B ⟨R,b3⟩ 2=q:=⟨_,rfl⟩;have l6:u1.length<=2:=by have:=Yr B ⟨R,b3⟩ 2; rw [f5] at this; exact this
      have l7:g1<=n:=by have:=ZO B ⟨R,b3⟩ 2 (by rw [N.out]; exact e0.out); rw [f5,N.out] at this; exact this
      obtain⟨d4,d2⟩:=exq (PG.num u1);have t4:d4<65536:=by
       have:=PG.num_lt u1;rw [d2] at this;have h9:256 ^ u1.length<=256 ^ 2:=Nat.pow_le_pow_right (by decide) l6;omega
      have j3:PG.next B ⟨g1,d1⟩ d4=(C,⟨a4,b4⟩):=by rw [<- j1.out]; unfold PG.exR; rw [if_pos l5.out,f5,d2]
      have t5:E<=65535:=by have:=Yr B ⟨g1,d1⟩ d4; rw [j3,f3.out] at this; omega
      have o8:=hid f5;have o9:=hid j3;have q7:=hid (show u1.length<=4 by omega);have q8:=hid l7;have l8:=hid d2;clear f5 j3 l6 l7 d2;go_wp2_with fail
      refine Zr (L:=Bk I 118 [.func (.func 62) #[] #[.pointer (some ⟨o,0,none⟩),.pointer (some ⟨gb,0,none⟩),.pointer (some ⟨ga,0,none⟩)]]::Bk p 28 [.int .u8 0,.int .u8 0,.int .u8 0,.int .u32 0,.slice none 0 0,.string ⟨#[]⟩,.string ⟨#[]⟩]::Bk gb 23 [.slice (some ad) n c]::L) [some (.func (.func 62) #[] #[.pointer (some ⟨o,0,none⟩),.pointer (some ⟨gb,0,none⟩),.pointer (some ⟨ga,0,none⟩)]),some (.func (.func 62) #[] #[.pointer (some ⟨o,0,none⟩),.pointer (some ⟨gb,0,none⟩),.pointer (some ⟨ga,0,none⟩)]),none,some (.int .u32 d4),some (.int .i64 d4),none,none,some (.pointer (some ⟨r,4,none⟩)),some (undef)] (fun _ _ _=>True) (fun ix ux vx=>match ix with | 2=>(fun vv=>[Nx (some ad) n c B (u1) vv,Bk ga 3 [.int .i64 g1],Bk o 4 [.bool d1]]) vx | 3=>(fun _=>[Bk ga 3 [.int .i64 g1],Bk o 4 [.bool d1]]) vx | 5=>(fun vv=>[Nx (some ad) n c B (C) vv,Bk ga 3 [.int .i64 a4],Bk o 4 [.bool b4]]) vx | 6=>(fun vv=>[Row 5 1 vv E (cells8 C),Bk ga 3 [.int .i64 a4],Bk o 4 [.bool b4]]) vx | 8=>(fun _=>[Bk r 28 [.int .u8 f.toNat,.int .u8 y.toNat,.int .u8 s.toNat,.int .u32 D,ux,.string ⟨#[]⟩,.string ⟨#[]⟩],Row 5 1 ux E (cells8 C),Bk ga 3 [.int .i64 a4],Bk o 4 [.bool b4]]) vx | _=>[]) (fun ix=>match ix with | 2=>[Bk ga 3 [.int .i64 R],Bk o 4 [.bool b3]] | 8=>[Bk r 28 [.int .u8 f.toNat,.int .u8 y.toNat,.int .u8 s.toNat,.int .u32 D,.slice none 0 0,.string ⟨#[]⟩,.string ⟨#[]⟩]] | _=>[]) 9 83
       [some 39,some 40,some 41,some 42,some 43,some 44,some 45,some 46,none]
       [[],[],[1],[2,2],[3],[0,4,3],[5,5],[0,1,2,3,4,5,6],[7,6,6,0,1,2,3,4,5,6]]
       [[],[],[1],[1,2],[1,2,3],[0,1,2,3,4],[0,1,2,3,4,5],[0,1,2,3,4,5,6],[0,1,2,3,4,5,6,7]]
       [[],[],[],[2],[],[3],[5],[],[6]] [[],[],[],[],[],[],[],[],[]] [none,none,none,none,none,none,none,none,some 6] [(8,.pointer (some ⟨I,0,none⟩)),(10,.pointer (some ⟨r,0,none⟩))]
       (by kernel_rfl) rfl (by decide) (by rfl) (by decide +kernel) rfl (by simp) (by rfl) ((O.pick 3 [0,1,2])) ?hstep ?hend
      case hstep =>
       refine⟨?p0,⟨?p1,⟨?p2,⟨?p3,⟨?p4,⟨?p5,⟨?p6,⟨?p7,⟨?p8,trivial⟩⟩⟩⟩⟩⟩⟩⟩⟩
       case p4 | p7 =>
        intro x wx A rest i b l H K hK;replace hK:=hid hK;clear b l;repeat (obtain⟨_,i⟩:=i)
        refine so ?_;go_step;exact hK.out _ _ rfl H
       case p0 =>
        intro x wx A rest i b l H K a;have e8:A.tmps[8]?.getD undef=.pointer (some ⟨I,0,none⟩):=Zs i (8,_) (by simp);have hK:=hid a;clear a i b;have cc:=l _ LF.out _ _ H;refine so ?_;go_step;exact hK.out _ _ rfl H
       case p1 =>
        intro x wx A rest i b l H K a;have e8:A.tmps[8]?.getD undef=.pointer (some ⟨I,0,none⟩):=Zs i (8,_) (by simp);have hK:=hid a;clear a i b;have cc:=l _ LF.out _ _ H;refine so ?_;go_step;exact hK.out _ _ rfl H
       case p2 =>
        intro x wx A rest i b l H K a;have t6:=tq b 1;replace H:Sp w0 (_::_::rest) wx:=H;have hK:Hid (∀(v:Value) (w' : World),(True)->Sp w0 ((Nx (some ad) n c B (u1) v)::(Bk ga 3 [.int .i64 g1])::(Bk o 4 [.bool d1])::rest) w'->K (A.put (some 41) v) w'):=hid a;clear a i b;have HC:=hid (l _ LC.out);clear l;have HW:=hid (ZS ga o gb (some ad) n c B ⟨R,b3⟩ 2 H HC.out N.out e0.out (by decide) (by omega) hcn a7.out);rw [o8.out] at HW;refine so ?_;go_wp2_with fail
        refine HW.out.mono ?_;rintro _ w9 ⟨v9,rfl,V⟩;exact hK.out _ _ trivial V
       case p3 =>
        intro x wx A rest i b l H K a;have t7:True:=(b 2 (by decide)).1;have t8:=(b 2 (by decide)).2 41 rfl;replace H:Sp w0 ((Nx (some ad) n c B (u1) (x 2))::_::_::rest) wx:=H;have hK:=hid a;clear a i b;have HC:=hid (Nx.byt H (fun _ _ q=>l _ LB.out _ _ (q.pick 2 [])));clear l;refine so ?_;go_wp2_with fail
        refine(YI H HC.out q7.out).mono ?_;rw [l8.out];rintro _ w9 ⟨rfl,V⟩;exact hK.out _ _ rfl V.tail
       case p5 =>
        intro x wx A rest i b l H K a;have u0:=tq b 0;have u3:=tq b 4;replace H:Sp w0 (_::_::rest) wx:=H;have hK:Hid (∀(v:Value) (w' : World),(True)->Sp w0 ((Nx (some ad) n c B (C) v)::(Bk ga 3 [.int .i64 a4])::(Bk o 4 [.bool b4])::rest) w'->K (A.put (some 44) v) w'):=hid a;clear a i b;have HC:=hid (l _ LC.out);clear l;have HW:=hid (ZS ga o gb (some ad) n c B ⟨g1,d1⟩ d4 H HC.out N.out q8.out (by omega) (by omega) hcn a7.out);rw [o9.out] at HW;refine so ?_;go_wp2_with fail
        refine HW.out.mono ?_;rintro _ w9 ⟨v9,rfl,V⟩;exact hK.out _ _ trivial V
       case p6 =>
        intro x wx A rest i b l H K a;have u4:True:=(b 5 (by decide)).1;have u5:=(b 5 (by decide)).2 44 rfl;replace H:Sp w0 ((Nx (some ad) n c B (C) (x 5))::_::_::rest) wx:=H;have hK:Hid (∀(v:Value) (w' : World),(True)->Sp w0 ((Row 5 1 v E (cells8 C))::(Bk ga 3 [.int .i64 a4])::(Bk o 4 [.bool b4])::rest) w'->K (A.put (some 45) v) w'):=hid a;clear a i b;have HC:=hid (Nx.byt H (fun _ _ q=>l _ LB.out _ _ (q.pick 2 [])));clear l;refine so ?_;go_wp2_with fail
        refine(VU H HC.out (by rw [f3.out]; omega)).mono ?_;rw [f3.out];rintro _ w9 ⟨v9,rfl,V⟩;exact hK.out _ _ trivial (V.pick 2 [0])
       case p8 =>
        intro x wx A rest i b l H K a;have u6:=tq b 7;have u7:True:=(b 6 (by decide)).1;have q9:=(b 6 (by decide)).2 45 rfl;replace H:Sp w0 (_::(Row 5 1 (x 6) E (cells8 C))::_::_::rest) wx:=H;have hK:Hid (∀(v:Value) (w' : World),(v=undef)->Sp w0 ((Bk r 28 [.int .u8 f.toNat,.int .u8 y.toNat,.int .u8 s.toNat,.int .u32 D,(x 6),.string ⟨#[]⟩,.string ⟨#[]⟩])::(Row 5 1 (x 6) E (cells8 C))::(Bk ga 3 [.int .i64 a4])::(Bk o 4 [.bool b4])::rest) w'->K (A.put none v) w'):=hid a;clear a i b l;obtain⟨A0,ce,h5,_,_⟩:=Row.form H 1 rfl;rw [h5] at hK H q9;have z:=H.frozen 0 rfl 4;have t:=H.cell 0 rfl 4;refine so ?_;go_step;exact hK.out _ _ rfl (H.set 4 (.slice A0 E ce))
      case hend =>
       intro x wx A hA b H;replace H:Sp w0 ((Bk r 28 [.int .u8 f.toNat,.int .u8 y.toNat,.int .u8 s.toNat,.int .u32 D,(x 6),.string ⟨#[]⟩,.string ⟨#[]⟩])::(Row 5 1 (x 6) E (cells8 C))::_::_::_::_::_::L) wx:=H;clear b;simp only [putAll,Act.put,List.setIfInBounds_toArray,List.set_cons_succ,List.set_cons_zero,Nat.reduceAdd] at hA;subst hA;obtain⟨A0,ce,h5,_,_⟩:=Row.form H 1 rfl;rw [h5] at H;have K7:=hid H;clear H h5;go_wp2_with fail
       go_meet
       exact⟨rfl,A0,ce,K7.out.pick 4 [1,2,3,0]⟩
    case rest =>
     obtain⟨rfl,A0,ce,J⟩:=hcut;obtain⟨⟨Y,⟨a5,b5⟩⟩,b9⟩:∃q,PG.txR B f 8 ⟨a4,b4⟩=q:=⟨_,rfl⟩;have l9:a5<=n:=by have:=Wm B f 8 ⟨a4,b4⟩ (by rw [N.out]; exact l4.out); rw [b9,N.out] at this; exact this
     have f6:=hid b9;have m0:=hid l9;clear b9 l9;have c0:wc.cell? ⟨r,0,none⟩=some (.int .u8 f.toNat):=J.cell 3 rfl 0;have c1:wc.cell? ⟨r,1,none⟩=some (.int .u8 y.toNat):=J.cell 3 rfl 1;have c2:wc.cell? ⟨r,2,none⟩=some (.int .u8 s.toNat):=J.cell 3 rfl 2;have c3:wc.cell? ⟨r,3,none⟩=some (.int .u32 D):=J.cell 3 rfl 3;have c4:wc.cell? ⟨r,4,none⟩=some (.slice A0 E ce):=J.cell 3 rfl 4;have c5:wc.cell? ⟨r,5,none⟩=some (.string ⟨#[]⟩):=J.cell 3 rfl 5;have c6:wc.cell? ⟨r,6,none⟩=some (.string ⟨#[]⟩):=J.cell 3 rfl 6;have X:=hid (ZN ⟨f,y,s,D,C,[],[]⟩ (.slice A0 E ce) 8 (by omega) J);go_wp2_with fail
     refine X.out.mono ?_;rintro _ w5 ⟨rfl,O⟩;clear X J c0 c1 c2 c3 c4 c5 c6;obtain⟨f8,j4⟩:=exq (PG.has f 8);simp only [j4];have m1:=hid j4;clear j4
     
     go_upto_if 48 with (fail)
     go_cut [5] from 47 (fun s5 wx=>s5=.int .i64 0/\∃A0 ce,Sp w0 (Row 5 1 (.slice A0 E ce) E (cells8 C)::Bk ga 3 [.int .i64 a5]::Bk o 4 [.bool b5]::Bk r 28 [.int .u8 f.toNat,.int .u8 y.toNat,.int .u8 s.toNat,.int .u32 D,.slice A0 E ce,.string (strOf Y),.string ⟨#[]⟩]::Bk I 118 [.func (.func 62) #[] #[.pointer (some ⟨o,0,none⟩),.pointer (some ⟨gb,0,none⟩),.pointer (some ⟨ga,0,none⟩)]]::Bk p 28 [.int .u8 0,.int .u8 0,.int .u8 0,.int .u32 0,.slice none 0 0,.string ⟨#[]⟩,.string ⟨#[]⟩]::Bk gb 23 [.slice (some ad) n c]::L) wx)
     case first =>
      cases f8 with
      | false =>
       have e:(Y,(⟨a5,b5⟩:PG.S))=([],⟨a4,b4⟩):=by rw [<- f6.out]; unfold PG.txR; rw [m1.out]; rfl
       injection e with p1 p2
       injection p2 with p3 p4
       subst p1 p3 p4;have S:=hid O;clear O;go_wp2_with fail
       go_meet
       exact⟨rfl,A0,ce,S.out⟩
      | true =>
       have f7:PG.text B ⟨a4,b4⟩=(Y,⟨a5,b5⟩):=by rw [<- f6.out]; unfold PG.txR; rw [if_pos m1.out]
       have X:=hid (XL ga o gb I (some ad) n c B ⟨a4,b4⟩ (O.pick 4 [1,2,0,3]) (fun _ _ q=>LC.out _ _ (q.pick 2 [])) (fun _ _ q=>LF.out _ _ (q.pick 2 [])) (fun _ _ q=>LB.out _ _ (q.pick 2 [])) N.out l4.out hnm hcn a7.out);rw [f7] at X;clear f7 O;go_wp2_with fail
       refine X.out.mono ?_;rintro _ w6 ⟨rfl,S⟩;clear X;have z9:w6.frozen? ⟨r,5,none⟩=false:=S.frozen 3 rfl 5;have t9:w6.cell? ⟨r,5,none⟩=some (.string ⟨#[]⟩):=S.cell 3 rfl 5;have K7:=hid ((S.pick 4 [3,0,1,2]).set 5 (.string (strOf Y)));clear S;go_wp2_with fail
       go_meet
       exact⟨rfl,A0,ce,K7.out.pick 4 [3,1,2,0]⟩
     case rest =>
      obtain⟨rfl,A0,ce,J⟩:=hcut;obtain⟨⟨nt,⟨a6,b6⟩⟩,b9⟩:∃q,PG.txR B f 16 ⟨a5,b5⟩=q:=⟨_,rfl⟩;have h6:a6<=n:=by have:=Wm B f 16 ⟨a5,b5⟩ (by rw [N.out]; exact m0.out); rw [b9,N.out] at this; exact this
      have f9:=hid b9;have m2:=hid h6;clear b9 h6;have c0:wc.cell? ⟨r,0,none⟩=some (.int .u8 f.toNat):=J.cell 3 rfl 0;have c1:wc.cell? ⟨r,1,none⟩=some (.int .u8 y.toNat):=J.cell 3 rfl 1;have c2:wc.cell? ⟨r,2,none⟩=some (.int .u8 s.toNat):=J.cell 3 rfl 2;have c3:wc.cell? ⟨r,3,none⟩=some (.int .u32 D):=J.cell 3 rfl 3;have c4:wc.cell? ⟨r,4,none⟩=some (.slice A0 E ce):=J.cell 3 rfl 4;have c5:wc.cell? ⟨r,5,none⟩=some (.string (strOf Y)):=J.cell 3 rfl 5;have c6:wc.cell? ⟨r,6,none⟩=some (.string ⟨#[]⟩):=J.cell 3 rfl 6;have X:=hid (ZN ⟨f,y,s,D,C,Y,[]⟩ (.slice A0 E ce) 16 (by omega) J);go_wp2_with fail
      refine X.out.mono ?_;rintro _ w5 ⟨rfl,O⟩;clear X J c0 c1 c2 c3 c4 c5 c6;obtain⟨r7,g0⟩:=exq (PG.has f 16);simp only [g0];have i1:=hid g0;clear g0
      
      go_upto_if 53 with (fail)
      go_cut [5] from 52 (fun s5 wx=>s5=.int .i64 0/\∃A0 ce,Sp w0 (Row 5 1 (.slice A0 E ce) E (cells8 C)::Bk ga 3 [.int .i64 a6]::Bk o 4 [.bool b6]::Bk r 28 [.int .u8 f.toNat,.int .u8 y.toNat,.int .u8 s.toNat,.int .u32 D,.slice A0 E ce,.string (strOf Y),.string (strOf nt)]::Bk I 118 [.func (.func 62) #[] #[.pointer (some ⟨o,0,none⟩),.pointer (some ⟨gb,0,none⟩),.pointer (some ⟨ga,0,none⟩)]]::Bk p 28 [.int .u8 0,.int .u8 0,.int .u8 0,.int .u32 0,.slice none 0 0,.string ⟨#[]⟩,.string ⟨#[]⟩]::Bk gb 23 [.slice (some ad) n c]::L) wx)
      case first =>
       cases r7 with
       | false =>
        have e:(nt,(⟨a6,b6⟩:PG.S))=([],⟨a5,b5⟩):=by rw [<- f9.out]; unfold PG.txR; rw [i1.out]; rfl
        injection e with p1 p2
        injection p2 with p3 p4
        subst p1 p3 p4;have S:=hid O;clear O;go_wp2_with fail
        go_meet
        exact⟨rfl,A0,ce,S.out⟩
       | true =>
        have f7:PG.text B ⟨a5,b5⟩=(nt,⟨a6,b6⟩):=by rw [<- f9.out]; unfold PG.txR; rw [if_pos i1.out]
        have X:=hid (XL ga o gb I (some ad) n c B ⟨a5,b5⟩ (O.pick 4 [1,2,0,3]) (fun _ _ q=>LC.out _ _ (q.pick 2 [])) (fun _ _ q=>LF.out _ _ (q.pick 2 [])) (fun _ _ q=>LB.out _ _ (q.pick 2 [])) N.out m0.out hnm hcn a7.out);rw [f7] at X;clear f7 O;go_wp2_with fail
        refine X.out.mono ?_;rintro _ w6 ⟨rfl,S⟩;clear X;have z9:w6.frozen? ⟨r,6,none⟩=false:=S.frozen 3 rfl 6;have t9:w6.cell? ⟨r,6,none⟩=some (.string ⟨#[]⟩):=S.cell 3 rfl 6;have K7:=hid ((S.pick 4 [3,0,1,2]).set 6 (.string (strOf nt)));clear S;go_wp2_with fail
        go_meet
        exact⟨rfl,A0,ce,K7.out.pick 4 [3,1,2,0]⟩
      case rest =>
       obtain⟨rfl,A0,ce,J⟩:=hcut;obtain⟨⟨zt,⟨a8,b8⟩⟩,j5⟩:∃q,(if PG.has f 2=true then PG.next B ⟨a6,b6⟩ 2 else ([],⟨a6,b6⟩))=q:=⟨_,rfl⟩;obtain⟨d5,h7⟩:=exq (PCrc.of (B.take a6));have m3:d5<4294967296:=by rw [<- h7]; exact PCrc.of_lt _
       have h8:Hid (T=if PG.has f 2=true/\PG.num zt≠d5 % 65536/\b8=false then .error 21 else if b8=true then .error 4 else .ok (⟨f,y,s,D,C,Y,nt⟩,a8)):=by
        rw [<- HT.out];unfold PG.head;rw [if_neg (by rw [d6.out]; decide)];simp only [HF.out,k1.out,h0.out,h1.out,j1.out,f6.out,f9.out,j5,h7,k5.out];exact hid rfl
       have m4:=hid j5;have r8:=hid h7;clear j5 h7;have c6:wc.cell? ⟨ga,0,none⟩=some (.int .i64 a6):=J.cell 1 rfl 0;have cb:wc.cell? ⟨gb,0,none⟩=some (.slice (some ad) n c):=LC.out _ _ (J.pick 4 []);have h6:=m2.out;have r9:(a6:Int)<=(c:Int):=by omega
       have KN:=J.newBk [.slice (some ad) a6 c] 23;have j6:=hid (Xa KN 0 rfl ((LB.out _ _ (KN.pick 5 [])).take a6 (by rw [N.out]; exact h6)) (m8.out _ _ (KN.pick 8 [])) (by rw [List.length_take]; omega));rw [r8.out] at j6;have s0:bits .and .u32 (d5:Int) 65535=((d5 % 65536:Nat):Int):=by
        have h:=u32_and_nat d5 65535 m3 (by decide);rw [show(65535:Nat)=2 ^ 16 - 1 by decide,Nat.and_two_pow_sub_one_eq_mod] at h;exact h
       obtain⟨sm,m5⟩:=exq (d5 % 65536);rw [m5] at s0 h8;clear m5 KN J;go_wp2_with fail
       refine j6.out.mono ?_;rintro _ w9 ⟨rfl,K9⟩;clear j6 c6 cb r9;replace K9:=K9.tail;go_upto_region 16 with (fail)
       go_cut [5,63] from 64 (fun s5 s63 wx=>s5=.int .i64 0/\s63=.bool (decide (PG.has f 2=true/\PG.num zt≠sm/\b8=false))/\Sp w0 (Row 5 1 (.slice A0 E ce) E (cells8 C)::Bk ga 3 [.int .i64 a8]::Bk o 4 [.bool b8]::Bk r 28 [.int .u8 f.toNat,.int .u8 y.toNat,.int .u8 s.toNat,.int .u32 D,.slice A0 E ce,.string (strOf Y),.string (strOf nt)]::Bk I 118 [.func (.func 62) #[] #[.pointer (some ⟨o,0,none⟩),.pointer (some ⟨gb,0,none⟩),.pointer (some ⟨ga,0,none⟩)]]::Bk p 28 [.int .u8 0,.int .u8 0,.int .u8 0,.int .u32 0,.slice none 0 0,.string ⟨#[]⟩,.string ⟨#[]⟩]::Bk gb 23 [.slice (some ad) n c]::L) wx)
       case first =>
        have c0:w9.cell? ⟨r,0,none⟩=some (.int .u8 f.toNat):=K9.cell 3 rfl 0;have c1:w9.cell? ⟨r,1,none⟩=some (.int .u8 y.toNat):=K9.cell 3 rfl 1;have c2:w9.cell? ⟨r,2,none⟩=some (.int .u8 s.toNat):=K9.cell 3 rfl 2;have c3:w9.cell? ⟨r,3,none⟩=some (.int .u32 D):=K9.cell 3 rfl 3;have c4:w9.cell? ⟨r,4,none⟩=some (.slice A0 E ce):=K9.cell 3 rfl 4;have c5:w9.cell? ⟨r,5,none⟩=some (.string (strOf Y)):=K9.cell 3 rfl 5;have c6:w9.cell? ⟨r,6,none⟩=some (.string (strOf nt)):=K9.cell 3 rfl 6;have X:=hid (ZN ⟨f,y,s,D,C,Y,nt⟩ (.slice A0 E ce) 2 (by omega) K9);clear K9;go_wp2_with fail
        refine X.out.mono ?_;rintro _ w5 ⟨rfl,O⟩;clear X c0 c1 c2 c3 c4 c5 c6;obtain⟨f2,c7⟩:=exq (PG.has f 2);simp only [c7];cases f2 with
        | false =>
         have e:=m4.out;rw [c7] at e;have e2:(zt,(⟨a8,b8⟩:PG.S))=([],⟨a6,b6⟩):=e.symm;injection e2 with p1 p2
         injection p2 with p3 p4
         subst p1 p3 p4;have HD:Hid (decide (PG.has f 2=true/\PG.num []≠sm/\b8=false)=false):=hid (decide_eq_false fun q=>by rw [c7] at q; cases q.1);have S:=hid O;clear O c7 e;go_wp2_with fail
         go_meet
         exact⟨rfl,congrArg Value.bool HD.out.symm,S.out⟩
        | true =>
         have j7:PG.next B ⟨a6,b6⟩ 2=(zt,⟨a8,b8⟩):=by have e:=m4.out; rw [if_pos c7] at e; exact e
         have X:=hid (ZS ga o gb (some ad) n c B ⟨a6,b6⟩ 2 (O.pick 4 [1,2,0,3]) (fun _ _ q=>LC.out _ _ (q.pick 2 [])) N.out m2.out (by decide) (by omega) hcn a7.out);rw [j7] at X;have cf:w5.cell? ⟨I,0,none⟩=some (.func (.func 62) #[] #[.pointer (some ⟨o,0,none⟩),.pointer (some ⟨gb,0,none⟩),.pointer (some ⟨ga,0,none⟩)]):=LF.out _ _ (O.pick 4 []);have m6:zt.length<=4:=by have:=Yr B ⟨a6,b6⟩ 2; rw [j7] at this; exact Nat.le_trans this (by decide)
         have s1:=hid c7;have s2:=hid m6;clear O c7 j7 m6;go_wp2_with fail
         refine X.out.mono ?_;rintro _ w6 ⟨v6,rfl,S⟩;clear X cf;have j8:=hid (YI S (Nx.byt S (fun _ _ q=>LB.out _ _ (q.pick 4 []))) s2.out);clear S;obtain⟨m,hm⟩:=exq (PG.num zt);have HM:=hid hm;rw [hm] at j8;clear hm;go_wp2_with fail
         refine j8.out.mono ?_;rintro _ w7 ⟨rfl,K7⟩;clear j8;have K8:=hid (K7.pick 5 [3,1,2,4]);have cs:w7.cell? ⟨o,0,none⟩=some (.bool b8):=K7.cell 2 rfl 0;clear K7;by_cases g2:m=sm
         ·have y1:(m:Int)=(sm:Int):=by omega
          have HD:Hid (decide (PG.has f 2=true/\PG.num zt≠sm/\b8=false)=false):=hid (decide_eq_false fun q=>q.2.1 (by rw [HM.out]; exact g2));clear g2;go_wp2_with fail
          go_meet
          exact⟨rfl,congrArg Value.bool HD.out.symm,K8.out⟩
         ·have y1:¬ (m:Int)=(sm:Int):=by omega
          cases b8 with
          | true =>
           have HD:Hid (decide (PG.has f 2=true/\PG.num zt≠sm/\true=false)=false):=hid (decide_eq_false fun q=>by cases q.2.2);clear g2;go_wp2_with fail
           go_meet
           exact⟨rfl,congrArg Value.bool HD.out.symm,K8.out⟩
          | false =>
           have HD:Hid (decide (PG.has f 2=true/\PG.num zt≠sm/\false=false)=true):=hid (decide_eq_true ⟨s1.out,by rw [HM.out]; exact g2,rfl⟩);have e9:Hid (((m:Int) != (sm:Int))=true):=hid (by rw [bne_iff_ne]; omega);clear g2;go_wp2_with fail
           go_meet
           exact⟨rfl,congrArg Value.bool (e9.out.trans HD.out.symm),K8.out⟩
       case rest =>
        obtain⟨rfl,rfl,M⟩:=hcut;obtain⟨bad,a0⟩:=exq (decide (PG.has f 2=true/\PG.num zt≠sm/\b8=false));rw [a0];cases bad with
        | true =>
         have b7:T=.error 21:=by rw [h8.out,if_pos (of_decide_eq_true a0)]
         have g3:=hid b7;clear b7 a0;have r0:wc.cell? ⟨p,0,none⟩=some (.int .u8 0):=M.cell 5 rfl 0;have q0:wc.frozen? ⟨p,0,none⟩=false:=M.frozen 5 rfl 0;have r1:wc.cell? ⟨p,1,none⟩=some (.int .u8 0):=M.cell 5 rfl 1;have q1:wc.frozen? ⟨p,1,none⟩=false:=M.frozen 5 rfl 1;have r2:wc.cell? ⟨p,2,none⟩=some (.int .u8 0):=M.cell 5 rfl 2;have q2:wc.frozen? ⟨p,2,none⟩=false:=M.frozen 5 rfl 2;have r3:wc.cell? ⟨p,3,none⟩=some (.int .u32 0):=M.cell 5 rfl 3;have q3:wc.frozen? ⟨p,3,none⟩=false:=M.frozen 5 rfl 3;have r4:wc.cell? ⟨p,4,none⟩=some (.slice none 0 0):=M.cell 5 rfl 4;have q4:wc.frozen? ⟨p,4,none⟩=false:=M.frozen 5 rfl 4;have r5:wc.cell? ⟨p,5,none⟩=some (.string ⟨#[]⟩):=M.cell 5 rfl 5;have q5:wc.frozen? ⟨p,5,none⟩=false:=M.frozen 5 rfl 5;have r6:wc.cell? ⟨p,6,none⟩=some (.string ⟨#[]⟩):=M.cell 5 rfl 6;have q6:wc.frozen? ⟨p,6,none⟩=false:=M.frozen 5 rfl 6;go_wp2_with fail
         have KF:=(((((((M.pick 7 [5,0,1,2,3,4,6]).set 0 (.int .u8 0)).set 1 (.int .u8 0)).set 2 (.int .u8 0)).set 3 (.int .u32 0)).set 4 (.slice none 0 0)).set 5 (.string ⟨#[]⟩)).set 6 (.string ⟨#[]⟩);refine bodyPost_ret (Z5 rfl _ rfl (Zl KF 0 rfl) Tryz.isAgg28 Tryz.sizeOf28) rfl ?_;exact HEnd.no g3.out (KF.pick 7 [])
        | false =>
         have i0:=of_decide_eq_false a0;have cs:wc.cell? ⟨o,0,none⟩=some (.bool b8):=M.cell 2 rfl 0;cases b8 with
         | true =>
          have b7:T=.error 4:=by rw [h8.out,if_neg i0,if_pos rfl]
          have g3:=hid b7;clear b7 a0 i0;have r0:wc.cell? ⟨p,0,none⟩=some (.int .u8 0):=M.cell 5 rfl 0;have q0:wc.frozen? ⟨p,0,none⟩=false:=M.frozen 5 rfl 0;have r1:wc.cell? ⟨p,1,none⟩=some (.int .u8 0):=M.cell 5 rfl 1;have q1:wc.frozen? ⟨p,1,none⟩=false:=M.frozen 5 rfl 1;have r2:wc.cell? ⟨p,2,none⟩=some (.int .u8 0):=M.cell 5 rfl 2;have q2:wc.frozen? ⟨p,2,none⟩=false:=M.frozen 5 rfl 2;have r3:wc.cell? ⟨p,3,none⟩=some (.int .u32 0):=M.cell 5 rfl 3;have q3:wc.frozen? ⟨p,3,none⟩=false:=M.frozen 5 rfl 3;have r4:wc.cell? ⟨p,4,none⟩=some (.slice none 0 0):=M.cell 5 rfl 4;have q4:wc.frozen? ⟨p,4,none⟩=false:=M.frozen 5 rfl 4;have r5:wc.cell? ⟨p,5,none⟩=some (.string ⟨#[]⟩):=M.cell 5 rfl 5;have q5:wc.frozen? ⟨p,5,none⟩=false:=M.frozen 5 rfl 5;have r6:wc.cell? ⟨p,6,none⟩=some (.string ⟨#[]⟩):=M.cell 5 rfl 6;have q6:wc.frozen? ⟨p,6,none⟩=false:=M.frozen 5 rfl 6;go_wp2_with fail
          have KF:=(((((((M.pick 7 [5,0,1,2,3,4,6]).set 0 (.int .u8 0)).set 1 (.int .u8 0)).set 2 (.int .u8 0)).set 3 (.int .u32 0)).set 4 (.slice none 0 0)).set 5 (.string ⟨#[]⟩)).set 6 (.string ⟨#[]⟩);refine bodyPost_ret (Z5 rfl _ rfl (Zl KF 0 rfl) Tryz.isAgg28 Tryz.sizeOf28) rfl ?_;exact HEnd.no g3.out (KF.pick 7 [])
         | false =>
          have i2:T=.ok (⟨f,y,s,D,C,Y,nt⟩,a8):=by rw [h8.out,if_neg i0,if_neg (by decide)]
          have m7:=hid i2;have LA:Hid (Ent (Row 5 1 (.slice A0 E ce) E (cells8 C)::Bk ga 3 [.int .i64 a8]::Bk o 4 [.bool false]::Bk r 28 [.int .u8 f.toNat,.int .u8 y.toNat,.int .u8 s.toNat,.int .u32 D,.slice A0 E ce,.string (strOf Y),.string (strOf nt)]::Bk I 118 [.func (.func 62) #[] #[.pointer (some ⟨o,0,none⟩),.pointer (some ⟨gb,0,none⟩),.pointer (some ⟨ga,0,none⟩)]]::Bk gb 23 [.slice (some ad) n c]::L) fun w=>w.cell? ⟨ga,0,none⟩=some (.int .i64 a8)):=hid fun _ _ q=>q.cell 1 rfl 0;have LH:Hid (Ent (Row 5 1 (.slice A0 E ce) E (cells8 C)::Bk ga 3 [.int .i64 a8]::Bk o 4 [.bool false]::Bk r 28 [.int .u8 f.toNat,.int .u8 y.toNat,.int .u8 s.toNat,.int .u32 D,.slice A0 E ce,.string (strOf Y),.string (strOf nt)]::Bk I 118 [.func (.func 62) #[] #[.pointer (some ⟨o,0,none⟩),.pointer (some ⟨gb,0,none⟩),.pointer (some ⟨ga,0,none⟩)]]::Bk gb 23 [.slice (some ad) n c]::L) fun w=>∀j v,([.int .u8 f.toNat,.int .u8 y.toNat,.int .u8 s.toNat,.int .u32 D,.slice A0 E ce,.string (strOf Y),.string (strOf nt)]:List Value)[j]?=some v->w.cell? ((⟨r,0,none⟩:Addr).add j)=some v):=hid fun _ _ q=>Zl q 3 rfl;replace M:=hid M;clear i2 a0 i0;go_wp2_with fail
          refine Zb (L:=Row 5 1 (.slice A0 E ce) E (cells8 C)::Bk ga 3 [.int .i64 a8]::Bk o 4 [.bool false]::Bk r 28 [.int .u8 f.toNat,.int .u8 y.toNat,.int .u8 s.toNat,.int .u32 D,.slice A0 E ce,.string (strOf Y),.string (strOf nt)]::Bk I 118 [.func (.func 62) #[] #[.pointer (some ⟨o,0,none⟩),.pointer (some ⟨gb,0,none⟩),.pointer (some ⟨ga,0,none⟩)]]::Bk gb 23 [.slice (some ad) n c]::L) [some (.agg #[.int .u8 f.toNat,.int .u8 y.toNat,.int .u8 s.toNat,.int .u32 D,.slice A0 E ce,.string (strOf Y),.string (strOf nt)]),some (.int .i64 a8),some (undef),some (.int .i64 a8),some (.int .i64 0)] (fun _ _=>True) (fun ix vx=>match ix with | 2=>(fun _=>[Bk p 28 [.int .u8 f.toNat,.int .u8 y.toNat,.int .u8 s.toNat,.int .u32 D,.slice A0 E ce,.string (strOf Y),.string (strOf nt)]]) vx | _=>[]) (fun ix=>match ix with | 2=>[Bk p 28 [.int .u8 0,.int .u8 0,.int .u8 0,.int .u32 0,.slice none 0 0,.string ⟨#[]⟩,.string ⟨#[]⟩]] | _=>[]) 5 83
           [some 81,some 82,none,some 3,some 4]
           [[],[],[0,0],[1,2,0,1,2],[3,0,1,2,3]]
           [[],[],[0],[0,1,2],[0,1,2,3]]
           [[],[],[],[],[]] [[],[],[],[],[]] [(2,.pointer (some ⟨p,0,none⟩)),(6,.pointer (some ⟨ga,0,none⟩)),(10,.pointer (some ⟨r,0,none⟩))]
           (by kernel_rfl) rfl (by decide) (by rfl) (by decide +kernel) rfl rfl (by simp) ((M.out.pick 7 [5,0,1,2,3,4,6])) ?hstep ?hend
          case hstep =>
           refine⟨?p0,⟨?p1,⟨?p2,⟨?p3,⟨?p4,trivial⟩⟩⟩⟩⟩
           case p3 | p4 =>
            intro x wx A rest c8 i b l H K hK;replace hK:=hid hK;clear b l c8;repeat (obtain⟨_,i⟩:=i)
            refine so ?_;go_step;exact hK.out _ _ rfl H
           case p0 =>
            intro x wx A rest c8 i b l H K a;have i4:A.tmps[10]?.getD undef=.pointer (some ⟨r,0,none⟩):=Zc i (10,_) (by simp) (by rfl);have hK:=hid a;clear a i b c8;have hc:=l _ LH.out _ _ H;refine so ?_;exact Ze 28 _ rfl _ [.int .u8 f.toNat,.int .u8 y.toNat,.int .u8 s.toNat,.int .u32 D,.slice A0 E ce,.string (strOf Y),.string (strOf nt)] (ev i4) hc Tryz.isAgg28 Tryz.sizeOf28 (hK.out _ _ rfl H)
           case p1 =>
            intro x wx A rest c8 i b l H K a;have e6:A.tmps[6]?.getD undef=.pointer (some ⟨ga,0,none⟩):=Zc i (6,_) (by simp) (by rfl);have hK:=hid a;clear a i b c8;have cc:=l _ LA.out _ _ H;refine so ?_;go_step;exact hK.out _ _ rfl H
           case p2 =>
            intro x wx A rest c8 i b l H K a;have e2:A.tmps[2]?.getD undef=.pointer (some ⟨p,0,none⟩):=Zc i (2,_) (by simp) (by rfl);have e81:=tq b 0;replace H:Sp w0 (_::rest) wx:=H;have hK:Hid (∀(v:Value) (w' : World),(v=undef)->Sp w0 ((Bk p 28 [.int .u8 f.toNat,.int .u8 y.toNat,.int .u8 s.toNat,.int .u32 D,.slice A0 E ce,.string (strOf Y),.string (strOf nt)])::rest) w'->K (A.put none v) w'):=hid a;clear a i b l c8;obtain⟨w9,d7,V⟩:=Xs (P:=Tryz.prog) [.int .u8 f.toNat,.int .u8 y.toNat,.int .u8 s.toNat,.int .u32 D,.slice A0 E ce,.string (strOf Y),.string (strOf nt)] 0 _ wx H (by show 0+7<=7; omega) (UW _ _ _ _ _ _ _ _ _);refine so ?_;exact Zm 28 _ _ rfl _ [.int .u8 f.toNat,.int .u8 y.toNat,.int .u8 s.toNat,.int .u32 D,.slice A0 E ce,.string (strOf Y),.string (strOf nt)] (ev e2) (ev e81) d7 Tryz.sizeOf28 (hK.out undef _ rfl V)
          case hend =>
           intro x wx A hA b H;replace H:Sp w0 (_::_::_::_::_::_::_::L) wx:=H;have y3:x 3=.int .i64 a8:=b 3 (by decide);have y4:x 4=.int .i64 0:=b 4 (by decide);clear b;simp only [putAll,Act.put,List.setIfInBounds_toArray,List.set_cons_succ,List.set_cons_zero,Nat.reduceAdd] at hA;subst hA;rw [y3,y4];clear y3 y4;have K7:=hid H;clear H;go_wp2_with fail
           refine bodyPost_ret (Z5 rfl _ rfl (Zl K7.out 0 rfl) Tryz.isAgg28 Tryz.sizeOf28) rfl ?_;exact HEnd.yes m7.out f3.out (K7.out.pick 7 [1])
 ·obtain⟨z,hz⟩:=exq (PG.begin_ B);rw [hz] at d3;rw [hz];have b7:T=.error z:=by rw [<- HT.out]; unfold PG.head; rw [hz,if_pos d3]
  have g3:=hid b7;have y1:¬ (z:Int)=0:=by omega
  clear hz b7 d3;have r0:G.cell? ⟨p,0,none⟩=some (.int .u8 0):=Z.cell 0 rfl 0;have q0:G.frozen? ⟨p,0,none⟩=false:=Z.frozen 0 rfl 0;have r1:G.cell? ⟨p,1,none⟩=some (.int .u8 0):=Z.cell 0 rfl 1;have q1:G.frozen? ⟨p,1,none⟩=false:=Z.frozen 0 rfl 1;have r2:G.cell? ⟨p,2,none⟩=some (.int .u8 0):=Z.cell 0 rfl 2;have q2:G.frozen? ⟨p,2,none⟩=false:=Z.frozen 0 rfl 2;have r3:G.cell? ⟨p,3,none⟩=some (.int .u32 0):=Z.cell 0 rfl 3;have q3:G.frozen? ⟨p,3,none⟩=false:=Z.frozen 0 rfl 3;have r4:G.cell? ⟨p,4,none⟩=some (.slice none 0 0):=Z.cell 0 rfl 4;have q4:G.frozen? ⟨p,4,none⟩=false:=Z.frozen 0 rfl 4;have r5:G.cell? ⟨p,5,none⟩=some (.string ⟨#[]⟩):=Z.cell 0 rfl 5;have q5:G.frozen? ⟨p,5,none⟩=false:=Z.frozen 0 rfl 5;have r6:G.cell? ⟨p,6,none⟩=some (.string ⟨#[]⟩):=Z.cell 0 rfl 6;have q6:G.frozen? ⟨p,6,none⟩=false:=Z.frozen 0 rfl 6;go_wp2_with fail
  have KF:=((((((Z.set 0 (.int .u8 0)).set 1 (.int .u8 0)).set 2 (.int .u8 0)).set 3 (.int .u32 0)).set 4 (.slice none 0 0)).set 5 (.string ⟨#[]⟩)).set 6 (.string ⟨#[]⟩);refine bodyPost_ret (Z5 rfl _ rfl (Zl KF 0 rfl) Tryz.isAgg28 Tryz.sizeOf28) rfl ?_;exact HEnd.no g3.out KF.tail2
end Go.Proofs.YtnjpnmpemhldcaaGreatDoor

