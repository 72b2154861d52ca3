/- A pack. -/
import Derived.Test.YtnjpnmpemhldcaaGreatDoorPk37
import Derived.Test.YtnjpnmpemhldcaaGreatDoorPk38
set_option linter.all false
set_option maxRecDepth 100000
set_option maxHeartbeats 8000000
namespace Go.Proofs.YtnjpnmpemhldcaaGreatDoor
variable {w0 w:World} {L:List Pr}
open Go.RowKit
theorem VY {v:Value} {l:List UInt8} (H:Sp w0 L w) (hb:Byt w v l) (hl:l.length<=1000000000) :
  Calls Tryz.prog 66 #[v] w (Ret fun v' w'=>Sp w0 (Row 5 1 v' l.length (cells8 l)::L) w'):=by
 obtain⟨A,c,rfl,d,q,j⟩:=hb;unfold maxLen at j;have k:=fun(W:World)=>Lib.run_eql_slice_nil (P:=Tryz.prog) W 23 5 A l.length c 0 0 Tryz.underlying23;have e:=hid d;cases A with
 | none =>
  have b:l=[]:=by
   rcases l with _ | ⟨x,l⟩
   ·rfl
   ·obtain⟨r,h,_⟩:=d (by simp [cells8]); cases h
  clear d;have m:=hid b;clear b;go_enter Tryz.func66,Tryz.ntmps66
  go_wp2;go_ret;obtain rfl:=m.out;exact⟨_,rfl,H.rowNil _ _⟩
 | some a =>
  clear d;go_enter Tryz.func66,Tryz.ntmps66
  obtain⟨n,o,f,g,i⟩:=info_parts info8;go_wp2_with (at_builtin; refine Za rfl _ _ 23 rfl 5 n (.int .u8 0) 1 1 Tryz.underlying23 o f g i rfl (by decide) (.slice (some ⟨w.heap.size,0,none⟩) 0 0) 0 [] rfl ((H.newBk [] _).bkRow 1 0 rfl (by decide)) (some a) l.length c (cells8 l) rfl (by simp [cells8]) (e.out.alloc _) (Zh l) (by unfold maxLen; omega) (by omega) ?_)
  intro v' w' p _;clear k;go_wp2;go_ret;exact⟨_,rfl,p⟩
theorem VZ (B:List UInt8) (h:PG.begin_ B=0):4<=B.length:=by
 refine Decidable.byContradiction fun hno=>?_;unfold PG.begin_ at h;split at h
 ·cases h
 split at h
 ·cases h
 split at h
 ·cases h
 split at h
 ·cases h
 split at h
 ·cases h
 split at h
 ·cases h
 split at h
 ·cases h
 ·omega
theorem V3 {w:World} {ad:Addr} {n c k:Nat} {B:List UInt8} {x:UInt8} (h:Byt w (.slice (some ad) n c) B) (hk:k<B.length) (hx:B.getD k 0=x):w.cell? (ad.add k)=some (.int .u8 x.toNat):=by
 obtain⟨g,i,e,b,_,_⟩:=h;injection e with e1
 subst e1;obtain⟨d,e,a⟩:=b.at8 (k:=k) hk;injection e with e
 subst e;have f:B[k]'hk=x:=by rw [<- hx,List.getD_eq_getElem?_getD,List.getElem?_eq_getElem hk]; rfl
 rw [f] at a;exact a
def hd0:PG.Hd:=⟨0,0,0,0,[],[],[]⟩
def HEnd (w0:World) (L:List Pr) (T:Except Nat (PG.Hd × Nat)) (e:Ending) (w' : World):Prop :=
 match T with
 | .error c=>e=.returned (.tuple #[.agg (hdV hd0 (.slice none 0 0)).toArray,.int .i64 0,.int .i64 c])/\Sp w0 L w'
 | .ok r=>∃A ce,e=.returned (.tuple #[.agg (hdV r.1 (.slice A r.1.extra.length ce)).toArray,.int .i64 r.2,.int .i64 0])/\Sp w0 (Row 5 1 (.slice A r.1.extra.length ce) r.1.extra.length (cells8 r.1.extra)::L) w'
theorem HEnd.yes {w0:World} {T:Except Nat (PG.Hd × Nat)} {w' : World} {hd:PG.Hd} {a ne ce:Nat} {A:Option Addr} (h:T=.ok (hd,a)) (hn:hd.extra.length=ne) (H:Sp w0 (Row 5 1 (.slice A ne ce) ne (cells8 hd.extra)::L) w'):HEnd w0 L T (.returned (.tuple #[.agg #[.int .u8 hd.flags.toNat,.int .u8 hd.level.toNat,.int .u8 hd.system.toNat,.int .u32 hd.time,.slice A ne ce,.string (strOf hd.name),.string (strOf hd.note)],.int .i64 a,.int .i64 0])) w':=by
 subst h hn; exact⟨A,ce,rfl,H⟩
theorem HEnd.no {w0:World} {T:Except Nat (PG.Hd × Nat)} {w' : World} {c:Nat} (h:T=.error c) (H:Sp w0 L w'):HEnd w0 L T (.returned (.tuple #[.agg #[.int .u8 0,.int .u8 0,.int .u8 0,.int .u32 0,.slice none 0 0,.string ⟨#[]⟩,.string ⟨#[]⟩],.int .i64 0,.int .i64 c])) w':=by
 subst h; exact⟨rfl,H⟩
theorem UG (BA:Option Addr) (n c:Nat) (B:List UInt8) (H:Sp w0 L w) (hb:Ent L fun w=>Byt w (.slice BA n c) B) (hct:Ent L CrcTab) (hn:B.length=n) (hnm:n<=100000000) (hcn:n<=c) (hcm:c<=maxLen) :
  Calls Tryz.prog 38 #[.slice BA n c] w (HEnd w0 L (PG.head B)):=by
 obtain⟨T,hT⟩:∃T,PG.head B=T:=⟨_,rfl⟩;rw [hT];have HT:=hid hT;have HB:=hid hb;have m7:=hid hct;have Q:=hid hn;have a7:=hid hcm;have H1:=(H.newBk [.slice BA n c] 23).newBk [.int .u8 0,.int .u8 0,.int .u8 0,.int .u32 0,.slice none 0 0,.string ⟨#[]⟩,.string ⟨#[]⟩] 28;have es:(w.alloc (.cells #[.slice BA n c] 23)).heap.size=w.heap.size+1:=Array.size_push _;rw [es] at H1;have c1:((w.alloc (.cells #[.slice BA n c] 23)).alloc (.cells #[.int .u8 0,.int .u8 0,.int .u8 0,.int .u32 0,.slice none 0 0,.string ⟨#[]⟩,.string ⟨#[]⟩] 28)).cell? ⟨w.heap.size,0,none⟩=some (.slice BA n c):=H1.cell 1 rfl 0;have d5:=hid (VV BA n c B H1 hn.symm (fun _ _ q=>hb _ _ q.tail2));clear hT hb hct hn hcm H1 H;go_enter Tryz.func38,Tryz.ntmps38
 go_wp2_with fail
 refine d5.out.mono ?_;rintro _ M ⟨rfl,K1⟩;clear d5 es c1;obtain⟨y,i2⟩:∃g,w.heap.size+1=g:=⟨_,rfl⟩;rw [i2] at K1;rw [i2];clear i2;generalize w.heap.size=gb at K1 ⊢;by_cases d3:PG.begin_ B=0
 ·have d5:=hid d3;rw [d3];clear d3;have e1:(M.alloc (.cells #[.int .i64 4] 3)).heap.size=M.heap.size+1:=Array.size_push _;have e2:((M.alloc (.cells #[.int .i64 4] 3)).alloc (.cells #[.bool false] 4)).heap.size=M.heap.size+1+1:=by rw [<- e1]; exact Array.size_push _
  have K2:=((K1.newBk [.int .i64 4] 3).newBk [.bool false] 4).newBk [.nilFunc] 118;rw [e1,e2] at K2;have d0:(((M.alloc (.cells #[.int .i64 4] 3)).alloc (.cells #[.bool false] 4)).alloc (.cells #[.nilFunc] 118)).cell? ⟨M.heap.size+1+1,0,none⟩=some .nilFunc:=K2.cell 0 rfl 0;have d1:(((M.alloc (.cells #[.int .i64 4] 3)).alloc (.cells #[.bool false] 4)).alloc (.cells #[.nilFunc] 118)).frozen? ⟨M.heap.size+1+1,0,none⟩=false:=K2.frozen 0 rfl 0;have K3:=((K1.newBk [.int .i64 4] 3).newBk [.bool false] 4).newBk [.func (.func 62) #[] #[.pointer (some ⟨M.heap.size+1,0,none⟩),.pointer (some ⟨gb,0,none⟩),.pointer (some ⟨M.heap.size,0,none⟩)]] 118;rw [e1,e2] at K3;replace K3:=hid K3;have d6:Sem.run Tryz.prog (store ⟨M.heap.size+1+1,0,none⟩ (.func (.func 62) #[] #[.pointer (some ⟨M.heap.size+1,0,none⟩),.pointer (some ⟨gb,0,none⟩),.pointer (some ⟨M.heap.size,0,none⟩)])) (((M.alloc (.cells #[.int .i64 4] 3)).alloc (.cells #[.bool false] 4)).alloc (.cells #[.nilFunc] 118))=.ok () ((((M.alloc (.cells #[.int .i64 4] 3)).alloc (.cells #[.bool false] 4)).alloc (.cells #[.nilFunc] 118)).setCell ⟨M.heap.size+1+1,0,none⟩ (.func (.func 62) #[] #[.pointer (some ⟨M.heap.size+1,0,none⟩),.pointer (some ⟨gb,0,none⟩),.pointer (some ⟨M.heap.size,0,none⟩)])):=by
   rw [run_store _ _ _ _ _ rfl,d0];simp only [d1];rfl
  clear e1 e2 K2 K1;go_wp2_with fail
  clear d6 d0 d1;replace K3:=K3.out;obtain⟨l,j8⟩:∃g,M.heap.size+1=g:=⟨_,rfl⟩;rw [j8] at K3 ⊢;obtain⟨G,j9⟩:∃g,l+1=g:=⟨_,rfl⟩;rw [j9] at K3 ⊢;generalize World.alloc _ _=w2 at K3 ⊢;generalize M.heap.size=ga at K3 ⊢;clear j8 j9;have h4:=VZ B d5.out;rw [Q.out] at h4;obtain⟨ad,rfl⟩:∃ad,BA=some ad:=by
   obtain⟨A',c',e,hr,_,_⟩:=HB.out _ _ (K3.pick 5 []);injection e with e1
   subst e1;obtain⟨ad,e,_⟩:=hr.at8 (k:=0) (by rw [Q.out]; omega);exact⟨ad,e⟩
  obtain⟨f,hf⟩:∃f,B.getD 3 0=f:=⟨_,rfl⟩;have HF:=hid hf;obtain⟨⟨t1,⟨R,b1⟩⟩,g3⟩:∃q,PG.next B ⟨4,false⟩ 4=q:=⟨_,rfl⟩;have k0:=hid g3;have k1:t1.length<=4:=by have:=Yu B ⟨4,false⟩ 4; rw [g3] at this; exact this
  have k2:R<=n:=by have:=ZN B ⟨4,false⟩ 4 (by rw [Q.out]; exact h4); rw [g3,Q.out] at this; exact this
  have m8:=hid k1;have g4:=hid k2;obtain⟨tn,k3⟩:∃tn,PG.num t1=tn:=⟨_,rfl⟩;have k4:=hid k3;have m9:(3:Int)<(n:Int):=by omega
  have LB:Hid (Ent (Bk G 118 [.func (.func 62) #[] #[.pointer (some ⟨l,0,none⟩),.pointer (some ⟨gb,0,none⟩),.pointer (some ⟨ga,0,none⟩)]]::Bk y 28 [.int .u8 0,.int .u8 0,.int .u8 0,.int .u32 0,.slice none 0 0,.string ⟨#[]⟩,.string ⟨#[]⟩]::Bk gb 23 [.slice (some ad) n c]::L) fun w=>Byt w (.slice (some ad) n c) B):=hid fun _ _ q=>HB.out _ _ (q.pick 3 []);have LC:Hid (Ent (Bk G 118 [.func (.func 62) #[] #[.pointer (some ⟨l,0,none⟩),.pointer (some ⟨gb,0,none⟩),.pointer (some ⟨ga,0,none⟩)]]::Bk y 28 [.int .u8 0,.int .u8 0,.int .u8 0,.int .u32 0,.slice none 0 0,.string ⟨#[]⟩,.string ⟨#[]⟩]::Bk gb 23 [.slice (some ad) n c]::L) fun w=>w.cell? ⟨gb,0,none⟩=some (.slice (some ad) n c)):=hid fun _ _ q=>q.cell 2 rfl 0;have LF:Hid (Ent (Bk G 118 [.func (.func 62) #[] #[.pointer (some ⟨l,0,none⟩),.pointer (some ⟨gb,0,none⟩),.pointer (some ⟨ga,0,none⟩)]]::Bk y 28 [.int .u8 0,.int .u8 0,.int .u8 0,.int .u32 0,.slice none 0 0,.string ⟨#[]⟩,.string ⟨#[]⟩]::Bk gb 23 [.slice (some ad) n c]::L) fun w=>w.cell? ⟨G,0,none⟩=some (.func (.func 62) #[] #[.pointer (some ⟨l,0,none⟩),.pointer (some ⟨gb,0,none⟩),.pointer (some ⟨ga,0,none⟩)])):=hid fun _ _ q=>q.cell 0 rfl 0;have L3:Hid (Ent (Bk G 118 [.func (.func 62) #[] #[.pointer (some ⟨l,0,none⟩),.pointer (some ⟨gb,0,none⟩),.pointer (some ⟨ga,0,none⟩)]]::Bk y 28 [.int .u8 0,.int .u8 0,.int .u8 0,.int .u32 0,.slice none 0 0,.string ⟨#[]⟩,.string ⟨#[]⟩]::Bk gb 23 [.slice (some ad) n c]::L) fun w=>w.cell? ⟨ad.block,ad.off+3,none⟩=some (.int .u8 f.toNat)):=hid fun _ _ q=>V3 (k:=3) (LB.out _ _ q) (by rw [Q.out]; omega) hf;have KK:=hid (show Sp w0 (Bk ga 3 [.int .i64 (4:Int)]::Bk l 4 [.bool false]::Bk G 118 [.func (.func 62) #[] #[.pointer (some ⟨l,0,none⟩),.pointer (some ⟨gb,0,none⟩),.pointer (some ⟨ga,0,none⟩)]]::Bk y 28 [.int .u8 0,.int .u8 0,.int .u8 0,.int .u32 0,.slice none 0 0,.string ⟨#[]⟩,.string ⟨#[]⟩]::Bk gb 23 [.slice (some ad) n c]::L) w2 from K3.pick 5 [2,1,0,3,4]);clear hf g3 k1 k2 k3 K3;refine Zn (L:=Bk G 118 [.func (.func 62) #[] #[.pointer (some ⟨l,0,none⟩),.pointer (some ⟨gb,0,none⟩),.pointer (some ⟨ga,0,none⟩)]]::Bk y 28 [.int .u8 0,.int .u8 0,.int .u8 0,.int .u32 0,.slice none 0 0,.string ⟨#[]⟩,.string ⟨#[]⟩]::Bk gb 23 [.slice (some ad) n c]::L) [some (.slice (some ad) n c),some (.pointer (some ⟨ad.block,ad.off+3,none⟩)),some (.int .u8 f.toNat),some (.func (.func 62) #[] #[.pointer (some ⟨l,0,none⟩),.pointer (some ⟨gb,0,none⟩),.pointer (some ⟨ga,0,none⟩)]),none,some (.int .u32 tn),some (.agg #[.int .u8 f.toNat,.int .u8 0,.int .u8 0,.int .u32 tn,.slice none 0 0,.string ⟨#[]⟩,.string ⟨#[]⟩]),none,some (undef)] (fun ix ux vx=>match ix with | 7=>(fun vv=>vv=.pointer (some ⟨ptrB vv,0,none⟩)) vx | _=>True) (fun ix ux vx=>match ix with | 4=>(fun vv=>[Nx (some ad) n c B (t1) vv,Bk ga 3 [.int .i64 R],Bk l 4 [.bool b1]]) vx | 5=>(fun _=>[Bk ga 3 [.int .i64 R],Bk l 4 [.bool b1]]) vx | 7=>(fun vv=>[Bk (ptrB vv) 28 [.int .u8 0,.int .u8 0,.int .u8 0,.int .u32 0,.slice none 0 0,.string ⟨#[]⟩,.string ⟨#[]⟩]]) vx | 8=>(fun _=>[Bk (ptrB ux) 28 [.int .u8 f.toNat,.int .u8 0,.int .u8 0,.int .u32 tn,.slice none 0 0,.string ⟨#[]⟩,.string ⟨#[]⟩]]) vx | _=>[]) (fun ix=>match ix with | 4=>[Bk ga 3 [.int .i64 (4:Int)],Bk l 4 [.bool false]] | _=>[]) 9 83
   [some 20,some 21,some 22,some 23,some 24,some 25,some 26,some 10,none]
   [[],[0],[1],[],[3],[4,4],[2,5],[],[7,6,5,0,1,2,3,4,5,6,7]]
   [[],[0],[0,1],[],[3],[3,4],[0,1,2,3,4,5],[],[0,1,2,3,4,5,6,7]]
   [[],[],[],[],[],[4],[],[],[7]] [[],[],[],[],[],[],[],[],[]] [none,none,none,none,none,none,none,none,some 7] [(1,.pointer (some ⟨gb,0,none⟩)),(8,.pointer (some ⟨G,0,none⟩))]
   (by kernel_rfl) rfl (by decide) (by rfl) (by decide +kernel) rfl (by simp) (by rfl) (KK.out) ?hstep ?hend
  case hstep =>
   refine⟨?p0,⟨?p1,⟨?p2,⟨?p3,⟨?p4,⟨?p5,⟨?p6,⟨?p7,⟨?p8,trivial⟩⟩⟩⟩⟩⟩⟩⟩⟩
   case p1 | p6 =>
    intro x wx A rest o i p H K r;replace r:=hid r;clear i p;repeat (obtain⟨_,o⟩:=o)
    refine so ?_;go_step;exact r.out _ _ rfl H
   case p0 =>
    intro x wx A rest o i p H K a;have e1:A.tmps[1]?.getD undef=.pointer (some ⟨gb,0,none⟩):=Zs o (1,_) (by simp);have r:=hid a;clear a o i;have cc:=p _ LC.out _ _ H;refine so ?_;go_step;exact r.out _ _ rfl H
   case p2 =>
    intro x wx A rest o i p H K a;have s4:A.tmps[21]?.getD undef=.pointer (some ⟨ad.block,ad.off+3,none⟩):=tq i 1;have r:=hid a;clear a o i;have cc:=p _ L3.out _ _ H;refine so ?_;go_step;exact r.out _ _ rfl H
   case p3 =>
    intro x wx A rest o i p H K a;have e8:A.tmps[8]?.getD undef=.pointer (some ⟨G,0,none⟩):=Zs o (8,_) (by simp);have r:=hid a;clear a o i;have cc:=p _ LF.out _ _ H;refine so ?_;go_step;exact r.out _ _ rfl H
   case p4 =>
    intro x wx A rest o i p H K a;have s6:A.tmps[23]?.getD undef=.func (.func 62) #[] #[.pointer (some ⟨l,0,none⟩),.pointer (some ⟨gb,0,none⟩),.pointer (some ⟨ga,0,none⟩)]:=tq i 3;replace H:Sp w0 ((Bk ga 3 [.int .i64 (4:Int)])::(Bk l 4 [.bool false])::rest) wx:=H;have r:Hid (∀(v:Value) (w' : World),(True)->Sp w0 ((Nx (some ad) n c B (t1) v)::(Bk ga 3 [.int .i64 R])::(Bk l 4 [.bool b1])::rest) w'->K (A.put (some 24) v) w'):=hid a;clear a o i;have HC:=hid (p _ LC.out);clear p;refine so ?_;go_wp2_with fail
    refine(ZR ga l gb (some ad) n c B ⟨4,false⟩ 4 H HC.out Q.out h4 (by decide) (by omega) hcn a7.out).mono ?_;rw [k0.out];rintro _ w9 ⟨v9,rfl,X⟩;exact r.out _ _ trivial X
   case p5 =>
    intro x wx A rest o i p H K a;have s7:True:=(i 4 (by decide)).1;have s8:A.tmps[24]?.getD undef=x 4:=(i 4 (by decide)).2 24 rfl;replace H:Sp w0 ((Nx (some ad) n c B (t1) (x 4))::(Bk ga 3 [.int .i64 R])::(Bk l 4 [.bool b1])::rest) wx:=H;have r:=hid a;clear a o i;have HC:=hid (Nx.byt H (fun _ _ q=>p _ LB.out _ _ (q.pick 2 [])));clear p;refine so ?_;go_wp2_with fail
    refine(YM H HC.out m8.out).mono ?_;rw [k4.out];rintro _ w9 ⟨rfl,X⟩;exact r.out _ _ rfl X.tail
   case p7 =>
    intro x wx A rest o i p H K a;have r:=hid a;clear a o i p;refine so ?_;go_step;exact r.out _ _ rfl (H.newBk _ _)
   case p8 =>
    intro x wx A rest o i p H K a;have n0:(x 7)=.pointer (some ⟨ptrB (x 7),0,none⟩):=(i 7 (by decide)).1;have i3:A.tmps[10]?.getD undef=x 7:=(i 7 (by decide)).2 10 rfl;have n1:A.tmps[26]?.getD undef=.agg #[.int .u8 f.toNat,.int .u8 0,.int .u8 0,.int .u32 tn,.slice none 0 0,.string ⟨#[]⟩,.string ⟨#[]⟩]:=tq i 6;replace H:Sp w0 ((Bk (ptrB (x 7)) 28 [.int .u8 0,.int .u8 0,.int .u8 0,.int .u32 0,.slice none 0 0,.string ⟨#[]⟩,.string ⟨#[]⟩])::rest) wx:=H;have r:Hid (∀(v:Value) (w' : World),(v=undef)->Sp w0 ((Bk (ptrB (x 7)) 28 [.int .u8 f.toNat,.int .u8 0,.int .u8 0,.int .u32 tn,.slice none 0 0,.string ⟨#[]⟩,.string ⟨#[]⟩])::rest) w'->K (A.put none v) w'):=hid a;clear a o i p;obtain⟨w9,d6,X⟩:=Yv (P:=Tryz.prog) [.int .u8 f.toNat,.int .u8 0,.int .u8 0,.int .u32 tn,.slice none 0 0,.string ⟨#[]⟩,.string ⟨#[]⟩] 0 _ wx H (by show 0+7<=7; omega) (VX _ _ _ _ _ _ _ _ _);refine so ?_;exact Zm 28 _ _ rfl _ [.int .u8 f.toNat,.int .u8 0,.int .u8 0,.int .u32 tn,.slice none 0 0,.string ⟨#[]⟩,.string ⟨#[]⟩] (ev (i3.trans n0)) (ev n1) d6 Tryz.sizeOf28 (r.out undef _ rfl X)
  case hend =>
   intro x wx A hA i H;replace H:Sp w0 ((Bk ga 3 [.int .i64 R])::(Bk l 4 [.bool b1])::(Bk (ptrB (x 7)) 28 [.int .u8 f.toNat,.int .u8 0,.int .u8 0,.int .u32 tn,.slice none 0 0,.string ⟨#[]⟩,.string ⟨#[]⟩])::Bk G 118 [.func (.func 62) #[] #[.pointer (some ⟨l,0,none⟩),.pointer (some ⟨gb,0,none⟩),.pointer (some ⟨ga,0,none⟩)]]::Bk y 28 [.int .u8 0,.int .u8 0,.int .u8 0,.int .u32 0,.slice none 0 0,.string ⟨#[]⟩,.string ⟨#[]⟩]::Bk gb 23 [.slice (some ad) n c]::L) wx:=H;have y7:(x 7)=.pointer (some ⟨ptrB (x 7),0,none⟩):=i 7 (by decide);clear i;simp only [putAll,Act.put,List.setIfInBounds_toArray,List.set_cons_succ,List.set_cons_zero,Nat.reduceAdd] at hA;subst hA;obtain⟨s,k5⟩:∃g,ptrB (x 7)=g:=⟨_,rfl⟩;rw [k5] at y7 H;rw [y7];clear y7 k5 KK L3 m9;replace H:Sp w0 (Bk ga 3 [.int .i64 R]::Bk l 4 [.bool b1]::Bk s 28 [.int .u8 f.toNat,.int .u8 0,.int .u8 0,.int .u32 tn,.slice none 0 0,.string ⟨#[]⟩,.string ⟨#[]⟩]::Bk G 118 [.func (.func 62) #[] #[.pointer (some ⟨l,0,none⟩),.pointer (some ⟨gb,0,none⟩),.pointer (some ⟨ga,0,none⟩)]]::Bk y 28 [.int .u8 0,.int .u8 0,.int .u8 0,.int .u32 0,.slice none 0 0,.string ⟨#[]⟩,.string ⟨#[]⟩]::Bk gb 23 [.slice (some ad) n c]::L) wx:=H;have S:=hid H;clear H;obtain⟨⟨t2,⟨a2,b2⟩⟩,g5⟩:∃q,PG.next B ⟨R,b1⟩ 1=q:=⟨_,rfl⟩;obtain⟨⟨t3,⟨I,b3⟩⟩,g6⟩:∃q,PG.next B ⟨a2,b2⟩ 1=q:=⟨_,rfl⟩;have i4:t2.length=1:=by have:=XO B ⟨R,b1⟩ 1 (by rw [Q.out]; exact g4.out) (by decide); rw [g5] at this; exact this
   have g7:a2<=n:=by have:=ZN B ⟨R,b1⟩ 1 (by rw [Q.out]; exact g4.out); rw [g5,Q.out] at this; exact this
   have i5:t3.length=1:=by have:=XO B ⟨a2,b2⟩ 1 (by rw [Q.out]; exact g7) (by decide); rw [g6] at this; exact this
   have k6:I<=n:=by have:=ZN B ⟨a2,b2⟩ 1 (by rw [Q.out]; exact g7); rw [g6,Q.out] at this; exact this
   obtain⟨D,k7⟩:∃v,t2.getD 0 0=v:=⟨_,rfl⟩;obtain⟨C,k8⟩:∃v,t3.getD 0 0=v:=⟨_,rfl⟩;have n2:t2=[D]:=by
    rcases t2 with _ | ⟨u,_ | ⟨u2,t⟩⟩
    ·cases i4
    ·rw [<- k7]; rfl
    ·simp at i4
   have n3:t3=[C]:=by
    rcases t3 with _ | ⟨u,_ | ⟨u2,t⟩⟩
    ·cases i5
    ·rw [<- k8]; rfl
    ·simp at i5
   subst n2 n3;have g8:=hid g5;have h0:=hid g6;have n4:=hid g7;have d7:=hid k6;clear g5 g6 i4 i5 g7 k6 k7 k8;go_wp2_with fail
   go_cut [5] from 11 (fun s5 wx=>s5=.int .i64 0/\Sp w0 (Bk ga 3 [.int .i64 I]::Bk l 4 [.bool b3]::Bk s 28 [.int .u8 f.toNat,.int .u8 D.toNat,.int .u8 C.toNat,.int .u32 tn,.slice none 0 0,.string ⟨#[]⟩,.string ⟨#[]⟩]::Bk G 118 [.func (.func 62) #[] #[.pointer (some ⟨l,0,none⟩),.pointer (some ⟨gb,0,none⟩),.pointer (some ⟨ga,0,none⟩)]]::Bk y 28 [.int .u8 0,.int .u8 0,.int .u8 0,.int .u32 0,.slice none 0 0,.string ⟨#[]⟩,.string ⟨#[]⟩]::Bk gb 23 [.slice (some ad) n c]::L) wx)
   case first =>
    by_cases U:b1=true∨n - R<1
    ·have h1:([D],(⟨a2,b2⟩:PG.S))=(List.replicate (min 1 4) 0,⟨R,true⟩):=by rw [<- g8.out]; exact YL B ⟨R,b1⟩ 1 (by rw [Q.out]; exact U)
     have n5:([C],(⟨I,b3⟩:PG.S))=(List.replicate (min 1 4) 0,⟨R,true⟩):=by
      have e:(⟨a2,b2⟩:PG.S)=⟨R,true⟩:=(Prod.mk.inj h1).2;rw [<- h0.out,e]; exact YL B ⟨R,true⟩ 1 (.inl rfl)
     injection h1 with p1 p2
     injection n5 with p3 p4
     injection p4 with p5 p6
     have P1:=hid p1;have P3:=hid p3;subst p5 p6;have V:=hid (Dead.shut U S.out);clear p1 p2 p3 U S g8 h0;refine Zn (L:=Bk G 118 [.func (.func 62) #[] #[.pointer (some ⟨l,0,none⟩),.pointer (some ⟨gb,0,none⟩),.pointer (some ⟨ga,0,none⟩)]]::Bk y 28 [.int .u8 0,.int .u8 0,.int .u8 0,.int .u32 0,.slice none 0 0,.string ⟨#[]⟩,.string ⟨#[]⟩]::Bk gb 23 [.slice (some ad) n c]::L) [some (.func (.func 62) #[] #[.pointer (some ⟨l,0,none⟩),.pointer (some ⟨gb,0,none⟩),.pointer (some ⟨ga,0,none⟩)]),none,none,some (.int .u8 D.toNat),some (.func (.func 62) #[] #[.pointer (some ⟨l,0,none⟩),.pointer (some ⟨gb,0,none⟩),.pointer (some ⟨ga,0,none⟩)]),none,none,some (.int .u8 C.toNat),some (.pointer (some ⟨s,1,none⟩)),some (undef),some (.pointer (some ⟨s,2,none⟩)),some (undef)] (fun ix ux vx=>match ix with | 2=>(fun ux vv=>∃g d,ux=.slice (some g) 1 d/\vv=.pointer (some g)) ux vx | 6=>(fun ux vv=>∃g d,ux=.slice (some g) 1 d/\vv=.pointer (some g)) ux vx | _=>True) (fun ix ux vx=>match ix with | 1=>(fun vv=>[Nx (some ad) n c B ([D]) vv]) vx | 2=>(fun _=>[Nx (some ad) n c B ([D]) ux]) vx | 5=>(fun vv=>[Nx (some ad) n c B ([C]) vv,Bk ga 3 [.int .i64 I],Bk l 4 [.bool true]]) vx | 6=>(fun _=>[Nx (some ad) n c B ([C]) ux,Bk ga 3 [.int .i64 I],Bk l 4 [.bool true]]) vx | 7=>(fun _=>[Bk ga 3 [.int .i64 I],Bk l 4 [.bool true]]) vx | 9=>(fun _=>[Bk s 28 [.int .u8 f.toNat,.int .u8 D.toNat,.int .u8 0,.int .u32 tn,.slice none 0 0,.string ⟨#[]⟩,.string ⟨#[]⟩]]) vx | 11=>(fun _=>[Bk s 28 [.int .u8 f.toNat,.int .u8 D.toNat,.int .u8 C.toNat,.int .u32 tn,.slice none 0 0,.string ⟨#[]⟩,.string ⟨#[]⟩]]) vx | _=>[]) (fun ix=>match ix with | 5=>[Dead ga l n I 1] | 9=>[Bk s 28 [.int .u8 f.toNat,.int .u8 0,.int .u8 0,.int .u32 tn,.slice none 0 0,.string ⟨#[]⟩,.string ⟨#[]⟩]] | _=>[]) 12 83
      [some 27,some 28,some 29,some 30,some 31,some 32,some 33,some 34,some 35,none,some 36,none]
      [[],[0],[1],[2],[],[4,1],[5],[6],[0,1,2,3],[8,3,5,0,1,2,3],[0,1,2,3,4,5,6,7,8,9],[10,7,9,0,1,2,3,4,5,6,7,8,9]]
      [[],[0],[0,1],[0,1,2],[],[0,1,4],[0,1,4,5],[0,1,4,5,6],[0,1,2,3],[0,1,2,3,4,5,8],[0,1,2,3,4,5,6,7,8,9],[0,1,2,3,4,5,6,7,8,9,10]]
      [[],[],[1],[2],[],[],[5],[6],[],[],[],[9]] [[],[5],[],[],[],[],[],[],[],[],[],[]] [none,none,some 1,none,none,none,some 5,none,none,none,none,none] [(8,.pointer (some ⟨G,0,none⟩)),(10,.pointer (some ⟨s,0,none⟩))]
      (by kernel_rfl) rfl (by decide) (by rfl) (by decide +kernel) rfl (by simp) (by rfl) ((V.out.pick 2 [0,1])) ?hstep ?hend
     case hstep =>
      refine⟨?p0,⟨?p1,⟨?p2,⟨?p3,⟨?p4,⟨?p5,⟨?p6,⟨?p7,⟨?p8,⟨?p9,⟨?p10,⟨?p11,trivial⟩⟩⟩⟩⟩⟩⟩⟩⟩⟩⟩⟩
      case p8 | p10 =>
       intro x wx A rest o i p H K r;replace r:=hid r;clear i p;repeat (obtain⟨_,o⟩:=o)
       refine so ?_;go_step;exact r.out _ _ rfl H
      case p0 =>
       intro x wx A rest o i p H K a;have e8:A.tmps[8]?.getD undef=.pointer (some ⟨G,0,none⟩):=Zs o (8,_) (by simp);have r:=hid a;clear a o i;have cc:=p _ LF.out _ _ H;refine so ?_;go_step;exact r.out _ _ rfl H
      case p1 =>
       intro x wx A rest o i p H K a;have n6:A.tmps[27]?.getD undef=.func (.func 62) #[] #[.pointer (some ⟨l,0,none⟩),.pointer (some ⟨gb,0,none⟩),.pointer (some ⟨ga,0,none⟩)]:=tq i 0;replace H:Sp w0 ((Dead ga l n I 1)::rest) wx:=H;have r:Hid (∀(v:Value) (w' : World),(True)->Sp w0 ((Nx (some ad) n c B ([D]) v)::(Dead ga l n I 1)::rest) w'->K (A.put (some 28) v) w'):=hid a;clear a o i;have HC:=hid (p _ LC.out);clear p;obtain⟨⟨bq,n7⟩,H⟩:=H.unex;have HZ:=hid (Dead.shut n7 H.unstar);have HW:=hid (Y7 ga l gb (some ad) n c B I 1 HZ.out HC.out Q.out d7.out (by decide) (by omega) hcn a7.out);rw [<- P1.out] at HW;clear HZ H;refine so ?_;go_wp2_with fail
       refine HW.out.mono ?_;rintro _ w9 ⟨v9,rfl,X⟩;refine r.out _ _ trivial ?_;exact(Dead.shut (.inl rfl) ((X.pick 3 [1,2,0]))).swap
      case p2 =>
       intro x wx A rest o i p H K a;have s9:True:=(i 1 (by decide)).1;have i6:A.tmps[28]?.getD undef=x 1:=(i 1 (by decide)).2 28 rfl;replace H:Sp w0 ((Nx (some ad) n c B ([D]) (x 1))::rest) wx:=H;have r:Hid (∀(v:Value) (w' : World),(∃g d,(x 1)=.slice (some g) 1 d/\v=.pointer (some g))->Sp w0 ((Nx (some ad) n c B ([D]) (x 1))::rest) w'->K (A.put (some 29) v) w'):=hid a;clear a o i;obtain⟨A9,d9,F,e0,e3,J⟩:=Nx.form H (p _ LB.out);obtain⟨Y,rfl,c9⟩:=J (by unfold cells8; simp);have s2:=i6.trans F;have e4:=hid F;clear i6 F p c9 J;refine so ?_;go_step;exact r.out _ _ ⟨Y,d9,e4.out,rfl⟩ H
      case p3 =>
       intro x wx A rest o i p H K a;have n8:∃g d,(x 1)=.slice (some g) 1 d/\(x 2)=.pointer (some g):=(i 2 (by decide)).1;have i7:A.tmps[29]?.getD undef=x 2:=(i 2 (by decide)).2 29 rfl;replace H:Sp w0 ((Nx (some ad) n c B ([D]) (x 1))::rest) wx:=H;have r:=hid a;clear a o i;obtain⟨A9,d9,F,e0,e3,J⟩:=Nx.form H (p _ LB.out);obtain⟨Y,rfl,c9⟩:=J (by unfold cells8; simp);obtain⟨g9,d8,a9,b0⟩:=n8;rw [F] at a9;injection a9 with e81 e82 e83
       injection e81 with e81
       subst e81;have cc:wx.cell? Y=some (.int .u8 D.toNat):=c9 0 _ rfl;have s3:=i7.trans b0;clear i7 b0 F p c9 J e82 e83;refine so ?_;go_step;exact r.out _ _ rfl H.tail
      case p4 =>
       intro x wx A rest o i p H K a;have e8:A.tmps[8]?.getD undef=.pointer (some ⟨G,0,none⟩):=Zs o (8,_) (by simp);have r:=hid a;clear a o i;have cc:=p _ LF.out _ _ H;refine so ?_;go_step;exact r.out _ _ rfl H
      case p5 =>
       intro x wx A rest o i p H K a;have n9:A.tmps[31]?.getD undef=.func (.func 62) #[] #[.pointer (some ⟨l,0,none⟩),.pointer (some ⟨gb,0,none⟩),.pointer (some ⟨ga,0,none⟩)]:=tq i 4;replace H:Sp w0 ((Dead ga l n I 1)::rest) wx:=H;have r:Hid (∀(v:Value) (w' : World),(True)->Sp w0 ((Nx (some ad) n c B ([C]) v)::(Bk ga 3 [.int .i64 I])::(Bk l 4 [.bool true])::rest) w'->K (A.put (some 32) v) w'):=hid a;clear a o i;have HC:=hid (p _ LC.out);clear p;have HW:=hid (Y7 ga l gb (some ad) n c B I 1 H HC.out Q.out d7.out (by decide) (by omega) hcn a7.out);rw [<- P3.out] at HW;refine so ?_;go_wp2_with fail
       refine HW.out.mono ?_;rintro _ w9 ⟨v9,rfl,X⟩;exact r.out _ _ trivial X
      case p6 =>
       intro x wx A rest o i p H K a;have o0:True:=(i 5 (by decide)).1;have e5:A.tmps[32]?.getD undef=x 5:=(i 5 (by decide)).2 32 rfl;replace H:Sp w0 ((Nx (some ad) n c B ([C]) (x 5))::(Bk ga 3 [.int .i64 I])::(Bk l 4 [.bool true])::rest) wx:=H;have r:Hid (∀(v:Value) (w' : World),(∃g d,(x 5)=.slice (some g) 1 d/\v=.pointer (some g))->Sp w0 ((Nx (some ad) n c B ([C]) (x 5))::(Bk ga 3 [.int .i64 I])::(Bk l 4 [.bool true])::rest) w'->K (A.put (some 33) v) w'):=hid a;clear a o i;obtain⟨A9,d9,F,e0,e3,J⟩:=Nx.form H (fun _ _ q=>p _ LB.out _ _ (q.pick 2 []));obtain⟨Y,rfl,c9⟩:=J (by unfold cells8; simp);have k9:=e5.trans F;have e4:=hid F;clear e5 F p c9 J;refine so ?_;go_step;exact r.out _ _ ⟨Y,d9,e4.out,rfl⟩ H
      case p7 =>
       intro x wx A rest o i p H K a;have i8:∃g d,(x 5)=.slice (some g) 1 d/\(x 6)=.pointer (some g):=(i 6 (by decide)).1;have e7:A.tmps[33]?.getD undef=x 6:=(i 6 (by decide)).2 33 rfl;replace H:Sp w0 ((Nx (some ad) n c B ([C]) (x 5))::(Bk ga 3 [.int .i64 I])::(Bk l 4 [.bool true])::rest) wx:=H;have r:=hid a;clear a o i;obtain⟨A9,d9,F,e0,e3,J⟩:=Nx.form H (fun _ _ q=>p _ LB.out _ _ (q.pick 2 []));obtain⟨Y,rfl,c9⟩:=J (by unfold cells8; simp);obtain⟨g9,d8,a9,b0⟩:=i8;rw [F] at a9;injection a9 with e81 e82 e83
       injection e81 with e81
       subst e81;have cc:wx.cell? Y=some (.int .u8 C.toNat):=c9 0 _ rfl;have l0:=e7.trans b0;clear e7 b0 F p c9 J e82 e83;refine so ?_;go_step;exact r.out _ _ rfl H.tail
      case p9 =>
       intro x wx A rest o i p H K a;have o1:A.tmps[35]?.getD undef=.pointer (some ⟨s,1,none⟩):=tq i 8;have o2:A.tmps[30]?.getD undef=.int .u8 D.toNat:=tq i 3;replace H:Sp w0 ((Bk s 28 [.int .u8 f.toNat,.int .u8 0,.int .u8 0,.int .u32 tn,.slice none 0 0,.string ⟨#[]⟩,.string ⟨#[]⟩])::rest) wx:=H;have r:=hid a;clear a o i p;have z:=H.frozen 0 rfl 1;have t:=H.cell 0 rfl 1;refine so ?_;go_step;exact r.out _ _ rfl (H.set 1 (.int .u8 D.toNat))
      case p11 =>
       intro x wx A rest o i p H K a;have o3:A.tmps[36]?.getD undef=.pointer (some ⟨s,2,none⟩):=tq i 10;have o4:A.tmps[34]?.getD undef=.int .u8 C.toNat:=tq i 7;replace H:Sp w0 ((Bk s 28 [.int .u8 f.toNat,.int .u8 D.toNat,.int .u8 0,.int .u32 tn,.slice none 0 0,.string ⟨#[]⟩,.string ⟨#[]⟩])::rest) wx:=H;have r:=hid a;clear a o i p;have z:=H.frozen 0 rfl 2;have t:=H.cell 0 rfl 2;refine so ?_;go_step;exact r.out _ _ rfl (H.set 2 (.int .u8 C.toNat))
     case hend =>
      intro x wx A hA i H;replace H:Sp w0 ((Bk ga 3 [.int .i64 I])::(Bk l 4 [.bool true])::(Bk s 28 [.int .u8 f.toNat,.int .u8 D.toNat,.int .u8 C.toNat,.int .u32 tn,.slice none 0 0,.string ⟨#[]⟩,.string ⟨#[]⟩])::Bk G 118 [.func (.func 62) #[] #[.pointer (some ⟨l,0,none⟩),.pointer (some ⟨gb,0,none⟩),.pointer (some ⟨ga,0,none⟩)]]::Bk y 28 [.int .u8 0,.int .u8 0,.int .u8 0,.int .u32 0,.slice none 0 0,.string ⟨#[]⟩,.string ⟨#[]⟩]::Bk gb 23 [.slice (some ad) n c]::L) wx:=H;clear i;simp only [putAll,Act.put,List.setIfInBounds_toArray,List.set_cons_succ,List.set_cons_zero,Nat.reduceAdd] at hA;subst hA;have K7:=hid H;clear H;go_wp2_with fail
      go_meet
      exact⟨rfl,K7.out⟩
    ·have o5:b1=false:=by cases b1; rfl; exact absurd (.inl rfl) U
     subst o5;have f0:¬ n - R<1:=fun q=>U (.inr q);have h1:([D],(⟨a2,b2⟩:PG.S))=((B.drop R).take 1,⟨R+1,false⟩):=by rw [<- g8.out]; exact VW B R 1 (by rw [Q.out]; exact f0)
     injection h1 with p1 p2
     injection p2 with p5 p6
     subst p5 p6;obtain⟨ae,h2⟩:∃ae,subZ (some ad) c R 1=some ae:=by
      unfold subZ;split
      ·exact⟨ad,rfl⟩
      ·exact⟨_,rfl⟩
     have LV:Hid (Ent (Bk G 118 [.func (.func 62) #[] #[.pointer (some ⟨l,0,none⟩),.pointer (some ⟨gb,0,none⟩),.pointer (some ⟨ga,0,none⟩)]]::Bk y 28 [.int .u8 0,.int .u8 0,.int .u8 0,.int .u32 0,.slice none 0 0,.string ⟨#[]⟩,.string ⟨#[]⟩]::Bk gb 23 [.slice (some ad) n c]::L) fun w=>w.cell? ae=some (.int .u8 D.toNat)):=hid fun _ _ q=>by
      have h:=((LB.out _ _ q).dropZ R g4.out).take 1 (by rw [List.length_drop,Q.out]; omega);rw [<- p1,h2] at h;have h9:=V3 (k:=0) h Nat.zero_lt_one rfl;exact h9
     replace h2:=hid h2;have V:=S;clear p1 S U;refine Zn (L:=Bk G 118 [.func (.func 62) #[] #[.pointer (some ⟨l,0,none⟩),.pointer (some ⟨gb,0,none⟩),.pointer (some ⟨ga,0,none⟩)]]::Bk y 28 [.int .u8 0,.int .u8 0,.int .u8 0,.int .u32 0,.slice none 0 0,.string ⟨#[]⟩,.string ⟨#[]⟩]::Bk gb 23 [.slice (some ad) n c]::L) [some (.func (.func 62) #[] #[.pointer (some ⟨l,0,none⟩),.pointer (some ⟨gb,0,none⟩),.pointer (some ⟨ga,0,none⟩)]),some (.slice (some ae) 1 (c - R)),some (.pointer (some ae)),some (.int .u8 D.toNat),some (.func (.func 62) #[] #[.pointer (some ⟨l,0,none⟩),.pointer (some ⟨gb,0,none⟩),.pointer (some ⟨ga,0,none⟩)]),none,none,some (.int .u8 C.toNat),some (.pointer (some ⟨s,1,none⟩)),some (undef),some (.pointer (some ⟨s,2,none⟩)),some (undef)] (fun ix ux vx=>match ix with | 6=>(fun ux vv=>∃g d,ux=.slice (some g) 1 d/\vv=.pointer (some g)) ux vx | _=>True) (fun ix ux vx=>match ix with | 1=>(fun _=>[Bk ga 3 [.int .i64 ((R+1:Nat):Int)],Bk l 4 [.bool false]]) vx | 5=>(fun vv=>[Nx (some ad) n c B ([C]) vv,Bk ga 3 [.int .i64 I],Bk l 4 [.bool b3]]) vx | 6=>(fun _=>[Nx (some ad) n c B ([C]) ux,Bk ga 3 [.int .i64 I],Bk l 4 [.bool b3]]) vx | 7=>(fun _=>[Bk ga 3 [.int .i64 I],Bk l 4 [.bool b3]]) vx | 9=>(fun _=>[Bk s 28 [.int .u8 f.toNat,.int .u8 D.toNat,.int .u8 0,.int .u32 tn,.slice none 0 0,.string ⟨#[]⟩,.string ⟨#[]⟩]]) vx | 11=>(fun _=>[Bk s 28 [.int .u8 f.toNat,.int .u8 D.toNat,.int .u8 C.toNat,.int .u32 tn,.slice none 0 0,.string ⟨#[]⟩,.string ⟨#[]⟩]]) vx | _=>[]) (fun ix=>match ix with | 1=>[Bk ga 3 [.int .i64 R],Bk l 4 [.bool false]] | 9=>[Bk s 28 [.int .u8 f.toNat,.int .u8 0,.int .u8 0,.int .u32 tn,.slice none 0 0,.string ⟨#[]⟩,.string ⟨#[]⟩]] | _=>[]) 12 83
      [some 27,some 28,some 29,some 30,some 31,some 32,some 33,some 34,some 35,none,some 36,none]
      [[],[0],[1],[2],[],[4,1],[5],[6],[0,1,2,3],[8,3,5,0,1,2,3],[0,1,2,3,4,5,6,7,8,9],[10,7,9,0,1,2,3,4,5,6,7,8,9]]
      [[],[0],[0,1],[0,1,2],[],[0,1,4],[0,1,4,5],[0,1,4,5,6],[0,1,2,3],[0,1,2,3,4,5,8],[0,1,2,3,4,5,6,7,8,9],[0,1,2,3,4,5,6,7,8,9,10]]
      [[],[],[],[],[],[1],[5],[6],[],[],[],[9]] [[],[],[],[],[],[],[],[],[],[],[],[]] [none,none,none,none,none,none,some 5,none,none,none,none,none] [(8,.pointer (some ⟨G,0,none⟩)),(10,.pointer (some ⟨s,0,none⟩))]
      (by kernel_rfl) rfl (by decide) (by rfl) (by decide +kernel) rfl (by simp) (by rfl) ((V.out.pick 3 [0,1,2])) ?hstep ?hend
     case hstep =>
      refine⟨?p0,⟨?p1,⟨?p2,⟨?p3,⟨?p4,⟨?p5,⟨?p6,⟨?p7,⟨?p8,⟨?p9,⟨?p10,⟨?p11,trivial⟩⟩⟩⟩⟩⟩⟩⟩⟩⟩⟩⟩
      case p8 | p10 =>
       intro x wx A rest o i p H K r;replace r:=hid r;clear i p;repeat (obtain⟨_,o⟩:=o)
       refine so ?_;go_step;exact r.out _ _ rfl H
      case p0 =>
       intro x wx A rest o i p H K a;have e8:A.tmps[8]?.getD undef=.pointer (some ⟨G,0,none⟩):=Zs o (8,_) (by simp);have r:=hid a;clear a o i;have cc:=p _ LF.out _ _ H;refine so ?_;go_step;exact r.out _ _ rfl H
      case p1 =>
       intro x wx A rest o i p H K a;have n6:A.tmps[27]?.getD undef=.func (.func 62) #[] #[.pointer (some ⟨l,0,none⟩),.pointer (some ⟨gb,0,none⟩),.pointer (some ⟨ga,0,none⟩)]:=tq i 0;replace H:Sp w0 ((Bk ga 3 [.int .i64 R])::(Bk l 4 [.bool false])::rest) wx:=H;have r:=hid a;clear a o i;have HC:=hid (p _ LC.out);clear p;have HW:=hid (Y6 ga l gb (some ad) n c R 1 H HC.out g4.out f0 (by omega) hcn);rw [h2.out] at HW;refine so ?_;go_wp2_with fail
       refine HW.out.mono ?_;rintro _ w9 ⟨rfl,X⟩;exact r.out _ _ rfl X
      case p2 =>
       intro x wx A rest o i p H K a;have i6:A.tmps[28]?.getD undef=.slice (some ae) 1 (c - R):=tq i 1;have r:=hid a;clear a o i;refine so ?_;go_step;exact r.out _ _ rfl H
      case p3 =>
       intro x wx A rest o i p H K a;have i7:A.tmps[29]?.getD undef=.pointer (some ae):=tq i 2;have r:=hid a;clear a o i;have cc:=p _ LV.out _ _ H;refine so ?_;go_step;exact r.out _ _ rfl H
      case p4 =>
       intro x wx A rest o i p H K a;have e8:A.tmps[8]?.getD undef=.pointer (some ⟨G,0,none⟩):=Zs o (8,_) (by simp);have r:=hid a;clear a o i;have cc:=p _ LF.out _ _ H;refine so ?_;go_step;exact r.out _ _ rfl H
      case p5 =>
       intro x wx A rest o i p H K a;have n9:A.tmps[31]?.getD undef=.func (.func 62) #[] #[.pointer (some ⟨l,0,none⟩),.pointer (some ⟨gb,0,none⟩),.pointer (some ⟨ga,0,none⟩)]:=tq i 4;replace H:Sp w0 ((Bk ga 3 [.int .i64 ((R+1:Nat):Int)])::(Bk l 4 [.bool false])::rest) wx:=H;have r:Hid (∀(v:Value) (w' : World),(True)->Sp w0 ((Nx (some ad) n c B ([C]) v)::(Bk ga 3 [.int .i64 I])::(Bk l 4 [.bool b3])::rest) w'->K (A.put (some 32) v) w'):=hid a;clear a o i;have HC:=hid (p _ LC.out);clear p;have HW:=hid (ZR ga l gb (some ad) n c B ⟨R+1,false⟩ 1 H HC.out Q.out n4.out (by decide) (by omega) hcn a7.out);rw [h0.out] at HW;refine so ?_;go_wp2_with fail
       refine HW.out.mono ?_;rintro _ w9 ⟨v9,rfl,X⟩;exact r.out _ _ trivial X
      case p6 =>
       intro x wx A rest o i p H K a;have o0:True:=(i 5 (by decide)).1;have e5:A.tmps[32]?.getD undef=x 5:=(i 5 (by decide)).2 32 rfl;replace H:Sp w0 ((Nx (some ad) n c B ([C]) (x 5))::(Bk ga 3 [.int .i64 I])::(Bk l 4 [.bool b3])::rest) wx:=H;have r:Hid (∀(v:Value) (w' : World),(∃g d,(x 5)=.slice (some g) 1 d/\v=.pointer (some g))->Sp w0 ((Nx (some ad) n c B ([C]) (x 5))::(Bk ga 3 [.int .i64 I])::(Bk l 4 [.bool b3])::rest) w'->K (A.put (some 33) v) w'):=hid a;clear a o i;obtain⟨A9,d9,F,e0,e3,J⟩:=Nx.form H (fun _ _ q=>p _ LB.out _ _ (q.pick 2 []));obtain⟨Y,rfl,c9⟩:=J (by unfold cells8; simp);have k9:=e5.trans F;have e4:=hid F;clear e5 F p c9 J;refine so ?_;go_step;exact r.out _ _ ⟨Y,d9,e4.out,rfl⟩ H
      case p7 =>
       intro x wx A rest o i p H K a;have i8:∃g d,(x 5)=.slice (some g) 1 d/\(x 6)=.pointer (some g):=(i 6 (by decide)).1;have e7:A.tmps[33]?.getD undef=x 6:=(i 6 (by decide)).2 33 rfl;replace H:Sp w0 ((Nx (some ad) n c B ([C]) (x 5))::(Bk ga 3 [.int .i64 I])::(Bk l 4 [.bool b3])::rest) wx:=H;have r:=hid a;clear a o i;obtain⟨A9,d9,F,e0,e3,J⟩:=Nx.form H (fun _ _ q=>p _ LB.out _ _ (q.pick 2 []));obtain⟨Y,rfl,c9⟩:=J (by unfold cells8; simp);obtain⟨g9,d8,a9,b0⟩:=i8;rw [F] at a9;injection a9 with e81 e82 e83
       injection e81 with e81
       subst e81;have cc:wx.cell? Y=some (.int .u8 C.toNat):=c9 0 _ rfl;have l0:=e7.trans b0;clear e7 b0 F p c9 J e82 e83;refine so ?_;go_step;exact r.out _ _ rfl H.tail
      case p9 =>
       intro x wx A rest o i p H K a;have o1:A.tmps[35]?.getD undef=.pointer (some ⟨s,1,none⟩):=tq i 8;have o2:A.tmps[30]?.getD undef=.int .u8 D.toNat:=tq i 3;replace H:Sp w0 ((Bk s 28 [.int .u8 f.toNat,.int .u8 0,.int .u8 0,.int .u32 tn,.slice none 0 0,.string ⟨#[]⟩,.string ⟨#[]⟩])::rest) wx:=H;have r:=hid a;clear a o i p;have z:=H.frozen 0 rfl 1;have t:=H.cell 0 rfl 1;refine so ?_;go_step;exact r.out _ _ rfl (H.set 1 (.int .u8 D.toNat))
      case p11 =>
       intro x wx A rest o i p H K a;have o3:A.tmps[36]?.getD undef=.pointer (some ⟨s,2,none⟩):=tq i 10;have o4:A.tmps[34]?.getD undef=.int .u8 C.toNat:=tq i 7;replace H:Sp w0 ((Bk s 28 [.int .u8 f.toNat,.int .u8 D.toNat,.int .u8 0,.int .u32 tn,.slice none 0 0,.string ⟨#[]⟩,.string ⟨#[]⟩])::rest) wx:=H;have r:=hid a;clear a o i p;have z:=H.frozen 0 rfl 2;have t:=H.cell 0 rfl 2;refine so ?_;go_step;exact r.out _ _ rfl (H.set 2 (.int .u8 C.toNat))
     case hend =>
      intro x wx A hA i H;replace H:Sp w0 ((Bk ga 3 [.int .i64 I])::(Bk l 4 [.bool b3])::(Bk s 28 [.int .u8 f.toNat,.int .u8 D.toNat,.int .u8 C.toNat,.int .u32 tn,.slice none 0 0,.string ⟨#[]⟩,.string ⟨#[]⟩])::Bk G 118 [.func (.func 62) #[] #[.pointer (some ⟨l,0,none⟩),.pointer (some ⟨gb,0,none⟩),.pointer (some ⟨ga,0,none⟩)]]::Bk y 28 [.int .u8 0,.int .u8 0,.int .u8 0,.int .u32 0,.slice none 0 0,.string ⟨#[]⟩,.string ⟨#[]⟩]::Bk gb 23 [.slice (some ad) n c]::L) wx:=H;clear i;simp only [putAll,Act.put,List.setIfInBounds_toArray,List.set_cons_succ,List.set_cons_zero,Nat.reduceAdd] at hA;subst hA;have K7:=hid H;clear H;go_wp2_with fail
      go_meet
      exact⟨rfl,K7.out⟩
   case rest =>
    obtain⟨rfl,S⟩:=hcut;replace S:Sp w0 (Bk ga 3 [.int .i64 I]::Bk l 4 [.bool b3]::Bk s 28 [.int .u8 f.toNat,.int .u8 D.toNat,.int .u8 C.toNat,.int .u32 tn,.slice none 0 0,.string ⟨#[]⟩,.string ⟨#[]⟩]::Bk G 118 [.func (.func 62) #[] #[.pointer (some ⟨l,0,none⟩),.pointer (some ⟨gb,0,none⟩),.pointer (some ⟨ga,0,none⟩)]]::Bk y 28 [.int .u8 0,.int .u8 0,.int .u8 0,.int .u32 0,.slice none 0 0,.string ⟨#[]⟩,.string ⟨#[]⟩]::Bk gb 23 [.slice (some ad) n c]::L) wc:=S;obtain⟨⟨F,⟨a4,b4⟩⟩,i9⟩:∃q,PG.exR B f ⟨I,b3⟩=q:=⟨_,rfl⟩;obtain⟨E,l1⟩:∃m,F.length=m:=⟨_,rfl⟩;have l2:a4<=n:=by have:=UY B f ⟨I,b3⟩ (by rw [Q.out]; exact d7.out); rw [i9,Q.out] at this; exact this
    have l3:=hid l2;have j0:=hid i9;have f1:=hid l1;clear i9 l1 l2;have N:=S;clear S;have c0:wc.cell? ⟨s,0,none⟩=some (.int .u8 f.toNat):=N.cell 2 rfl 0;have c1:wc.cell? ⟨s,1,none⟩=some (.int .u8 D.toNat):=N.cell 2 rfl 1;have c2:wc.cell? ⟨s,2,none⟩=some (.int .u8 C.toNat):=N.cell 2 rfl 2;have c3:wc.cell? ⟨s,3,none⟩=some (.int .u32 tn):=N.cell 2 rfl 3;have c4:wc.cell? ⟨s,4,none⟩=some (.slice none 0 0):=N.cell 2 rfl 4;have c5:wc.cell? ⟨s,5,none⟩=some (.string ⟨#[]⟩):=N.cell 2 rfl 5;have c6:wc.cell? ⟨s,6,none⟩=some (.string ⟨#[]⟩):=N.cell 2 rfl 6;have Z:=hid (ZM ⟨f,D,C,tn,[],[],[]⟩ (.slice none 0 0) 4 (by omega) N);go_wp2_with fail
    refine Z.out.mono ?_;rintro _ w5 ⟨rfl,S⟩;clear Z N c0 c1 c2 c3 c4 c5 c6;obtain⟨f4,j1⟩:∃b,PG.has f 4=b:=⟨_,rfl⟩;simp only [j1];have l4:=hid j1;clear j1
    
    go_upto_if 38 with (fail)
    go_cut [5] from 37 (fun s5 wx=>s5=.int .i64 0/\∃A0 ce,Sp w0 (Row 5 1 (.slice A0 E ce) E (cells8 F)::Bk ga 3 [.int .i64 a4]::Bk l 4 [.bool b4]::Bk s 28 [.int .u8 f.toNat,.int .u8 D.toNat,.int .u8 C.toNat,.int .u32 tn,.slice A0 E ce,.string ⟨#[]⟩,.string ⟨#[]⟩]::Bk G 118 [.func (.func 62) #[] #[.pointer (some ⟨l,0,none⟩),.pointer (some ⟨gb,0,none⟩),.pointer (some ⟨ga,0,none⟩)]]::Bk y 28 [.int .u8 0,.int .u8 0,.int .u8 0,.int .u32 0,.slice none 0 0,.string ⟨#[]⟩,.string ⟨#[]⟩]::Bk gb 23 [.slice (some ad) n c]::L) wx)
    case first =>
     cases f4 with
     | false =>
      have e:(F,(⟨a4,b4⟩:PG.S))=([],⟨I,b3⟩):=by rw [<- j0.out]; unfold PG.exR; rw [l4.out]; rfl
      injection e with p1 p2
      injection p2 with p3 p4
      subst p1 p3 p4;have o6:E=0:=f1.out.symm;subst o6;have V:=hid (S.rowNil 5 1);clear S;go_wp2_with fail
      go_meet
      exact⟨rfl,none,0,V.out⟩
     | true =>
      obtain⟨⟨u1,⟨g1,d1⟩⟩,f3⟩:∃q,PG.next B ⟨I,b3⟩ 2=q:=⟨_,rfl⟩;have l5:u1.length<=2:=by have:=Yu B ⟨I,b3⟩ 2; rw [f3] at this; exact this
      have l6:g1<=n:=by have:=ZN B ⟨I,b3⟩ 2 (by rw [Q.out]; exact d7.out); rw [f3,Q.out] at this; exact this
      obtain⟨tn2,d2⟩:∃m,PG.num u1=m:=⟨_,rfl⟩;have t0:tn2<65536:=by
       have:=PG.num_lt u1;rw [d2] at this;have h9:256 ^ u1.length<=256 ^ 2:=Nat.pow_le_pow_right (by decide) l5;omega
      have j2:PG.next B ⟨g1,d1⟩ tn2=(F,⟨a4,b4⟩):=by rw [<- j0.out]; unfold PG.exR; rw [if_pos l4.out,f3,d2]
      have t4:E<=65535:=by have:=Yu B ⟨g1,d1⟩ tn2; rw [j2,f1.out] at this; omega
      have o7:=hid f3;have o8:=hid j2;have o9:=hid (show u1.length<=4 by omega);have q7:=hid l6;have l7:=hid d2;clear f3 j2 l5 l6 d2;go_wp2_with fail
      refine Zn (L:=Bk G 118 [.func (.func 62) #[] #[.pointer (some ⟨l,0,none⟩),.pointer (some ⟨gb,0,none⟩),.pointer (some ⟨ga,0,none⟩)]]::Bk y 28 [.int .u8 0,.int .u8 0,.int .u8 0,.int .u32 0,.slice none 0 0,.string ⟨#[]⟩,.string ⟨#[]⟩]::Bk gb 23 [.slice (some ad) n c]::L) [some (.func (.func 62) #[] #[.pointer (some ⟨l,0,none⟩),.pointer (some ⟨gb,0,none⟩),.pointer (some ⟨ga,0,none⟩)]),some (.func (.func 62) #[] #[.pointer (some ⟨l,0,none⟩),.pointer (some ⟨gb,0,none⟩),.pointer (some ⟨ga,0,none⟩)]),none,some (.int .u32 tn2),some (.int .i64 tn2),none,none,some (.pointer (some ⟨s,4,none⟩)),some (undef)] (fun _ _ _=>True) (fun ix ux vx=>match ix with | 2=>(fun vv=>[Nx (some ad) n c B (u1) vv,Bk ga 3 [.int .i64 g1],Bk l 4 [.bool d1]]) vx | 3=>(fun _=>[Bk ga 3 [.int .i64 g1],Bk l 4 [.bool d1]]) vx | 5=>(fun vv=>[Nx (some ad) n c B (F) vv,Bk ga 3 [.int .i64 a4],Bk l 4 [.bool b4]]) vx | 6=>(fun vv=>[Row 5 1 vv E (cells8 F),Bk ga 3 [.int .i64 a4],Bk l 4 [.bool b4]]) vx | 8=>(fun _=>[Bk s 28 [.int .u8 f.toNat,.int .u8 D.toNat,.int .u8 C.toNat,.int .u32 tn,ux,.string ⟨#[]⟩,.string ⟨#[]⟩],Row 5 1 ux E (cells8 F),Bk ga 3 [.int .i64 a4],Bk l 4 [.bool b4]]) vx | _=>[]) (fun ix=>match ix with | 2=>[Bk ga 3 [.int .i64 I],Bk l 4 [.bool b3]] | 8=>[Bk s 28 [.int .u8 f.toNat,.int .u8 D.toNat,.int .u8 C.toNat,.int .u32 tn,.slice none 0 0,.string ⟨#[]⟩,.string ⟨#[]⟩]] | _=>[]) 9 83
       [some 39,some 40,some 41,some 42,some 43,some 44,some 45,some 46,none]
       [[],[],[1],[2,2],[3],[0,4,3],[5,5],[0,1,2,3,4,5,6],[7,6,6,0,1,2,3,4,5,6]]
       [[],[],[1],[1,2],[1,2,3],[0,1,2,3,4],[0,1,2,3,4,5],[0,1,2,3,4,5,6],[0,1,2,3,4,5,6,7]]
       [[],[],[],[2],[],[3],[5],[],[6]] [[],[],[],[],[],[],[],[],[]] [none,none,none,none,none,none,none,none,some 6] [(8,.pointer (some ⟨G,0,none⟩)),(10,.pointer (some ⟨s,0,none⟩))]
       (by kernel_rfl) rfl (by decide) (by rfl) (by decide +kernel) rfl (by simp) (by rfl) ((S.pick 3 [0,1,2])) ?hstep ?hend
      case hstep =>
       refine⟨?p0,⟨?p1,⟨?p2,⟨?p3,⟨?p4,⟨?p5,⟨?p6,⟨?p7,⟨?p8,trivial⟩⟩⟩⟩⟩⟩⟩⟩⟩
       case p4 | p7 =>
        intro x wx A rest o i p H K r;replace r:=hid r;clear i p;repeat (obtain⟨_,o⟩:=o)
        refine so ?_;go_step;exact r.out _ _ rfl H
       case p0 =>
        intro x wx A rest o i p H K a;have e8:A.tmps[8]?.getD undef=.pointer (some ⟨G,0,none⟩):=Zs o (8,_) (by simp);have r:=hid a;clear a o i;have cc:=p _ LF.out _ _ H;refine so ?_;go_step;exact r.out _ _ rfl H
       case p1 =>
        intro x wx A rest o i p H K a;have e8:A.tmps[8]?.getD undef=.pointer (some ⟨G,0,none⟩):=Zs o (8,_) (by simp);have r:=hid a;clear a o i;have cc:=p _ LF.out _ _ H;refine so ?_;go_step;exact r.out _ _ rfl H
       case p2 =>
        intro x wx A rest o i p H K a;have t5:A.tmps[40]?.getD undef=.func (.func 62) #[] #[.pointer (some ⟨l,0,none⟩),.pointer (some ⟨gb,0,none⟩),.pointer (some ⟨ga,0,none⟩)]:=tq i 1;replace H:Sp w0 ((Bk ga 3 [.int .i64 I])::(Bk l 4 [.bool b3])::rest) wx:=H;have r:Hid (∀(v:Value) (w' : World),(True)->Sp w0 ((Nx (some ad) n c B (u1) v)::(Bk ga 3 [.int .i64 g1])::(Bk l 4 [.bool d1])::rest) w'->K (A.put (some 41) v) w'):=hid a;clear a o i;have HC:=hid (p _ LC.out);clear p;have HW:=hid (ZR ga l gb (some ad) n c B ⟨I,b3⟩ 2 H HC.out Q.out d7.out (by decide) (by omega) hcn a7.out);rw [o7.out] at HW;refine so ?_;go_wp2_with fail
        refine HW.out.mono ?_;rintro _ w9 ⟨v9,rfl,X⟩;exact r.out _ _ trivial X
       case p3 =>
        intro x wx A rest o i p H K a;have t6:True:=(i 2 (by decide)).1;have t7:A.tmps[41]?.getD undef=x 2:=(i 2 (by decide)).2 41 rfl;replace H:Sp w0 ((Nx (some ad) n c B (u1) (x 2))::(Bk ga 3 [.int .i64 g1])::(Bk l 4 [.bool d1])::rest) wx:=H;have r:=hid a;clear a o i;have HC:=hid (Nx.byt H (fun _ _ q=>p _ LB.out _ _ (q.pick 2 [])));clear p;refine so ?_;go_wp2_with fail
        refine(YM H HC.out o9.out).mono ?_;rw [l7.out];rintro _ w9 ⟨rfl,X⟩;exact r.out _ _ rfl X.tail
       case p5 =>
        intro x wx A rest o i p H K a;have t8:A.tmps[39]?.getD undef=.func (.func 62) #[] #[.pointer (some ⟨l,0,none⟩),.pointer (some ⟨gb,0,none⟩),.pointer (some ⟨ga,0,none⟩)]:=tq i 0;have u0:A.tmps[43]?.getD undef=.int .i64 tn2:=tq i 4;replace H:Sp w0 ((Bk ga 3 [.int .i64 g1])::(Bk l 4 [.bool d1])::rest) wx:=H;have r:Hid (∀(v:Value) (w' : World),(True)->Sp w0 ((Nx (some ad) n c B (F) v)::(Bk ga 3 [.int .i64 a4])::(Bk l 4 [.bool b4])::rest) w'->K (A.put (some 44) v) w'):=hid a;clear a o i;have HC:=hid (p _ LC.out);clear p;have HW:=hid (ZR ga l gb (some ad) n c B ⟨g1,d1⟩ tn2 H HC.out Q.out q7.out (by omega) (by omega) hcn a7.out);rw [o8.out] at HW;refine so ?_;go_wp2_with fail
        refine HW.out.mono ?_;rintro _ w9 ⟨v9,rfl,X⟩;exact r.out _ _ trivial X
       case p6 =>
        intro x wx A rest o i p H K a;have u3:True:=(i 5 (by decide)).1;have u4:A.tmps[44]?.getD undef=x 5:=(i 5 (by decide)).2 44 rfl;replace H:Sp w0 ((Nx (some ad) n c B (F) (x 5))::(Bk ga 3 [.int .i64 a4])::(Bk l 4 [.bool b4])::rest) wx:=H;have r:Hid (∀(v:Value) (w' : World),(True)->Sp w0 ((Row 5 1 v E (cells8 F))::(Bk ga 3 [.int .i64 a4])::(Bk l 4 [.bool b4])::rest) w'->K (A.put (some 45) v) w'):=hid a;clear a o i;have HC:=hid (Nx.byt H (fun _ _ q=>p _ LB.out _ _ (q.pick 2 [])));clear p;refine so ?_;go_wp2_with fail
        refine(VY H HC.out (by rw [f1.out]; omega)).mono ?_;rw [f1.out];rintro _ w9 ⟨v9,rfl,X⟩;exact r.out _ _ trivial (X.pick 2 [0])
       case p8 =>
        intro x wx A rest o i p H K a;have u5:A.tmps[46]?.getD undef=.pointer (some ⟨s,4,none⟩):=tq i 7;have u6:True:=(i 6 (by decide)).1;have q8:A.tmps[45]?.getD undef=x 6:=(i 6 (by decide)).2 45 rfl;replace H:Sp w0 ((Bk s 28 [.int .u8 f.toNat,.int .u8 D.toNat,.int .u8 C.toNat,.int .u32 tn,.slice none 0 0,.string ⟨#[]⟩,.string ⟨#[]⟩])::(Row 5 1 (x 6) E (cells8 F))::(Bk ga 3 [.int .i64 a4])::(Bk l 4 [.bool b4])::rest) wx:=H;have r:Hid (∀(v:Value) (w' : World),(v=undef)->Sp w0 ((Bk s 28 [.int .u8 f.toNat,.int .u8 D.toNat,.int .u8 C.toNat,.int .u32 tn,(x 6),.string ⟨#[]⟩,.string ⟨#[]⟩])::(Row 5 1 (x 6) E (cells8 F))::(Bk ga 3 [.int .i64 a4])::(Bk l 4 [.bool b4])::rest) w'->K (A.put none v) w'):=hid a;clear a o i p;obtain⟨A0,ce,h3,_,_⟩:=Row.form H 1 rfl;rw [h3] at r H q8;have z:=H.frozen 0 rfl 4;have t:=H.cell 0 rfl 4;refine so ?_;go_step;exact r.out _ _ rfl (H.set 4 (.slice A0 E ce))
      case hend =>
       intro x wx A hA i H;replace H:Sp w0 ((Bk s 28 [.int .u8 f.toNat,.int .u8 D.toNat,.int .u8 C.toNat,.int .u32 tn,(x 6),.string ⟨#[]⟩,.string ⟨#[]⟩])::(Row 5 1 (x 6) E (cells8 F))::(Bk ga 3 [.int .i64 a4])::(Bk l 4 [.bool b4])::Bk G 118 [.func (.func 62) #[] #[.pointer (some ⟨l,0,none⟩),.pointer (some ⟨gb,0,none⟩),.pointer (some ⟨ga,0,none⟩)]]::Bk y 28 [.int .u8 0,.int .u8 0,.int .u8 0,.int .u32 0,.slice none 0 0,.string ⟨#[]⟩,.string ⟨#[]⟩]::Bk gb 23 [.slice (some ad) n c]::L) wx:=H;clear i;simp only [putAll,Act.put,List.setIfInBounds_toArray,List.set_cons_succ,List.set_cons_zero,Nat.reduceAdd] at hA;subst hA;obtain⟨A0,ce,h3,_,_⟩:=Row.form H 1 rfl;rw [h3] at H;have K7:=hid H;clear H h3;go_wp2_with fail
       go_meet
       exact⟨rfl,A0,ce,K7.out.pick 4 [1,2,3,0]⟩
    case rest =>
     obtain⟨rfl,A0,ce,N⟩:=hcut;obtain⟨⟨W,⟨a5,b5⟩⟩,b9⟩:∃q,PG.txR B f 8 ⟨a4,b4⟩=q:=⟨_,rfl⟩;have l8:a5<=n:=by have:=Ws B f 8 ⟨a4,b4⟩ (by rw [Q.out]; exact l3.out); rw [b9,Q.out] at this; exact this
     have f5:=hid b9;have l9:=hid l8;clear b9 l8;have c0:wc.cell? ⟨s,0,none⟩=some (.int .u8 f.toNat):=N.cell 3 rfl 0;have c1:wc.cell? ⟨s,1,none⟩=some (.int .u8 D.toNat):=N.cell 3 rfl 1;have c2:wc.cell? ⟨s,2,none⟩=some (.int .u8 C.toNat):=N.cell 3 rfl 2;have c3:wc.cell? ⟨s,3,none⟩=some (.int .u32 tn):=N.cell 3 rfl 3;have c4:wc.cell? ⟨s,4,none⟩=some (.slice A0 E ce):=N.cell 3 rfl 4;have c5:wc.cell? ⟨s,5,none⟩=some (.string ⟨#[]⟩):=N.cell 3 rfl 5;have c6:wc.cell? ⟨s,6,none⟩=some (.string ⟨#[]⟩):=N.cell 3 rfl 6;have Z:=hid (ZM ⟨f,D,C,tn,F,[],[]⟩ (.slice A0 E ce) 8 (by omega) N);go_wp2_with fail
     refine Z.out.mono ?_;rintro _ w5 ⟨rfl,S⟩;clear Z N c0 c1 c2 c3 c4 c5 c6;obtain⟨f8,j3⟩:∃b,PG.has f 8=b:=⟨_,rfl⟩;simp only [j3];have m0:=hid j3;clear j3
     
     go_upto_if 48 with (fail)
     go_cut [5] from 47 (fun s5 wx=>s5=.int .i64 0/\∃A0 ce,Sp w0 (Row 5 1 (.slice A0 E ce) E (cells8 F)::Bk ga 3 [.int .i64 a5]::Bk l 4 [.bool b5]::Bk s 28 [.int .u8 f.toNat,.int .u8 D.toNat,.int .u8 C.toNat,.int .u32 tn,.slice A0 E ce,.string (strOf W),.string ⟨#[]⟩]::Bk G 118 [.func (.func 62) #[] #[.pointer (some ⟨l,0,none⟩),.pointer (some ⟨gb,0,none⟩),.pointer (some ⟨ga,0,none⟩)]]::Bk y 28 [.int .u8 0,.int .u8 0,.int .u8 0,.int .u32 0,.slice none 0 0,.string ⟨#[]⟩,.string ⟨#[]⟩]::Bk gb 23 [.slice (some ad) n c]::L) wx)
     case first =>
      cases f8 with
      | false =>
       have e:(W,(⟨a5,b5⟩:PG.S))=([],⟨a4,b4⟩):=by rw [<- f5.out]; unfold PG.txR; rw [m0.out]; rfl
       injection e with p1 p2
       injection p2 with p3 p4
       subst p1 p3 p4;have V:=hid S;clear S;go_wp2_with fail
       go_meet
       exact⟨rfl,A0,ce,V.out⟩
      | true =>
       have f6:PG.text B ⟨a4,b4⟩=(W,⟨a5,b5⟩):=by rw [<- f5.out]; unfold PG.txR; rw [if_pos m0.out]
       have Z:=hid (XP ga l gb G (some ad) n c B ⟨a4,b4⟩ (S.pick 4 [1,2,0,3]) (fun _ _ q=>LC.out _ _ (q.pick 2 [])) (fun _ _ q=>LF.out _ _ (q.pick 2 [])) (fun _ _ q=>LB.out _ _ (q.pick 2 [])) Q.out l3.out hnm hcn a7.out);rw [f6] at Z;clear f6 S;go_wp2_with fail
       refine Z.out.mono ?_;rintro _ w6 ⟨rfl,V⟩;clear Z;have z9:w6.frozen? ⟨s,5,none⟩=false:=V.frozen 3 rfl 5;have t9:w6.cell? ⟨s,5,none⟩=some (.string ⟨#[]⟩):=V.cell 3 rfl 5;have K7:=hid ((V.pick 4 [3,0,1,2]).set 5 (.string (strOf W)));clear V;go_wp2_with fail
       go_meet
       exact⟨rfl,A0,ce,K7.out.pick 4 [3,1,2,0]⟩
     case rest =>
      obtain⟨rfl,A0,ce,N⟩:=hcut;obtain⟨⟨nt,⟨a6,b6⟩⟩,b9⟩:∃q,PG.txR B f 16 ⟨a5,b5⟩=q:=⟨_,rfl⟩;have h5:a6<=n:=by have:=Ws B f 16 ⟨a5,b5⟩ (by rw [Q.out]; exact l9.out); rw [b9,Q.out] at this; exact this
      have f7:=hid b9;have m1:=hid h5;clear b9 h5;have c0:wc.cell? ⟨s,0,none⟩=some (.int .u8 f.toNat):=N.cell 3 rfl 0;have c1:wc.cell? ⟨s,1,none⟩=some (.int .u8 D.toNat):=N.cell 3 rfl 1;have c2:wc.cell? ⟨s,2,none⟩=some (.int .u8 C.toNat):=N.cell 3 rfl 2;have c3:wc.cell? ⟨s,3,none⟩=some (.int .u32 tn):=N.cell 3 rfl 3;have c4:wc.cell? ⟨s,4,none⟩=some (.slice A0 E ce):=N.cell 3 rfl 4;have c5:wc.cell? ⟨s,5,none⟩=some (.string (strOf W)):=N.cell 3 rfl 5;have c6:wc.cell? ⟨s,6,none⟩=some (.string ⟨#[]⟩):=N.cell 3 rfl 6;have Z:=hid (ZM ⟨f,D,C,tn,F,W,[]⟩ (.slice A0 E ce) 16 (by omega) N);go_wp2_with fail
      refine Z.out.mono ?_;rintro _ w5 ⟨rfl,S⟩;clear Z N c0 c1 c2 c3 c4 c5 c6;obtain⟨q9,f9⟩:∃b,PG.has f 16=b:=⟨_,rfl⟩;simp only [f9];have i0:=hid f9;clear f9
      
      go_upto_if 53 with (fail)
      go_cut [5] from 52 (fun s5 wx=>s5=.int .i64 0/\∃A0 ce,Sp w0 (Row 5 1 (.slice A0 E ce) E (cells8 F)::Bk ga 3 [.int .i64 a6]::Bk l 4 [.bool b6]::Bk s 28 [.int .u8 f.toNat,.int .u8 D.toNat,.int .u8 C.toNat,.int .u32 tn,.slice A0 E ce,.string (strOf W),.string (strOf nt)]::Bk G 118 [.func (.func 62) #[] #[.pointer (some ⟨l,0,none⟩),.pointer (some ⟨gb,0,none⟩),.pointer (some ⟨ga,0,none⟩)]]::Bk y 28 [.int .u8 0,.int .u8 0,.int .u8 0,.int .u32 0,.slice none 0 0,.string ⟨#[]⟩,.string ⟨#[]⟩]::Bk gb 23 [.slice (some ad) n c]::L) wx)
      case first =>
       cases q9 with
       | false =>
        have e:(nt,(⟨a6,b6⟩:PG.S))=([],⟨a5,b5⟩):=by rw [<- f7.out]; unfold PG.txR; rw [i0.out]; rfl
        injection e with p1 p2
        injection p2 with p3 p4
        subst p1 p3 p4;have V:=hid S;clear S;go_wp2_with fail
        go_meet
        exact⟨rfl,A0,ce,V.out⟩
       | true =>
        have f6:PG.text B ⟨a5,b5⟩=(nt,⟨a6,b6⟩):=by rw [<- f7.out]; unfold PG.txR; rw [if_pos i0.out]
        have Z:=hid (XP ga l gb G (some ad) n c B ⟨a5,b5⟩ (S.pick 4 [1,2,0,3]) (fun _ _ q=>LC.out _ _ (q.pick 2 [])) (fun _ _ q=>LF.out _ _ (q.pick 2 [])) (fun _ _ q=>LB.out _ _ (q.pick 2 [])) Q.out l9.out hnm hcn a7.out);rw [f6] at Z;clear f6 S;go_wp2_with fail
        refine Z.out.mono ?_;rintro _ w6 ⟨rfl,V⟩;clear Z;have z9:w6.frozen? ⟨s,6,none⟩=false:=V.frozen 3 rfl 6;have t9:w6.cell? ⟨s,6,none⟩=some (.string ⟨#[]⟩):=V.cell 3 rfl 6;have K7:=hid ((V.pick 4 [3,0,1,2]).set 6 (.string (strOf nt)));clear V;go_wp2_with fail
        go_meet
        exact⟨rfl,A0,ce,K7.out.pick 4 [3,1,2,0]⟩
      case rest =>
       obtain⟨rfl,A0,ce,N⟩:=hcut;obtain⟨⟨zt,⟨a8,b8⟩⟩,j4⟩:∃q,(if PG.has f 2=true then PG.next B ⟨a6,b6⟩ 2 else ([],⟨a6,b6⟩))=q:=⟨_,rfl⟩;obtain⟨d4,h6⟩:∃q,PCrc.of (B.take a6)=q:=⟨_,rfl⟩;have m2:d4<4294967296:=by rw [<- h6]; exact PCrc.of_lt _
       have h7:Hid (T=if PG.has f 2=true/\PG.num zt≠d4 % 65536/\b8=false then .error 21 else if b8=true then .error 4 else .ok (⟨f,D,C,tn,F,W,nt⟩,a8)):=by
        rw [<- HT.out];unfold PG.head;rw [if_neg (by rw [d5.out]; decide)];simp only [HF.out,k0.out,g8.out,h0.out,j0.out,f5.out,f7.out,j4,h6,k4.out];exact hid rfl
       have m3:=hid j4;have r7:=hid h6;clear j4 h6;have c6:wc.cell? ⟨ga,0,none⟩=some (.int .i64 a6):=N.cell 1 rfl 0;have cb:wc.cell? ⟨gb,0,none⟩=some (.slice (some ad) n c):=LC.out _ _ (N.pick 4 []);have h5:=m1.out;have r8:(a6:Int)<=(c:Int):=by omega
       have KN:=N.newBk [.slice (some ad) a6 c] 23;have j5:=hid (Xf KN 0 rfl ((LB.out _ _ (KN.pick 5 [])).take a6 (by rw [Q.out]; exact h5)) (m7.out _ _ (KN.pick 8 [])) (by rw [List.length_take]; omega));rw [r7.out] at j5;have r9:bits .and .u32 (d4:Int) 65535=((d4 % 65536:Nat):Int):=by
        have h:=u32_and_nat d4 65535 m2 (by decide);rw [show(65535:Nat)=2 ^ 16 - 1 by decide,Nat.and_two_pow_sub_one_eq_mod] at h;exact h
       obtain⟨sm,m4⟩:∃q,d4 % 65536=q:=⟨_,rfl⟩;rw [m4] at r9 h7;clear m4 KN N;go_wp2_with fail
       refine j5.out.mono ?_;rintro _ w9 ⟨rfl,K9⟩;clear j5 c6 cb r8;replace K9:=K9.tail;go_upto_region 16 with (fail)
       go_cut [5,63] from 64 (fun s5 s63 wx=>s5=.int .i64 0/\s63=.bool (decide (PG.has f 2=true/\PG.num zt≠sm/\b8=false))/\Sp w0 (Row 5 1 (.slice A0 E ce) E (cells8 F)::Bk ga 3 [.int .i64 a8]::Bk l 4 [.bool b8]::Bk s 28 [.int .u8 f.toNat,.int .u8 D.toNat,.int .u8 C.toNat,.int .u32 tn,.slice A0 E ce,.string (strOf W),.string (strOf nt)]::Bk G 118 [.func (.func 62) #[] #[.pointer (some ⟨l,0,none⟩),.pointer (some ⟨gb,0,none⟩),.pointer (some ⟨ga,0,none⟩)]]::Bk y 28 [.int .u8 0,.int .u8 0,.int .u8 0,.int .u32 0,.slice none 0 0,.string ⟨#[]⟩,.string ⟨#[]⟩]::Bk gb 23 [.slice (some ad) n c]::L) wx)
       case first =>
        have c0:w9.cell? ⟨s,0,none⟩=some (.int .u8 f.toNat):=K9.cell 3 rfl 0;have c1:w9.cell? ⟨s,1,none⟩=some (.int .u8 D.toNat):=K9.cell 3 rfl 1;have c2:w9.cell? ⟨s,2,none⟩=some (.int .u8 C.toNat):=K9.cell 3 rfl 2;have c3:w9.cell? ⟨s,3,none⟩=some (.int .u32 tn):=K9.cell 3 rfl 3;have c4:w9.cell? ⟨s,4,none⟩=some (.slice A0 E ce):=K9.cell 3 rfl 4;have c5:w9.cell? ⟨s,5,none⟩=some (.string (strOf W)):=K9.cell 3 rfl 5;have c6:w9.cell? ⟨s,6,none⟩=some (.string (strOf nt)):=K9.cell 3 rfl 6;have Z:=hid (ZM ⟨f,D,C,tn,F,W,nt⟩ (.slice A0 E ce) 2 (by omega) K9);clear K9;go_wp2_with fail
        refine Z.out.mono ?_;rintro _ w5 ⟨rfl,S⟩;clear Z c0 c1 c2 c3 c4 c5 c6;obtain⟨f2,c7⟩:∃b,PG.has f 2=b:=⟨_,rfl⟩;simp only [c7];cases f2 with
        | false =>
         have e:=m3.out;rw [c7] at e;have e2:(zt,(⟨a8,b8⟩:PG.S))=([],⟨a6,b6⟩):=e.symm;injection e2 with p1 p2
         injection p2 with p3 p4
         subst p1 p3 p4;have HD:Hid (decide (PG.has f 2=true/\PG.num []≠sm/\b8=false)=false):=hid (decide_eq_false fun q=>by rw [c7] at q; cases q.1);have V:=hid S;clear S c7 e;go_wp2_with fail
         go_meet
         exact⟨rfl,congrArg Value.bool HD.out.symm,V.out⟩
        | true =>
         have j6:PG.next B ⟨a6,b6⟩ 2=(zt,⟨a8,b8⟩):=by have e:=m3.out; rw [if_pos c7] at e; exact e
         have Z:=hid (ZR ga l gb (some ad) n c B ⟨a6,b6⟩ 2 (S.pick 4 [1,2,0,3]) (fun _ _ q=>LC.out _ _ (q.pick 2 [])) Q.out m1.out (by decide) (by omega) hcn a7.out);rw [j6] at Z;have cf:w5.cell? ⟨G,0,none⟩=some (.func (.func 62) #[] #[.pointer (some ⟨l,0,none⟩),.pointer (some ⟨gb,0,none⟩),.pointer (some ⟨ga,0,none⟩)]):=LF.out _ _ (S.pick 4 []);have m5:zt.length<=4:=by have:=Yu B ⟨a6,b6⟩ 2; rw [j6] at this; exact Nat.le_trans this (by decide)
         have s0:=hid c7;have s1:=hid m5;clear S c7 j6 m5;go_wp2_with fail
         refine Z.out.mono ?_;rintro _ w6 ⟨v6,rfl,V⟩;clear Z cf;have j7:=hid (YM V (Nx.byt V (fun _ _ q=>LB.out _ _ (q.pick 4 []))) s1.out);clear V;obtain⟨m,hm⟩:∃m,PG.num zt=m:=⟨_,rfl⟩;have HM:=hid hm;rw [hm] at j7;clear hm;go_wp2_with fail
         refine j7.out.mono ?_;rintro _ w7 ⟨rfl,K7⟩;clear j7;have K8:=hid (K7.pick 5 [3,1,2,4]);have cs:w7.cell? ⟨l,0,none⟩=some (.bool b8):=K7.cell 2 rfl 0;clear K7;by_cases g0:m=sm
         ·have y1:(m:Int)=(sm:Int):=by omega
          have HD:Hid (decide (PG.has f 2=true/\PG.num zt≠sm/\b8=false)=false):=hid (decide_eq_false fun q=>q.2.1 (by rw [HM.out]; exact g0));clear g0;go_wp2_with fail
          go_meet
          exact⟨rfl,congrArg Value.bool HD.out.symm,K8.out⟩
         ·have y1:¬ (m:Int)=(sm:Int):=by omega
          cases b8 with
          | true =>
           have HD:Hid (decide (PG.has f 2=true/\PG.num zt≠sm/\true=false)=false):=hid (decide_eq_false fun q=>by cases q.2.2);clear g0;go_wp2_with fail
           go_meet
           exact⟨rfl,congrArg Value.bool HD.out.symm,K8.out⟩
          | false =>
           have HD:Hid (decide (PG.has f 2=true/\PG.num zt≠sm/\false=false)=true):=hid (decide_eq_true ⟨s0.out,by rw [HM.out]; exact g0,rfl⟩);have e9:Hid (((m:Int) != (sm:Int))=true):=hid (by rw [bne_iff_ne]; omega);clear g0;go_wp2_with fail
           go_meet
           exact⟨rfl,congrArg Value.bool (e9.out.trans HD.out.symm),K8.out⟩
       case rest =>
        obtain⟨rfl,rfl,O⟩:=hcut;obtain⟨bad,a0⟩:∃q,decide (PG.has f 2=true/\PG.num zt≠sm/\b8=false)=q:=⟨_,rfl⟩;rw [a0];cases bad with
        | true =>
         have b7:T=.error 21:=by rw [h7.out,if_pos (of_decide_eq_true a0)]
         have g2:=hid b7;clear b7 a0;have r0:wc.cell? ⟨y,0,none⟩=some (.int .u8 0):=O.cell 5 rfl 0;have q0:wc.frozen? ⟨y,0,none⟩=false:=O.frozen 5 rfl 0;have r1:wc.cell? ⟨y,1,none⟩=some (.int .u8 0):=O.cell 5 rfl 1;have q1:wc.frozen? ⟨y,1,none⟩=false:=O.frozen 5 rfl 1;have r2:wc.cell? ⟨y,2,none⟩=some (.int .u8 0):=O.cell 5 rfl 2;have q2:wc.frozen? ⟨y,2,none⟩=false:=O.frozen 5 rfl 2;have r3:wc.cell? ⟨y,3,none⟩=some (.int .u32 0):=O.cell 5 rfl 3;have q3:wc.frozen? ⟨y,3,none⟩=false:=O.frozen 5 rfl 3;have r4:wc.cell? ⟨y,4,none⟩=some (.slice none 0 0):=O.cell 5 rfl 4;have q4:wc.frozen? ⟨y,4,none⟩=false:=O.frozen 5 rfl 4;have r5:wc.cell? ⟨y,5,none⟩=some (.string ⟨#[]⟩):=O.cell 5 rfl 5;have q5:wc.frozen? ⟨y,5,none⟩=false:=O.frozen 5 rfl 5;have r6:wc.cell? ⟨y,6,none⟩=some (.string ⟨#[]⟩):=O.cell 5 rfl 6;have q6:wc.frozen? ⟨y,6,none⟩=false:=O.frozen 5 rfl 6;go_wp2_with fail
         have KF:=(((((((O.pick 7 [5,0,1,2,3,4,6]).set 0 (.int .u8 0)).set 1 (.int .u8 0)).set 2 (.int .u8 0)).set 3 (.int .u32 0)).set 4 (.slice none 0 0)).set 5 (.string ⟨#[]⟩)).set 6 (.string ⟨#[]⟩);refine bodyPost_ret (Z5 rfl _ rfl (Zl KF 0 rfl) Tryz.isAgg28 Tryz.sizeOf28) rfl ?_;exact HEnd.no g2.out (KF.pick 7 [])
        | false =>
         have h8:=of_decide_eq_false a0;have cs:wc.cell? ⟨l,0,none⟩=some (.bool b8):=O.cell 2 rfl 0;cases b8 with
         | true =>
          have b7:T=.error 4:=by rw [h7.out,if_neg h8,if_pos rfl]
          have g2:=hid b7;clear b7 a0 h8;have r0:wc.cell? ⟨y,0,none⟩=some (.int .u8 0):=O.cell 5 rfl 0;have q0:wc.frozen? ⟨y,0,none⟩=false:=O.frozen 5 rfl 0;have r1:wc.cell? ⟨y,1,none⟩=some (.int .u8 0):=O.cell 5 rfl 1;have q1:wc.frozen? ⟨y,1,none⟩=false:=O.frozen 5 rfl 1;have r2:wc.cell? ⟨y,2,none⟩=some (.int .u8 0):=O.cell 5 rfl 2;have q2:wc.frozen? ⟨y,2,none⟩=false:=O.frozen 5 rfl 2;have r3:wc.cell? ⟨y,3,none⟩=some (.int .u32 0):=O.cell 5 rfl 3;have q3:wc.frozen? ⟨y,3,none⟩=false:=O.frozen 5 rfl 3;have r4:wc.cell? ⟨y,4,none⟩=some (.slice none 0 0):=O.cell 5 rfl 4;have q4:wc.frozen? ⟨y,4,none⟩=false:=O.frozen 5 rfl 4;have r5:wc.cell? ⟨y,5,none⟩=some (.string ⟨#[]⟩):=O.cell 5 rfl 5;have q5:wc.frozen? ⟨y,5,none⟩=false:=O.frozen 5 rfl 5;have r6:wc.cell? ⟨y,6,none⟩=some (.string ⟨#[]⟩):=O.cell 5 rfl 6;have q6:wc.frozen? ⟨y,6,none⟩=false:=O.frozen 5 rfl 6;go_wp2_with fail
          have KF:=(((((((O.pick 7 [5,0,1,2,3,4,6]).set 0 (.int .u8 0)).set 1 (.int .u8 0)).set 2 (.int .u8 0)).set 3 (.int .u32 0)).set 4 (.slice none 0 0)).set 5 (.string ⟨#[]⟩)).set 6 (.string ⟨#[]⟩);refine bodyPost_ret (Z5 rfl _ rfl (Zl KF 0 rfl) Tryz.isAgg28 Tryz.sizeOf28) rfl ?_;exact HEnd.no g2.out (KF.pick 7 [])
         | false =>
          have i1:T=.ok (⟨f,D,C,tn,F,W,nt⟩,a8):=by rw [h7.out,if_neg h8,if_neg (by decide)]
          have m6:=hid i1;have LA:Hid (Ent (Row 5 1 (.slice A0 E ce) E (cells8 F)::Bk ga 3 [.int .i64 a8]::Bk l 4 [.bool false]::Bk s 28 [.int .u8 f.toNat,.int .u8 D.toNat,.int .u8 C.toNat,.int .u32 tn,.slice A0 E ce,.string (strOf W),.string (strOf nt)]::Bk G 118 [.func (.func 62) #[] #[.pointer (some ⟨l,0,none⟩),.pointer (some ⟨gb,0,none⟩),.pointer (some ⟨ga,0,none⟩)]]::Bk gb 23 [.slice (some ad) n c]::L) fun w=>w.cell? ⟨ga,0,none⟩=some (.int .i64 a8)):=hid fun _ _ q=>q.cell 1 rfl 0;have LH:Hid (Ent (Row 5 1 (.slice A0 E ce) E (cells8 F)::Bk ga 3 [.int .i64 a8]::Bk l 4 [.bool false]::Bk s 28 [.int .u8 f.toNat,.int .u8 D.toNat,.int .u8 C.toNat,.int .u32 tn,.slice A0 E ce,.string (strOf W),.string (strOf nt)]::Bk G 118 [.func (.func 62) #[] #[.pointer (some ⟨l,0,none⟩),.pointer (some ⟨gb,0,none⟩),.pointer (some ⟨ga,0,none⟩)]]::Bk gb 23 [.slice (some ad) n c]::L) fun w=>∀j v,([.int .u8 f.toNat,.int .u8 D.toNat,.int .u8 C.toNat,.int .u32 tn,.slice A0 E ce,.string (strOf W),.string (strOf nt)]:List Value)[j]?=some v->w.cell? ((⟨s,0,none⟩:Addr).add j)=some v):=hid fun _ _ q=>Zl q 3 rfl;replace O:=hid O;clear i1 a0 h8;go_wp2_with fail
          refine Zb (L:=Row 5 1 (.slice A0 E ce) E (cells8 F)::Bk ga 3 [.int .i64 a8]::Bk l 4 [.bool false]::Bk s 28 [.int .u8 f.toNat,.int .u8 D.toNat,.int .u8 C.toNat,.int .u32 tn,.slice A0 E ce,.string (strOf W),.string (strOf nt)]::Bk G 118 [.func (.func 62) #[] #[.pointer (some ⟨l,0,none⟩),.pointer (some ⟨gb,0,none⟩),.pointer (some ⟨ga,0,none⟩)]]::Bk gb 23 [.slice (some ad) n c]::L) [some (.agg #[.int .u8 f.toNat,.int .u8 D.toNat,.int .u8 C.toNat,.int .u32 tn,.slice A0 E ce,.string (strOf W),.string (strOf nt)]),some (.int .i64 a8),some (undef),some (.int .i64 a8),some (.int .i64 0)] (fun _ _=>True) (fun ix vx=>match ix with | 2=>(fun _=>[Bk y 28 [.int .u8 f.toNat,.int .u8 D.toNat,.int .u8 C.toNat,.int .u32 tn,.slice A0 E ce,.string (strOf W),.string (strOf nt)]]) vx | _=>[]) (fun ix=>match ix with | 2=>[Bk y 28 [.int .u8 0,.int .u8 0,.int .u8 0,.int .u32 0,.slice none 0 0,.string ⟨#[]⟩,.string ⟨#[]⟩]] | _=>[]) 5 83
           [some 81,some 82,none,some 3,some 4]
           [[],[],[0,0],[1,2,0,1,2],[3,0,1,2,3]]
           [[],[],[0],[0,1,2],[0,1,2,3]]
           [[],[],[],[],[]] [[],[],[],[],[]] [(2,.pointer (some ⟨y,0,none⟩)),(6,.pointer (some ⟨ga,0,none⟩)),(10,.pointer (some ⟨s,0,none⟩))]
           (by kernel_rfl) rfl (by decide) (by rfl) (by decide +kernel) rfl rfl (by simp) ((O.out.pick 7 [5,0,1,2,3,4,6])) ?hstep ?hend
          case hstep =>
           refine⟨?p0,⟨?p1,⟨?p2,⟨?p3,⟨?p4,trivial⟩⟩⟩⟩⟩
           case p3 | p4 =>
            intro x wx A rest c8 o i p H K r;replace r:=hid r;clear i p c8;repeat (obtain⟨_,o⟩:=o)
            refine so ?_;go_step;exact r.out _ _ rfl H
           case p0 =>
            intro x wx A rest c8 o i p H K a;have i3:A.tmps[10]?.getD undef=.pointer (some ⟨s,0,none⟩):=Zc o (10,_) (by simp) (by rfl);have r:=hid a;clear a o i c8;have hc:=p _ LH.out _ _ H;refine so ?_;exact Ze 28 _ rfl _ [.int .u8 f.toNat,.int .u8 D.toNat,.int .u8 C.toNat,.int .u32 tn,.slice A0 E ce,.string (strOf W),.string (strOf nt)] (ev i3) hc Tryz.isAgg28 Tryz.sizeOf28 (r.out _ _ rfl H)
           case p1 =>
            intro x wx A rest c8 o i p H K a;have e6:A.tmps[6]?.getD undef=.pointer (some ⟨ga,0,none⟩):=Zc o (6,_) (by simp) (by rfl);have r:=hid a;clear a o i c8;have cc:=p _ LA.out _ _ H;refine so ?_;go_step;exact r.out _ _ rfl H
           case p2 =>
            intro x wx A rest c8 o i p H K a;have e2:A.tmps[2]?.getD undef=.pointer (some ⟨y,0,none⟩):=Zc o (2,_) (by simp) (by rfl);have e81:A.tmps[81]?.getD undef=.agg #[.int .u8 f.toNat,.int .u8 D.toNat,.int .u8 C.toNat,.int .u32 tn,.slice A0 E ce,.string (strOf W),.string (strOf nt)]:=tq i 0;replace H:Sp w0 ((Bk y 28 [.int .u8 0,.int .u8 0,.int .u8 0,.int .u32 0,.slice none 0 0,.string ⟨#[]⟩,.string ⟨#[]⟩])::rest) wx:=H;have r:Hid (∀(v:Value) (w' : World),(v=undef)->Sp w0 ((Bk y 28 [.int .u8 f.toNat,.int .u8 D.toNat,.int .u8 C.toNat,.int .u32 tn,.slice A0 E ce,.string (strOf W),.string (strOf nt)])::rest) w'->K (A.put none v) w'):=hid a;clear a o i p c8;obtain⟨w9,d6,X⟩:=Yv (P:=Tryz.prog) [.int .u8 f.toNat,.int .u8 D.toNat,.int .u8 C.toNat,.int .u32 tn,.slice A0 E ce,.string (strOf W),.string (strOf nt)] 0 _ wx H (by show 0+7<=7; omega) (VX _ _ _ _ _ _ _ _ _);refine so ?_;exact Zm 28 _ _ rfl _ [.int .u8 f.toNat,.int .u8 D.toNat,.int .u8 C.toNat,.int .u32 tn,.slice A0 E ce,.string (strOf W),.string (strOf nt)] (ev e2) (ev e81) d6 Tryz.sizeOf28 (r.out undef _ rfl X)
          case hend =>
           intro x wx A hA i H;replace H:Sp w0 ((Bk y 28 [.int .u8 f.toNat,.int .u8 D.toNat,.int .u8 C.toNat,.int .u32 tn,.slice A0 E ce,.string (strOf W),.string (strOf nt)])::Row 5 1 (.slice A0 E ce) E (cells8 F)::Bk ga 3 [.int .i64 a8]::Bk l 4 [.bool false]::Bk s 28 [.int .u8 f.toNat,.int .u8 D.toNat,.int .u8 C.toNat,.int .u32 tn,.slice A0 E ce,.string (strOf W),.string (strOf nt)]::Bk G 118 [.func (.func 62) #[] #[.pointer (some ⟨l,0,none⟩),.pointer (some ⟨gb,0,none⟩),.pointer (some ⟨ga,0,none⟩)]]::Bk gb 23 [.slice (some ad) n c]::L) wx:=H;have y3:x 3=.int .i64 a8:=i 3 (by decide);have y4:x 4=.int .i64 0:=i 4 (by decide);clear i;simp only [putAll,Act.put,List.setIfInBounds_toArray,List.set_cons_succ,List.set_cons_zero,Nat.reduceAdd] at hA;subst hA;rw [y3,y4];clear y3 y4;have K7:=hid H;clear H;go_wp2_with fail
           refine bodyPost_ret (Z5 rfl _ rfl (Zl K7.out 0 rfl) Tryz.isAgg28 Tryz.sizeOf28) rfl ?_;exact HEnd.yes m6.out f1.out (K7.out.pick 7 [1])
 ·obtain⟨z,hz⟩:∃z,PG.begin_ B=z:=⟨_,rfl⟩;rw [hz] at d3;rw [hz];have b7:T=.error z:=by rw [<- HT.out]; unfold PG.head; rw [hz,if_pos d3]
  have g2:=hid b7;have y1:¬ (z:Int)=0:=by omega
  clear hz b7 d3;have r0:M.cell? ⟨y,0,none⟩=some (.int .u8 0):=K1.cell 0 rfl 0;have q0:M.frozen? ⟨y,0,none⟩=false:=K1.frozen 0 rfl 0;have r1:M.cell? ⟨y,1,none⟩=some (.int .u8 0):=K1.cell 0 rfl 1;have q1:M.frozen? ⟨y,1,none⟩=false:=K1.frozen 0 rfl 1;have r2:M.cell? ⟨y,2,none⟩=some (.int .u8 0):=K1.cell 0 rfl 2;have q2:M.frozen? ⟨y,2,none⟩=false:=K1.frozen 0 rfl 2;have r3:M.cell? ⟨y,3,none⟩=some (.int .u32 0):=K1.cell 0 rfl 3;have q3:M.frozen? ⟨y,3,none⟩=false:=K1.frozen 0 rfl 3;have r4:M.cell? ⟨y,4,none⟩=some (.slice none 0 0):=K1.cell 0 rfl 4;have q4:M.frozen? ⟨y,4,none⟩=false:=K1.frozen 0 rfl 4;have r5:M.cell? ⟨y,5,none⟩=some (.string ⟨#[]⟩):=K1.cell 0 rfl 5;have q5:M.frozen? ⟨y,5,none⟩=false:=K1.frozen 0 rfl 5;have r6:M.cell? ⟨y,6,none⟩=some (.string ⟨#[]⟩):=K1.cell 0 rfl 6;have q6:M.frozen? ⟨y,6,none⟩=false:=K1.frozen 0 rfl 6;go_wp2_with fail
  have KF:=((((((K1.set 0 (.int .u8 0)).set 1 (.int .u8 0)).set 2 (.int .u8 0)).set 3 (.int .u32 0)).set 4 (.slice none 0 0)).set 5 (.string ⟨#[]⟩)).set 6 (.string ⟨#[]⟩);refine bodyPost_ret (Z5 rfl _ rfl (Zl KF 0 rfl) Tryz.isAgg28 Tryz.sizeOf28) rfl ?_;exact HEnd.no g2.out KF.tail2
end Go.Proofs.YtnjpnmpemhldcaaGreatDoor

