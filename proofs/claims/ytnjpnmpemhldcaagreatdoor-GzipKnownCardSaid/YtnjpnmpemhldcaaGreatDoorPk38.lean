/- A pack. -/
import Derived.LoopIn
import Derived.LoopNIn
import Derived.OwnWalkIn
import Derived.RangeFuncBound
import Derived.RangeFuncNested
import Derived.TacticsInMore
import Derived.Test.YtnjpnmpemhldcaaGreatDoorPk37
set_option linter.all false
set_option maxRecDepth 100000
set_option maxHeartbeats 8000000
namespace Go.Proofs.YtnjpnmpemhldcaaGreatDoor
variable {w0 w:World} {L:List Pr}
open Go.RowKit
theorem XX (s:List UInt8):∀k,PG.idx0 s=some k->k<s.length:=by
 induction s with
 | nil=>intro k h; cases h
 | cons c s ih =>
  intro k h;unfold PG.idx0 at h;by_cases a:c=0
  ·rw [if_pos a] at h; injection h with h; rw [<- h]; simp
  ·rw [if_neg a] at h;cases hq:PG.idx0 s with
   | none=>rw [hq] at h; cases h
   | some j =>
    rw [hq] at h;injection h with h
    have b:j+1=k:=h;have:=ih j hq;rw [<- b,List.length_cons];omega
theorem TB (B:List UInt8) (s:PG.S) (h:s.at_<=B.length):(PG.text B s).2.at_<=B.length:=by
 unfold PG.text;split
 ·exact h
 ·split
  ·exact h
  ·rename_i k hk
   have:=XX _ _ hk;rw [List.length_drop] at this;show s.at_+(k+1)<=B.length;omega
theorem UV (B:List UInt8) (f:UInt8) (s:PG.S) (h:s.at_<=B.length):(PG.exR B f s).2.at_<=B.length:=by
 unfold PG.exR;split
 ·exact ZO B _ _ (ZO B _ _ h)
 ·exact h
theorem Wm (B:List UInt8) (f:UInt8) (k:Nat) (s:PG.S) (h:s.at_<=B.length):(PG.txR B f k s).2.at_<=B.length:=by
 unfold PG.txR;split
 ·exact TB B s h
 ·exact h
theorem XL (ga gs gb gf:Nat) (BA:Option Addr) (n c:Nat) (B:List UInt8) (s:PG.S) (H:Sp w0 (Bk ga 3 [.int .i64 s.at_]::Bk gs 4 [.bool s.short]::L) w) (hgb:Ent L fun w=>w.cell? ⟨gb,0,none⟩=some (.slice BA n c)) (hgf:Ent L fun w=>w.cell? ⟨gf,0,none⟩=some (.func (.func 62) #[] #[.pointer (some ⟨gs,0,none⟩),.pointer (some ⟨gb,0,none⟩),.pointer (some ⟨ga,0,none⟩)])) (hb:Ent L fun w=>Byt w (.slice BA n c) B) (hn:B.length=n) (ha:s.at_<=n) (hnm:n<=100000000) (hcn:n<=c) (hcm:c<=maxLen) :
  Calls Tryz.prog 63 #[.pointer (some ⟨gb,0,none⟩),.pointer (some ⟨ga,0,none⟩),.pointer (some ⟨gs,0,none⟩),.pointer (some ⟨gf,0,none⟩)] w fun e w'=>e=.returned (.string (strOf (PG.text B s).1))/\Sp w0 (Bk ga 3 [.int .i64 ((PG.text B s).2.at_:Int)]::Bk gs 4 [.bool (PG.text B s).2.short]::L) w':=by
 obtain⟨a,J⟩:=s;simp only at H ha ⊢;have c0:w.cell? ⟨ga,0,none⟩=some (.int .i64 a):=H.cell 0 rfl 0;have c1:w.cell? ⟨gs,0,none⟩=some (.bool J):=H.cell 1 rfl 0;have c2:w.cell? ⟨gb,0,none⟩=some (.slice BA n c):=hgb _ _ H.tail2;have c3:w.cell? ⟨gf,0,none⟩=some (.func (.func 62) #[] #[.pointer (some ⟨gs,0,none⟩),.pointer (some ⟨gb,0,none⟩),.pointer (some ⟨ga,0,none⟩)]):=hgf _ _ H.tail2;have z1:w.frozen? ⟨gs,0,none⟩=false:=H.frozen 1 rfl 0;have HB:=hid (hb _ _ (H.tail2));have Q:Hid (Ent (L) fun w=>Byt w (.slice BA n c) B):=hid hb;have y6:(a:Int)<=(n:Int):=by omega
 have y7:(n:Int)<=(c:Int):=by omega
 have y8:(a:Int)<=(c:Int):=by omega
 have R:=hid ha;have v:=hid hn;have x:=hid (show n<=1000000000 by omega);have S:=hid hcm;have T:=hid hcn;obtain⟨r,U⟩:=exq (PG.text B ⟨a,J⟩);rw [U];have y:=hid U;have V:=hid hgb;have W:=hid hgf;clear U hn hcm hb hgb hgf;by_cases A:c=a
 ·subst A;obtain rfl:n=c:=by omega
  have m:Byt w (.slice BA 0 0) (B.drop n):=by
   have h:=HB.out.dropZ n R.out;unfold subZ at h;rw [if_pos rfl,Nat.sub_self] at h;exact h
  have i:=hid (W6 (.slice BA 0 0) (B.drop n) w m);clear m
  obtain⟨z,p⟩:=exq (idxI (B.drop n));rw [p] at i;have K:=hid p;clear p;cases J with
  | true =>
   have b:r=([],⟨n,true⟩):=by rw [<- y.out]; unfold PG.text; rw [if_pos rfl]
   have f:=hid (H.swap.set 0 (.bool true));have d:=hid b;clear b;go_enter Tryz.func63,Tryz.ntmps63
   go_wp2_with fail
   refine i.out.mono ?_;rintro _ M ⟨rfl,rfl⟩;clear i;have j:Hid (Sp w0 (Bk ga 3 [.int .i64 r.2.at_]::Bk gs 4 [.bool r.2.short]::L) (w.setCell ⟨gs,0,none⟩ (.bool true))):=by
    rw [d.out];exact hid (f.out.swap)
   clear f H;go_wp2_with fail
   go_ret;exact⟨by rw [d.out]; rfl,j.out⟩
  | false =>
   cases hidx:PG.idx0 (B.drop n) with
   | none =>
    have b:r=([],⟨n,true⟩):=by rw [<- y.out]; unfold PG.text; rw [if_neg (fun q=>by cases q),hidx]
    have o:z = -1:=by rw [<- K.out]; unfold idxI; rw [hidx]
    subst o;have f:=hid (H.swap.set 0 (.bool true));have d:=hid b;have X:(w.setCell ⟨gs,0,none⟩ (.bool true)).cell? ⟨gs,0,none⟩=some (.bool true):=f.out.cell 0 rfl 0;clear b hidx;go_enter Tryz.func63,Tryz.ntmps63
    go_wp2_with fail
    refine i.out.mono ?_;rintro _ M ⟨rfl,rfl⟩;clear i;have j:Hid (Sp w0 (Bk ga 3 [.int .i64 r.2.at_]::Bk gs 4 [.bool r.2.short]::L) (w.setCell ⟨gs,0,none⟩ (.bool true))):=by
     rw [d.out];exact hid (f.out.swap)
    clear f H;go_wp2_with fail
    go_ret;exact⟨by rw [d.out]; rfl,j.out⟩
   | some k =>
    have:=XX _ _ hidx;rw [List.length_drop,v.out,Nat.sub_self] at this;omega
 ·have a1:¬ (c:Int)=(a:Int):=by omega
  have m:Byt w (.slice (BA.map (·.add a)) (n - a) (c - a)) (B.drop a):=by
   have h:=HB.out.dropZ a R.out;unfold subZ at h;rw [if_neg A,Nat.mul_one] at h;exact h
  have i:=hid (W6 (.slice (BA.map (·.add a)) (n - a) (c - a)) (B.drop a) w m);clear m
  obtain⟨z,p⟩:=exq (idxI (B.drop a));rw [p] at i;have K:=hid p;clear p;cases J with
  | true =>
   have b:r=([],⟨a,true⟩):=by rw [<- y.out]; unfold PG.text; rw [if_pos rfl]
   have f:=hid (H.swap.set 0 (.bool true));have d:=hid b;clear b;go_enter Tryz.func63,Tryz.ntmps63
   go_wp2_with fail
   refine i.out.mono ?_;rintro _ M ⟨rfl,rfl⟩;clear i;have j:Hid (Sp w0 (Bk ga 3 [.int .i64 r.2.at_]::Bk gs 4 [.bool r.2.short]::L) (w.setCell ⟨gs,0,none⟩ (.bool true))):=by
    rw [d.out];exact hid (f.out.swap)
   clear f H;go_wp2_with fail
   go_ret;exact⟨by rw [d.out]; rfl,j.out⟩
  | false =>
   cases hidx:PG.idx0 (B.drop a) with
   | none =>
    have b:r=([],⟨a,true⟩):=by rw [<- y.out]; unfold PG.text; rw [if_neg (fun q=>by cases q),hidx]
    have o:z = -1:=by rw [<- K.out]; unfold idxI; rw [hidx]
    subst o;have f:=hid (H.swap.set 0 (.bool true));have d:=hid b;have X:(w.setCell ⟨gs,0,none⟩ (.bool true)).cell? ⟨gs,0,none⟩=some (.bool true):=f.out.cell 0 rfl 0;clear b hidx;go_enter Tryz.func63,Tryz.ntmps63
    go_wp2_with fail
    refine i.out.mono ?_;rintro _ M ⟨rfl,rfl⟩;clear i;have j:Hid (Sp w0 (Bk ga 3 [.int .i64 r.2.at_]::Bk gs 4 [.bool r.2.short]::L) (w.setCell ⟨gs,0,none⟩ (.bool true))):=by
     rw [d.out];exact hid (f.out.swap)
    clear f H;go_wp2_with fail
    go_ret;exact⟨by rw [d.out]; rfl,j.out⟩
   | some k =>
    have Y:=XX _ _ hidx;rw [List.length_drop,v.out] at Y;have b:r=((B.drop a).take k,⟨a+(k+1),false⟩):=by rw [<- y.out]; unfold PG.text; rw [if_neg (fun q=>by cases q),hidx]
    have o:z=(k:Int):=by rw [<- K.out]; unfold idxI; rw [hidx]
    subst o;have y1:¬ (k:Int)<0:=by omega
    have e9:decide ((k:Int)<0)=false:=decide_eq_false y1;have f:Sp w0 (Bk gs 4 [.bool false]::Bk ga 3 [.int .i64 a]::L) (w.setCell ⟨gs,0,none⟩ (.bool (decide ((k:Int)<0)))):=by
     rw [e9];exact H.swap.set 0 (.bool false)
    have X:(w.setCell ⟨gs,0,none⟩ (.bool (decide ((k:Int)<0)))).cell? ⟨gs,0,none⟩=some (.bool false):=f.cell 0 rfl 0;have d3:(w.setCell ⟨gs,0,none⟩ (.bool (decide ((k:Int)<0)))).cell? ⟨gf,0,none⟩=some (.func (.func 62) #[] #[.pointer (some ⟨gs,0,none⟩),.pointer (some ⟨gb,0,none⟩),.pointer (some ⟨ga,0,none⟩)]):=W.out _ _ f.tail2;have t:=hid (ZS ga gs gb BA n c B ⟨a,false⟩ (k+1) f.swap (fun _ _ q=>V.out _ _ q) v.out R.out (by have:=x.out; omega) x.out T.out S.out);have d:=hid b;have y2:(k:Int)+1=((k+1:Nat):Int):=by omega
    obtain⟨k1,u⟩:=exq (k+1);rw [u] at y2 t;have l:=hid u;have HK:=hid Y;have y3:¬ (k1:Int)<0:=by omega
    have a3:k<=100000000:=by omega
    have a2:k1<=100000001:=by omega
    clear b hidx u Y f H e9;go_enter Tryz.func63,Tryz.ntmps63
    go_wp2_with fail
    refine i.out.mono ?_;rintro _ M ⟨rfl,rfl⟩;clear i;go_wp2_with fail
    refine t.out.mono ?_;rintro _ N ⟨v2,rfl,j⟩;clear t X d3 c0 c1 c2 c3 z1;have C:PG.next B ⟨a,false⟩ k1=((B.drop a).take k1,⟨a+k1,false⟩):=by
     have:=HK.out;unfold PG.next;rw [if_neg (by rw [v.out,<- l.out]; simp; omega)]
    rw [C] at j;have Z:=Nx.byt j (fun _ _ q=>Q.out _ _ (q.pick 2 []));obtain⟨O,D,e2,E,F,a0⟩:=Z;subst e2;have g:((B.drop a).take k1).length=k1:=by have:=HK.out; rw [List.length_take,List.length_drop,v.out,<- l.out]; omega
    have G:((B.drop a).take k1).take k=(B.drop a).take k:=by rw [List.take_take,<- l.out]; congr 1; omega
    rw [g] at F j;have I:Byt N (.slice O k D) ((B.drop a).take k):=by
     have h:=(show Byt N (.slice O k1 D) ((B.drop a).take k1) from⟨O,D,by rw [g],E,by rw [g]; exact F,a0⟩).take k (by rw [g,<- l.out]; omega);rw [G] at h;exact h
    have rs:=run_str (P:=Tryz.prog) N 23 9 5 (.slice O k D) ((B.drop a).take k) Tryz.underlying23 Tryz.underlying5 Tryz.underlying9 I;have y4:(k:Int)<=(D:Int):=by have:=l.out; omega
    have K3:Hid (Sp w0 (Bk ga 3 [.int .i64 r.2.at_]::Bk gs 4 [.bool r.2.short]::L) N):=by
     rw [d.out];have h:=j.tail;rw [<- l.out] at h;exact hid h
    clear j I E g G C;go_wp2_with fail
    go_ret;exact⟨by rw [d.out]; rfl,K3.out⟩
open Go.RowKit Go.Shelf
attribute [local go_sem] Oper.semAt_some
namespace PG
def upto (zs:List UInt8) (k:Nat):List (Nat × UInt8):=(List.range k).map fun j=>(zs.length - 1 - j,zs[zs.length - 1 - j]?.getD 0)
theorem upto_succ (zs:List UInt8) (k:Nat):upto zs (k+1)=upto zs k++[(zs.length - 1 - k,zs[zs.length - 1 - k]?.getD 0)]:=by simp [upto,List.range_succ]
theorem upto_length (zs:List UInt8) (k:Nat):(upto zs k).length=k:=by simp [upto]
def val (pre:List (Nat × UInt8)):Nat:=pre.foldl (fun n x=>n * 256+x.2.toNat) 0
theorem val_snoc (pre:List (Nat × UInt8)) (x:Nat × UInt8):val (pre++[x])=val pre * 256+x.2.toNat:=by simp [val]
theorem val_lt (pre:List (Nat × UInt8)):val pre<256 ^ pre.length:=by
 suffices h:∀(l:List (Nat × UInt8)) (a m:Nat),a<256 ^ m->l.foldl (fun n x=>n * 256+x.2.toNat) a<256 ^ (m+l.length) by
  have:=h pre 0 0 (by decide)
  rwa [Nat.zero_add] at this
 intro l;induction l with
 | nil=>intro a m h; exact h
 | cons x l ih =>
  intro a m h;have b:=UInt8.toNat_lt x.2;have:=ih (a * 256+x.2.toNat) (m+1) (by rw [Nat.pow_succ]; omega);rw [show m+1+l.length=m+(x::l).length by rw [List.length_cons]; omega] at this;exact this
theorem val_upto (zs:List UInt8) (k:Nat) (hk:k<=zs.length):val (upto zs k)=num (zs.drop (zs.length - k)):=by
 induction k with
 | zero=>rw [Nat.sub_zero,List.drop_length]; rfl
 | succ k ih =>
  have a:zs.length - (k+1)<zs.length:=by omega
  rw [upto_succ,val_snoc,ih (by omega),List.drop_eq_getElem_cons a];show _=(zs[zs.length - (k+1)]).toNat+256 * num (zs.drop (zs.length - (k+1)+1));have b:zs.length - (k+1)+1=zs.length - k:=by omega
  have c:zs.length - 1 - k=zs.length - (k+1):=by omega
  rw [b,c,List.getElem?_eq_getElem a];show num _ * 256+(zs[zs.length - (k+1)]).toNat=_;omega
end PG
theorem WS (x c:Nat) (hx:x<16777216) (hc:c<256):bits .or .u32 ((x:Int) * 256 % 4294967296) (c:Int)=((x * 256+c:Nat):Int):=by
 have d:(x:Int) * 256 % 4294967296=((x * 256:Nat):Int):=by omega
 rw [d,u32_or_nat _ _ (by omega) (by omega)];have:=Nat.shiftLeft_add_eq_or_of_lt (a:=x) (b:=c) (i:=8) (by omega);rw [Nat.shiftLeft_eq,show(2:Nat) ^ 8=256 by decide] at this;rw [<- this]
theorem TC (F:Fence) (n:Nat) (hf:F.fn 98) (hro:F.round=none) (a:Option Addr) (len cap:Nat) (w:World) :
  CallsIn F n Tryz.prog 98 #[.slice a len cap] w fun e w'=>e=.returned (.func (.func 131) #[] #[.pointer (some ⟨w.heap.size,0,none⟩)])/\w'=w.alloc (.cells #[.slice a len cap] 23):=by
 refine callsIn_of_wp Tryz.func98 rfl hf ?_ hro;simp only [Tryz.ntmps98,List.size_toArray,List.length_cons,List.length_nil,Nat.reduceAdd,Nat.reduceSub,Array.replicate_succ,Array.replicate_zero,List.push_toArray,List.append_toArray,List.nil_append,List.cons_append]
 gi_wp2
 go_ret;exact⟨rfl,rfl⟩
theorem UC (F:Fence) (n:Nat) (h7:F.fn 131) (hro:F.round=none) (hn:1<=n) (l Bs:Nat) (A:Option Addr) (len cap:Nat) (zs:List UInt8) (hl:len=zs.length) (hreach:len<=1000000) (K:World->World->Prop) (hKr:∀W,K W W) (hKt:∀ {A B C:World},K A B->K B C->K A C) (J Jx:List (Nat × UInt8)->World->Prop)
  (hY:∀pre x W,J pre W->pre.length<len->YieldAt F (n - 1) Tryz.prog l #[.int .i64 x.1,.int .u8 x.2.toNat] W fun e W' =>
   (e=.returned (.bool true)/\J (pre++[x]) W'/\K W W')∨(e=.returned (.bool false)/\Jx (pre++[x]) W'))
  (W:World) (hBs:W.cell? ⟨Bs,0,none⟩=some (.slice A len cap)) (hc:∀W',K W W'->Byt W' (.slice A len cap) zs) (hBn:∀W',K W W'->W'.cell? ⟨Bs,0,none⟩=some (.slice A len cap)) (h0:J [] W) :
  CallsIn F n Tryz.prog 131 #[.func (.yield l) #[] #[],.pointer (some ⟨Bs,0,none⟩)] W fun e W'=>(∃v,e=.returned v) /\
   ((∃ys,ys=PG.upto zs len/\J ys W')∨(∃pre,(∃k,k<=len/\pre=PG.upto zs k)/\Jx pre W')):=by
 have E:=hid hc;have o:=hid hl;have p:=hid hBn;clear hc hl hBn;refine callsIn_of_wp Tryz.func131 rfl h7 ?_ hro;simp only [Tryz.ntmps131,List.size_toArray,List.length_cons,List.length_nil,Nat.reduceAdd,Nat.reduceSub,Array.replicate_succ,Array.replicate_zero,List.push_toArray,List.append_toArray,List.nil_append,List.cons_append]
 gi_wp2
 gi_loopw [3] (fun i wr=>∃k:Nat,k<=len/\i=.int .i64 ((len:Int) - 1 - (k:Int))/\J (PG.upto zs k) wr/\K W wr)
  (fun i _=>(intOf i+1).toNat)
 case atStart=>exact⟨0,Nat.zero_le _,by simp,h0,hKr _⟩
 case round =>
  obtain⟨k,N,rfl,d,b⟩:=hrel;have O:=p.out _ b;by_cases c:k<len
  ·obtain⟨m,q⟩:=exq (len - 1 - k);have u:(len:Int) - 1 - (k:Int)=(m:Int):=by omega
   rw [u];have G:(m:Int)≥0:=by omega
   have P:(m:Int)<(len:Int):=by omega
   obtain⟨x,h⟩:=exq (zs[m]?.getD 0);obtain⟨Q,R,e,w,_,_⟩:=E.out _ b;injection e with e1 e2 e3
   subst e1 e3;clear e2;obtain⟨H,rfl,f⟩:=w (by intro h0; have:=congrArg List.length h0; unfold cells8 at this; simp at this; rw [o.out,this] at c; simp at c);have I:wr.cell? (H.add m)=some (.int .u8 x.toNat):=f m _ (by
    unfold cells8;rw [<- h,List.getElem?_map,List.getElem?_eq_getElem (show m<zs.length by rw [<- o.out]; omega)]; rfl)
   have a:PG.upto zs (k+1)=PG.upto zs k++[(m,x)]:=by rw [PG.upto_succ,<- o.out,q,h]
   obtain⟨S,y,j,body,L,M⟩:=hY _ (m,x) wr d (by rw [PG.upto_length]; exact c)
   dsimp only at L
   have z:=hid a;have T:=hid h;have U:=hid q;have D:(m:Int) - 1=(len:Int) - 1 - ((k+1:Nat):Int):=by omega
   have r:=hid D;clear a h q u f w D
   gi_wp2
   refine M.mono ?_;rintro e V (⟨rfl,s,t⟩ | ⟨rfl,g⟩)
   ·gi_wp2
    go_roundw
    case rel=>exact⟨k+1,by omega,by rw [<- r.out],by rw [z.out]; exact s,hKt b t⟩
    case measure=>simp [intOf]
   ·gi_wp2
    refine bodyPost_ret (results_none rfl _ _ _) rfl ?_;exact⟨⟨_,rfl⟩,.inr ⟨_,⟨k+1,by omega,z.out.symm⟩,g⟩⟩
  ·obtain rfl:k=len:=by omega
   have G:¬ ((k:Int) - 1 - (k:Int)≥0):=by omega
   gi_wp2
   go_end0;exact⟨⟨_,rfl⟩,.inl d⟩
def KpB (n₀ Bs:Nat) (W W' : World):Prop:=Below n₀ W W'/\∀o,W.heap[Bs]?=some o->o.isCells=true->W'.heap[Bs]?=some o
theorem KpB.refl (n₀ Bs:Nat) (W:World):KpB n₀ Bs W W:=⟨Below.refl _ _,fun _ h _=>h⟩
theorem KpB.trans {n₀ Bs:Nat} {A B C:World} (h:KpB n₀ Bs A B) (k:KpB n₀ Bs B C):KpB n₀ Bs A C:=⟨h.1.trans k.1,fun o ho hc=>k.2 o (h.2 o ho hc) hc⟩
theorem WT (F:Fence) (n:Nat) (h7:F.fn 131) (hro:F.round=none) (hn:1<=n) (Bs n₀:Nat) (A:Option Addr) (len cap:Nat) (zs:List UInt8) (hl:len=zs.length) (hreach:len<=1000000) (w:World) (hn₀:n₀<=w.heap.size)
  (hc:w.heap[Bs]?=some (.cells #[.slice A len cap] 23 (0,0))) (hI:∀W,Below n₀ w W->Byt W (.slice A len cap) zs) :
  SeqStopsK F n Tryz.prog 131 #[.pointer (some ⟨Bs,0,none⟩)] (fun x:Nat × UInt8=>#[Value.int .i64 x.1,Value.int .u8 x.2.toNat]) (KpB n₀ Bs) (fun ys=>ys=PG.upto zs len)
   (fun pre=>∃k,k<=len/\pre=PG.upto zs k) len w:=fun l J Jx W hW _ _ hY h0=>by
 have b:Bs<w.heap.size:=(Array.getElem?_eq_some_iff.1 hc).1;have c:=(hW.block Bs b).trans hc;have a:∀W',KpB n₀ Bs W W'->W'.cell? ⟨Bs,0,none⟩=some (.slice A len cap):=fun W' k=>by
  have:=k.2 _ c rfl;simp [World.cell?,this]
 exact UC F n h7 hro hn l Bs A len cap zs hl hreach (KpB n₀ Bs) (KpB.refl n₀ Bs) KpB.trans J Jx hY W (a W (KpB.refl _ _ _)) (fun W' k=>hI W' ((hW.mono hn₀).trans k.1)) a h0
theorem TD (F:Fence) (n:Nat) (h3:F.fn 65) (h5:F.fn 98) (h7:F.fn 131) (hro:F.round=none) (hn:3<=n) (A:Option Addr) (len cap:Nat) (zs:List UInt8) (hl:len=zs.length) (h4:len<=4) (w:World) (hI:Byt w (.slice A len cap) zs) :
  CallsIn F n Tryz.prog 65 #[.slice A len cap] w fun e W'=>e=.returned (.int .u32 (PG.num zs:Int))/\Below w.heap.size w W':=by
 have y:=hid hI;have q:=hid hl;clear hI hl;have z:1<=n:=by omega
 refine callsIn_of_wp_marks Tryz.func65 rfl h3 ?_ hro;simp only [Tryz.ntmps65,List.size_toArray,List.length_cons,List.length_nil,Nat.reduceAdd,Nat.reduceSub,Array.replicate_succ,Array.replicate_zero,List.push_toArray,List.append_toArray,List.nil_append,List.cons_append]
 gi_wp2_with (gi_at_call 98; refine(TC F (n - 1) h5 hro _ _ _ _).mono ?_; rintro e I ⟨rfl,rfl⟩)
 have r:=Boxed.new w 26 (.int .u32 0);have b:Below w.heap.size w ((w.alloc (.cells #[.int .u32 0] 26)).alloc (.cells #[.slice A len cap] 23)):=((Below.refl _ w).alloc (Nat.le_refl _) _).alloc (by simp) _;have d:((w.alloc (.cells #[.int .u32 0] 26)).alloc (.cells #[.slice A len cap] 23)).heap[w.heap.size+1]?=some (.cells #[.slice A len cap] 23 (0,0)):=by
  have:=World.alloc_heap_new (w.alloc (.cells #[.int .u32 0] 26)) (.cells #[.slice A len cap] 23)
  rwa [World.size_alloc] at this
 refine wpIn_rangeFunc_ownG hro z (gf:=131) (lb:=#[.pointer (some ⟨w.heap.size+1,0,none⟩)]) rfl h7 (enters_of Tryz.func131 (by kernel_rfl) rfl)
  (WT F (n - 1) h7 hro (by omega) (w.heap.size+1) w.heap.size A len cap zs q.out (by omega) _ (by simp; omega) d (fun W hW=>y.out.below (b.trans hW))) KpB.trans (fun W l o o' hl ho hc hw=>⟨belowK_b (w:=w) (Nat.le_refl _) W l o o' (by simp at hl; omega) ho hc hw,fun o2 h2 hc2=>by
   have i:¬ l=w.heap.size+1:=by
    intro e;subst e;rw [h2] at ho;cases ho
    rw [hc2] at hc;cases hc
   show(W.heap.setIfInBounds l o')[w.heap.size+1]?=_;rw [Array.getElem?_setIfInBounds,if_neg i];exact h2⟩) (Below.refl _ _) (fun _=>rfl)
  (fun pre W=>(W.cell? ⟨w.heap.size,0,none⟩=some (.int .u32 (PG.val pre:Int))/\W.frozen? ⟨w.heap.size,0,none⟩=false)/\Below w.heap.size w W)
  (fun _ _ _=>False)
  (OwnFrom.and (Own.from (fun s A B row hs hg hr=>⟨cell_kept hs.1 hg hr,(frozen_kept hs.1 hg hr).trans hs.2⟩) _) (ownFrom_below (Nat.le_refl _) (by simp; omega)))
  (fun _ _ _ _ _ hs _ _=>hs)
  ⟨⟨(r.alloc _).cell,(r.alloc _).frozen⟩,b⟩
  (fun x=>{ tmps:=#[.slice A len cap,undef,.int .u32 0,.pointer (some ⟨w.heap.size,0,none⟩),undef,.int .u8 x.2.toNat,.slice A len cap,.func (.func 131) #[] #[.pointer (some ⟨w.heap.size+1,0,none⟩)],.int .i64 x.1,.int .u8 x.2.toNat,undef,undef,undef,undef,undef,undef],defers:=[] }) ?assign ?body ?done ?stop
 case assign =>
  intro l x W K hK
  gi_wp2
  exact hK
 case body =>
  rintro l pre x W ⟨⟨hc,C⟩,j⟩ E;have t:=PG.val_lt pre;have k:256 ^ pre.length<=256 ^ 3:=Nat.pow_le_pow_right (by decide) (by omega);have G:=UInt8.toNat_lt x.2;have a:=PG.val_snoc pre x;obtain⟨v,f⟩:=exq (PG.val pre);rw [f] at hc t a;obtain⟨c,g⟩:=exq x.2.toNat;rw [g] at G a ⊢;have J:=WS v c (by omega) (by omega);have m:=hid a;clear a f g t k
  gi_wp2
  exact⟨(KeepsOthers.setCell _ _ _).from _,⟨(Below.refl w.heap.size W).setCell (p:=⟨w.heap.size,0,none⟩) (Nat.le_refl _) _,fun o ho _=>(Below.heap_setCell _ _ _ _ (by simp)).trans ho⟩,⟨by rw [m.out]; exact World.cell?_setCell_same' _ _ _ (by rw [hc]; rfl),by rw [World.frozen?_setCell]; exact C⟩,j.setCell (p:=⟨w.heap.size,0,none⟩) (Nat.le_refl _) _⟩
 case done =>
  rintro D L W H rfl ⟨⟨hc,_⟩,j⟩ hK;have u:=q.out;rw [PG.val_upto zs len (by omega),u,Nat.sub_self,List.drop_zero] at hc;clear u
  gi_wp2
  refine⟨by simp,.inl ⟨_,_,rfl,run_takeDeferred hK,?_⟩⟩;exact⟨_,results_tmp rfl _ _ _,rfl,j.trans (belowK_b (w:=w) (Nat.le_refl _) W D _ _ (by simp at H; omega) hK rfl rfl)⟩
 case stop =>
  rintro D c pre W _ _ h _;exact h.elim
theorem YI {v:Value} {zs:List UInt8} (H:Sp w0 L w) (hb:Byt w v zs) (h4:zs.length<=4) :
  Calls Tryz.prog 65 #[v] w fun e w'=>e=.returned (.int .u32 (PG.num zs:Int))/\Sp w0 L w':=by
 obtain⟨A,c,rfl,a,b,d⟩:=hb;refine(callsIn_wide (n:=3)).1 ((TD Fence.wide 3 trivial trivial trivial rfl (Nat.le_refl _) A zs.length c zs rfl h4 w ⟨A,c,rfl,a,b,d⟩).mono ?_);rintro e w' ⟨rfl,h⟩;exact⟨rfl,(Below.keep h).sep H⟩
section
variable {P:Program}
theorem Z5 {fn:Func} {s t u:Tmp} {ty:TypeId} (h:fn.results=#[.cell s ty,.tmp t,.tmp u]) (tmps:Array Value) {w:World} {ad:Addr} {cs:List Value} (hx:tmps[s]?.getD undef=.pointer (some ad)) (hc:∀j v,cs[j]?=some v->w.cell? (ad.add j)=some v) (ha:∀w,(isAgg ty).run P w=.ok true w) (hs:∀w,(sizeOf ty).run P w=.ok cs.length w) :
  (results fn tmps).run P w=.ok (.tuple #[.agg cs.toArray,tmps.getD t undef,tmps.getD u undef]) w:=by
 have a:=run_loadCells_list (P:=P) w ad cs hc;simp [results,h,hx,asAddr,loadVar,ha,hs,a,Result.andThen]
theorem Zo {fn:Func} {s t u v:Tmp} {ty:TypeId} (h:fn.results=#[.cell s ty,.tmp t,.tmp u,.tmp v]) (tmps:Array Value) {w:World} {ad:Addr} {cs:List Value} (hx:tmps[s]?.getD undef=.pointer (some ad)) (hc:∀j v,cs[j]?=some v->w.cell? (ad.add j)=some v) (ha:∀w,(isAgg ty).run P w=.ok true w) (hs:∀w,(sizeOf ty).run P w=.ok cs.length w) :
  (results fn tmps).run P w=.ok (.tuple #[.agg cs.toArray,tmps.getD t undef,tmps.getD u undef,tmps.getD v undef]) w:=by
 have a:=run_loadCells_list (P:=P) w ad cs hc;simp [results,h,hx,asAddr,loadVar,ha,hs,a,Result.andThen]
end
theorem Zl (H:Sp w0 L w) (k:Nat) {g:Nat} {t:TypeId} {cs:List Value} (hk:L[k]?=some (Bk g t cs)):∀j v,cs[j]?=some v->w.cell? ((⟨g,0,none⟩:Addr).add j)=some v:=fun j v hv=>by
 have a:(Addr.add ⟨g,0,none⟩ j)=⟨g,j,none⟩:=by
  unfold Addr.add; split
  ·rename_i h0; subst h0; rfl
  ·simp
 rw [a,H.cell k hk j];exact hv
def putC:List Value->Nat->List Value->List Value
 | cs,_,[]=>cs
 | cs,i,v::vs=>putC (cs.set i v) (i+1) vs
theorem Xs {P:Program} {g:Nat} {t:TypeId} {w0:World} : ∀(vs:List Value) (i:Nat) (cs:List Value) (w:World),Sp w0 (Bk g t cs::L) w->i+vs.length<=cs.length->(∀u ∈ vs,u.oneCell'=true)->∃w',(storeCells ⟨g,0,none⟩ vs i).run P w=.ok () w'/\Sp w0 (Bk g t (putC cs i vs)::L) w'
 | [],i,cs,w,H,_,_=>⟨w,rfl,H⟩
 | v::vs,i,cs,w,H,hl,h1=>by
  rw [List.length_cons] at hl;have b:(Addr.add ⟨g,0,none⟩ i)=⟨g,i,none⟩:=by
   unfold Addr.add; split
   ·rename_i h0; subst h0; rfl
   ·simp
  have c:w.cell? ⟨g,i,none⟩=some cs[i]:=by rw [H.cell 0 rfl i,List.getElem?_eq_getElem]
  have a:(store ⟨g,i,none⟩ v).run P w=.ok () (w.setCell ⟨g,i,none⟩ v):=by
   rw [run_store _ _ _ _ _ (h1 v List.mem_cons_self),c];simp only [H.frozen 0 rfl i];rfl
  obtain⟨w',d,e⟩:=Xs (P:=P) vs (i+1) (cs.set i v) _ (H.set i v) (by rw [List.length_set]; omega) (fun u hu=>h1 u (List.mem_cons_of_mem _ hu));refine⟨w',?_,e⟩;unfold storeCells;rw [b];simp [a,Result.andThen,d]
theorem UW (a b c d:Int) (A:Option Addr) (n m:Nat) (s t:ByteArray):∀u ∈ [Value.int .u8 a,.int .u8 b,.int .u8 c,.int .u32 d,.slice A n m,.string s,.string t],u.oneCell'=true:=by
 intro u e;simp only [List.mem_cons,List.not_mem_nil,or_false] at e;rcases e with rfl | rfl | rfl | rfl | rfl | rfl | rfl <;> rfl
end Go.Proofs.YtnjpnmpemhldcaaGreatDoor

