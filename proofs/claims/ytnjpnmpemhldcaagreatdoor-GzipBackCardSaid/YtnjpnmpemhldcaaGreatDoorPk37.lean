/- A pack. -/
import Derived.Test.YtnjpnmpemhldcaaGreatDoorPk36
set_option linter.all false
set_option maxRecDepth 100000
set_option maxHeartbeats 8000000
namespace Go.Proofs.YtnjpnmpemhldcaaGreatDoor
variable {w0 w:World} {L:List Pr}
open Go.RowKit
namespace PG
def beg3 (B:List UInt8):Nat:=if B.length<=3 then 4 else if 32<=(B.getD 3 0).toNat then 5 else 0
def beg2 (B:List UInt8):Nat:=if B.length<=2 then 4 else if B.getD 2 0≠8 then 5 else beg3 B
def beg1 (B:List UInt8):Nat:=if B.length<=1 then 4 else if B.getD 1 0≠139 then 5 else beg2 B
def begF (B:List UInt8):Nat->Nat
 | 0=>begin_ B
 | 1=>beg1 B
 | 2=>beg2 B
 | 3=>beg3 B
 | _=>0
def mg (k:Nat):UInt8:=[31,139,8].getD k 0
theorem begF_short {B:List UInt8} {k:Nat} (hk:k<4) (h:B.length<=k):begF B k=4:=by
 have:k=0∨k=1∨k=2∨k=3:=by omega
 rcases this with rfl | rfl | rfl | rfl
 ·show begin_ B=4; unfold begin_; rw [if_pos h]
 ·show beg1 B=4; unfold beg1; rw [if_pos h]
 ·show beg2 B=4; unfold beg2; rw [if_pos h]
 ·show beg3 B=4; unfold beg3; rw [if_pos h]
theorem begF_bad {B:List UInt8} {k:Nat} (hk:k<3) (h:¬ B.length<=k) (hb:B.getD k 0≠mg k):begF B k=5:=by
 have:k=0∨k=1∨k=2:=by omega
 rcases this with rfl | rfl | rfl
 ·replace hb:B.getD 0 0≠31:=hb;show begin_ B=5; unfold begin_; rw [if_neg h,if_pos hb]
 ·replace hb:B.getD 1 0≠139:=hb;show beg1 B=5; unfold beg1; rw [if_neg h,if_pos hb]
 ·replace hb:B.getD 2 0≠8:=hb;show beg2 B=5; unfold beg2; rw [if_neg h,if_pos hb]
theorem begF_next {B:List UInt8} {k:Nat} (hk:k<3) (h:¬ B.length<=k) (hb:B.getD k 0=mg k):begF B k=begF B (k+1):=by
 have:k=0∨k=1∨k=2:=by omega
 rcases this with rfl | rfl | rfl
 ·show begin_ B=beg1 B; unfold begin_ beg1 beg2 beg3; rw [if_neg h,if_neg (fun q=>q hb)]
 ·show beg1 B=beg2 B; rw [beg1,if_neg h,if_neg (fun q=>q hb)]
 ·show beg2 B=beg3 B; rw [beg2,if_neg h,if_neg (fun q=>q hb)]
end PG
theorem VV (BA:Option Addr) (n c:Nat) (B:List UInt8) (H:Sp w0 L w) (hn:n=B.length) (hb:Ent L fun w=>Byt w (.slice BA n c) B) :
  Calls Tryz.prog 61 #[.slice BA n c] w fun e w'=>e=.returned (.int .i64 (PG.begin_ B:Int))/\Sp w0 L w':=by
 obtain⟨T,v⟩:=exq (PG.begin_ B);rw [v];have d:Hid (PG.begF B 0=T):=hid v;have s:=hid hn.symm;have G:=hid hb;clear v hn hb;go_enter Tryz.func61,Tryz.ntmps61
 go_wp2_with fail
 go_loopw [4] (fun kv wr=>∃k:Nat,kv=.int .i64 k/\k<=4/\Hid (PG.begF B k=T)/\Sp w0 L wr) (fun kv _=>4 - (intOf kv).toNat)
 case atStart=>exact⟨0,rfl,by decide,d,H⟩
 case round =>
  clear H d;obtain⟨k,rfl,M,d,H⟩:=hrel;by_cases y:k=4
  ·subst y;have f:T=0:=d.out.symm;have b:=hid f;clear f;go_wp2_with fail
   go_ret;exact⟨congrArg (fun t:Nat=>Ending.returned (.int .i64 t)) b.out.symm,H⟩
  ·have N:(k:Int)<4:=by omega
   by_cases u:n<=k
   ·have I:(k:Int)≥(n:Int):=by omega
    have f:T=4:=by rw [<- d.out]; exact PG.begF_short (by omega) (by rw [s.out]; exact u)
    have b:=hid f;clear f u y;go_wp2_with fail
    go_ret;exact⟨congrArg (fun t:Nat=>Ending.returned (.int .i64 t)) b.out.symm,H⟩
   ·have I:¬ (k:Int)≥(n:Int):=by omega
    have j:(k:Int)<(n:Int):=by omega
    obtain⟨x,z⟩:=exq (B.getD k 0);obtain⟨O,P,e,D,_,_⟩:=G.out _ _ H;injection e with e1 e2 e3
    subst e1 e3;clear e2;obtain⟨m,rfl,l⟩:=D.at8 (k:=k) (by rw [s.out]; omega);have o:k<B.length:=by rw [s.out]; omega
    have E:B[k]'o=x:=by rw [<- z,List.getD_eq_getElem?_getD,List.getElem?_eq_getElem o]; rfl
    rw [E] at l;clear E o;have A:=UInt8.toNat_lt x;have r : ¬ B.length<=k:=by rw [s.out]; exact u
    have g:=hid r;have h:=hid z;clear D z r u y;have C:k=0∨k=1∨k=2∨k=3:=by omega
    rcases C with rfl | rfl | rfl | rfl
    ·replace l:wr.cell? m=some (.int .u8 x.toNat):=by
      have:=l;rw [Addr.add] at this;exact this
     have J:0<n:=by omega
     have K:¬ n=0:=by omega
     have F:∀q,((⟨#[31,139,8]⟩:ByteArray)[0]'q).toNat=31:=fun _=>rfl;by_cases a:x=31
     ·have p:(x.toNat:Int)=31:=by rw [a]; rfl
      have i:Hid (PG.begF B 1=T):=by rw [<- PG.begF_next (by decide) g.out (by rw [h.out,a]; rfl),d.out]; exact hid rfl
      clear a d h g;go_wp2_with fail
      go_quiet (fail)
      go_wp2_with fail
      go_roundw
      case rel=>exact⟨1,by go_num,by decide,i,H.drewN _⟩
      case measure=>simp [intOf]
     ·have p:¬ (x.toNat:Int)=31:=fun q=>a (UInt8.toNat_inj.1 (by show x.toNat=31; omega));have f:T=5:=by rw [<- d.out]; exact PG.begF_bad (by decide) g.out (by rw [h.out]; exact a)
      have b:=hid f;clear f a d h g;go_wp2_with fail
      go_quiet (fail)
      go_wp2_with fail
      go_ret;exact⟨congrArg (fun t:Nat=>Ending.returned (.int .i64 t)) b.out.symm,H.drewN _⟩
    ·replace l:wr.cell? ⟨m.block,m.off+1,none⟩=some (.int .u8 x.toNat):=by
      have:=l;rw [Addr.add] at this;exact this
     replace j:(1:Int)<(n:Int):=j
     skip
     have F:∀q,((⟨#[31,139,8]⟩:ByteArray)[1]'q).toNat=139:=fun _=>rfl;by_cases a:x=139
     ·have p:(x.toNat:Int)=139:=by rw [a]; rfl
      have i:Hid (PG.begF B 2=T):=by rw [<- PG.begF_next (by decide) g.out (by rw [h.out,a]; rfl),d.out]; exact hid rfl
      clear a d h g;go_wp2_with fail
      go_quiet (fail)
      go_wp2_with fail
      go_roundw
      case rel=>exact⟨2,by go_num,by decide,i,H.drewN _⟩
      case measure=>simp [intOf]
     ·have p:¬ (x.toNat:Int)=139:=fun q=>a (UInt8.toNat_inj.1 (by show x.toNat=139; omega));have f:T=5:=by rw [<- d.out]; exact PG.begF_bad (by decide) g.out (by rw [h.out]; exact a)
      have b:=hid f;clear f a d h g;go_wp2_with fail
      go_quiet (fail)
      go_wp2_with fail
      go_ret;exact⟨congrArg (fun t:Nat=>Ending.returned (.int .i64 t)) b.out.symm,H.drewN _⟩
    ·replace l:wr.cell? ⟨m.block,m.off+2,none⟩=some (.int .u8 x.toNat):=by
      have:=l;rw [Addr.add] at this;exact this
     replace j:(2:Int)<(n:Int):=j
     skip
     have F:∀q,((⟨#[31,139,8]⟩:ByteArray)[2]'q).toNat=8:=fun _=>rfl;by_cases a:x=8
     ·have p:(x.toNat:Int)=8:=by rw [a]; rfl
      have i:Hid (PG.begF B 3=T):=by rw [<- PG.begF_next (by decide) g.out (by rw [h.out,a]; rfl),d.out]; exact hid rfl
      clear a d h g;go_wp2_with fail
      go_quiet (fail)
      go_wp2_with fail
      go_roundw
      case rel=>exact⟨3,by go_num,by decide,i,H.drewN _⟩
      case measure=>simp [intOf]
     ·have p:¬ (x.toNat:Int)=8:=fun q=>a (UInt8.toNat_inj.1 (by show x.toNat=8; omega));have f:T=5:=by rw [<- d.out]; exact PG.begF_bad (by decide) g.out (by rw [h.out]; exact a)
      have b:=hid f;clear f a d h g;go_wp2_with fail
      go_quiet (fail)
      go_wp2_with fail
      go_ret;exact⟨congrArg (fun t:Nat=>Ending.returned (.int .i64 t)) b.out.symm,H.drewN _⟩
    ·replace l:wr.cell? ⟨m.block,m.off+3,none⟩=some (.int .u8 x.toNat):=by
      have:=l;rw [Addr.add] at this;exact this
     replace j:(3:Int)<(n:Int):=j;by_cases a:32<=x.toNat
     ·have p:(x.toNat:Int)≥32:=by omega
      have f:T=5:=by rw [<- d.out]; show PG.beg3 B=5; unfold PG.beg3; rw [if_neg g.out,if_pos (by rw [h.out]; exact a)]
      have b:=hid f;clear f a d h g;go_wp2_with fail
      go_quiet (fail)
      go_wp2_with fail
      go_ret;exact⟨congrArg (fun t:Nat=>Ending.returned (.int .i64 t)) b.out.symm,H.drewN _⟩
     ·have p:¬ (x.toNat:Int)≥32:=by omega
      have i:Hid (PG.begF B 4=T):=by
       rw [<- d.out];show Hid (0=PG.beg3 B);unfold PG.beg3;rw [if_neg g.out,if_neg (by rw [h.out]; exact a)];exact hid rfl
      clear a d h g;go_wp2_with fail
      go_quiet (fail)
      go_wp2_with fail
      go_roundw
      case rel=>exact⟨4,by go_num,by decide,i,H.drewN _⟩
      case measure=>simp [intOf]
def Nx (BA:Option Addr) (n c:Nat) (B l:List UInt8) (v:Value):Pr:=fun h=>(∃a m,a+m<=n/\v=.slice (subZ BA c a 1) m (c - a)/\l=(B.drop a).take m)∨Row 5 1 v l.length (cells8 l) h
theorem Sp.orL {φ:Prop} {A:Pr} (H:Sp w0 L w) (h:φ):Sp w0 ((fun p=>φ∨A p)::L) w:=by
 obtain⟨a,c,d,own,e⟩:=H;refine⟨a,c,d,fun b=>own b+1,fun i C hi=>?_⟩
 match i with
 | 0 =>
  obtain rfl:(fun p=>φ∨A p)=C:=by simpa using hi
  exact .inl h
 | i+1=>exact cast (congrArg C (ZF fun b=>by omega)) (e i C (by simpa using hi))
theorem Sp.orR {φ:Prop} {A:Pr} (H:Sp w0 (A::L) w):Sp w0 ((fun p=>φ∨A p)::L) w:=H.imp fun _ h=>.inr h
theorem Sp.orE {φ:Prop} {A:Pr} (H:Sp w0 ((fun p=>φ∨A p)::L) w):φ∨Sp w0 (A::L) w:=by
 obtain⟨b,c,d,own,a⟩:=H;rcases a 0 _ rfl with h | h
 ·exact .inl h
 ·refine .inr ⟨b,c,d,own,fun i C hi=>?_⟩
  match i with
  | 0 =>
   obtain rfl:A=C:=by simpa using hi
   exact h
  | i+1=>exact a (i+1) C (by simpa using hi)
theorem Nx.byt {BA:Option Addr} {n c:Nat} {B l:List UInt8} {v:Value} (H:Sp w0 (Nx BA n c B l v::L) w) (hb:Ent L fun w=>Byt w (.slice BA n c) B):Byt w v l:=by
 have b:=hb _ _ H.tail;rcases Sp.orE H with ⟨a,m,h1,rfl,rfl⟩ | H
 ·have d:n=B.length:=by obtain⟨f,g,e,_⟩:=b; injection e
  exact(b.dropZ a (by omega)).take m (by rw [List.length_drop]; omega)
 ·exact H.row_byt 0 rfl
theorem ZO (B:List UInt8) (s:PG.S) (m:Nat) (h:s.at_<=B.length):(PG.next B s m).2.at_<=B.length:=by
 unfold PG.next;split
 ·exact h
 ·rename_i q
  show s.at_+m<=B.length;have:¬ B.length - s.at_<m:=fun k=>q (.inr k);omega
theorem Y6 (ga gs gb:Nat) (BA:Option Addr) (n c:Nat) (a many:Nat) (H:Sp w0 (Bk ga 3 [.int .i64 a]::Bk gs 4 [.bool false]::L) w) (hgb:Ent L fun w=>w.cell? ⟨gb,0,none⟩=some (.slice BA n c)) (ha:a<=n) (hle:¬ n - a<many) (hnm:n<=1000000000) (hcn:n<=c) :
  Calls Tryz.prog 62 #[.int .i64 many,.pointer (some ⟨gs,0,none⟩),.pointer (some ⟨gb,0,none⟩),.pointer (some ⟨ga,0,none⟩)] w fun e w'=>e=.returned (.slice (subZ BA c a 1) many (c - a))/\Sp w0 (Bk ga 3 [.int .i64 ((a+many:Nat):Int)]::Bk gs 4 [.bool false]::L) w':=by
 have p:w.cell? ⟨ga,0,none⟩=some (.int .i64 a):=H.cell 0 rfl 0;have q:w.cell? ⟨gs,0,none⟩=some (.bool false):=H.cell 1 rfl 0;have r:w.cell? ⟨gb,0,none⟩=some (.slice BA n c):=hgb _ _ H.tail2;have z0:w.frozen? ⟨ga,0,none⟩=false:=H.frozen 0 rfl 0;have s:w.frozen? ⟨gs,0,none⟩=false:=H.frozen 1 rfl 0;have k:=hid hgb;clear hgb;obtain⟨b,d⟩:=exq (a+many);rw [d];have t:¬ (many:Int) > (n:Int) - (a:Int):=by omega
 have u:(a:Int)+(many:Int)=(b:Int):=by omega
 have v:(b:Int) - (many:Int)=(a:Int):=by omega
 have x:(a:Int)<=(b:Int):=by omega
 have y:(b:Int)<=(c:Int):=by omega
 have z:(a:Int)<=(c:Int):=by omega
 have g:b - a=many:=by omega
 have l:=hid g;have o:=hid d;have h:=(H.swap.set 0 (.bool false)).swap;have A:(w.setCell ⟨gs,0,none⟩ (.bool false)).cell? ⟨ga,0,none⟩=some (.int .i64 a):=h.cell 0 rfl 0;have B:(w.setCell ⟨gs,0,none⟩ (.bool false)).cell? ⟨gs,0,none⟩=some (.bool false):=h.cell 1 rfl 0;have C:(w.setCell ⟨gs,0,none⟩ (.bool false)).frozen? ⟨ga,0,none⟩=false:=h.frozen 0 rfl 0;have f:=h.set 0 (.int .i64 b);have D:((w.setCell ⟨gs,0,none⟩ (.bool false)).setCell ⟨ga,0,none⟩ (.int .i64 b)).cell? ⟨ga,0,none⟩=some (.int .i64 b):=f.cell 0 rfl 0;have E:((w.setCell ⟨gs,0,none⟩ (.bool false)).setCell ⟨ga,0,none⟩ (.int .i64 b)).cell? ⟨gb,0,none⟩=some (.slice BA n c):=k.out _ _ f.tail2;replace f:=hid f;clear h;clear hle g d;by_cases i:c=a
 ·subst i;have j:Value.slice (subZ BA c c 1) many (c - c)=.slice BA (b - c) 0:=by unfold subZ; rw [if_pos rfl,l.out,Nat.sub_self]
  rw [j];clear j;go_enter Tryz.func62,Tryz.ntmps62
  go_wp2_with fail
  go_ret;exact⟨rfl,f.out⟩
 ·have m:¬ (c:Int)=(a:Int):=by omega
  have j:Value.slice (subZ BA c a 1) many (c - a)=.slice (BA.map (·.add a)) (b - a) (c - a):=by unfold subZ; rw [if_neg i,l.out,Nat.mul_one]
  rw [j];clear j;go_enter Tryz.func62,Tryz.ntmps62
  go_wp2_with fail
  go_ret;exact⟨rfl,f.out⟩
theorem ZS (ga gs gb:Nat) (BA:Option Addr) (n c:Nat) (B:List UInt8) (s:PG.S) (many:Nat) (H:Sp w0 (Bk ga 3 [.int .i64 s.at_]::Bk gs 4 [.bool s.short]::L) w) (hgb:Ent L fun w=>w.cell? ⟨gb,0,none⟩=some (.slice BA n c)) (hn:B.length=n) (ha:s.at_<=n) (hm:many<=1000000000) (hnm:n<=1000000000) (hcn:n<=c) (hcm:c<=maxLen) :
  Calls Tryz.prog 62 #[.int .i64 many,.pointer (some ⟨gs,0,none⟩),.pointer (some ⟨gb,0,none⟩),.pointer (some ⟨ga,0,none⟩)] w fun e w'=>∃v,e=.returned v/\Sp w0 (Nx BA n c B (PG.next B s many).1 v::Bk ga 3 [.int .i64 ((PG.next B s many).2.at_:Int)]::Bk gs 4 [.bool (PG.next B s many).2.short]::L) w':=by
 obtain⟨a,j⟩:=s;simp only at H ha ⊢;have J:=hid H;have x:=hid hgb;obtain⟨D,E,l,m,o⟩:=info_parts info8;have O:w.cell? ⟨ga,0,none⟩=some (.int .i64 a):=H.cell 0 rfl 0;have P:w.cell? ⟨gs,0,none⟩=some (.bool j):=H.cell 1 rfl 0;have Q:w.cell? ⟨gb,0,none⟩=some (.slice BA n c):=hgb _ _ H.tail2;have z0:w.frozen? ⟨ga,0,none⟩=false:=H.frozen 0 rfl 0;have R:w.frozen? ⟨gs,0,none⟩=false:=H.frozen 1 rfl 0;have F:=hid hn;have K:=hid hcm;obtain⟨r,y⟩:=exq (PG.next B ⟨a,j⟩ many);rw [y];have G:=hid y;have M:=hid hgb;clear y hn hcm hgb;by_cases b:j=true∨n - a<many
 ·have f:r=(List.replicate (min many 4) 0,⟨a,true⟩):=by
   rw [<- G.out];unfold PG.next;rw [if_pos (by rw [F.out]; exact b)]
  have p:=hid f;have k:=hid ((H.swap.set 0 (.bool true)).swap);obtain⟨d,t⟩:=exq (min many 4);have S:min (many:Int) 4=(d:Int):=by omega
  have I:d<=4:=by omega
  have g:=hid t;clear f t;cases j with
  | true =>
   clear b;go_enter Tryz.func62,Tryz.ntmps62
   go_wp2_with (at_make; refine Zr rfl _ _ _ rfl 5 D (.int .u8 0) Tryz.underlying23 E l m rfl d rfl rfl (by rw [o]; omega) (by unfold maxLen; omega) k.out ?_)
   intro z w3 u;have i:Sp w0 (Nx BA n c B r.1 (.slice (some z) d d)::Bk ga 3 [.int .i64 r.2.at_]::Bk gs 4 [.bool r.2.short]::L) w3:=by
    rw [p.out];refine Sp.orR ?_;have e:cells8 (List.replicate (min many 4) 0)=List.replicate d (.int .u8 0):=by rw [g.out]; unfold cells8; rw [List.map_replicate]; rfl
    rw [e,List.length_replicate,g.out];exact u
   replace i:=hid i;clear u k H;go_wp2_with fail
   go_ret;exact⟨_,rfl,i.out⟩
  | false =>
   have N:n - a<many:=by
    rcases b with h | h
    ·cases h
    ·exact h
   have T:(many:Int) > (n:Int) - (a:Int):=by omega
   clear b;go_enter Tryz.func62,Tryz.ntmps62
   go_wp2_with (at_make; refine Zr rfl _ _ _ rfl 5 D (.int .u8 0) Tryz.underlying23 E l m rfl d rfl rfl (by rw [o]; omega) (by unfold maxLen; omega) k.out ?_)
   intro z w3 u;have i:Sp w0 (Nx BA n c B r.1 (.slice (some z) d d)::Bk ga 3 [.int .i64 r.2.at_]::Bk gs 4 [.bool r.2.short]::L) w3:=by
    rw [p.out];refine Sp.orR ?_;have e:cells8 (List.replicate (min many 4) 0)=List.replicate d (.int .u8 0):=by rw [g.out]; unfold cells8; rw [List.map_replicate]; rfl
    rw [e,List.length_replicate,g.out];exact u
   replace i:=hid i;clear u k H;go_wp2_with fail
   go_ret;exact⟨_,rfl,i.out⟩
 ·have A:¬ n - a<many:=fun q=>b (.inr q);have C:j=false:=by cases j; rfl; exact absurd (.inl rfl) b
  subst C;have f:r=((B.drop a).take many,⟨a+many,false⟩):=by
   rw [<- G.out];unfold PG.next;rw [if_neg (by rw [F.out]; exact b)]
  refine(Y6 ga gs gb BA n c a many J.out x.out ha A hnm hcn).mono ?_;rintro _ U ⟨rfl,k⟩;refine⟨_,rfl,?_⟩;rw [f];exact Sp.orL k ⟨a,many,by omega,rfl,rfl⟩
theorem Yt (B:List UInt8) (s:PG.S) (m:Nat):(PG.next B s m).1.length<=m:=by
 unfold PG.next;split
 ·rw [List.length_replicate]; omega
 ·rw [List.length_take]; omega
theorem XO (B:List UInt8) (s:PG.S) (m:Nat) (h:s.at_<=B.length) (hm:m<=4):(PG.next B s m).1.length=m:=by
 unfold PG.next;split
 ·rw [List.length_replicate]; omega
 ·rename_i q
  have:¬ B.length - s.at_<m:=fun k=>q (.inr k);rw [List.length_take,List.length_drop]; omega
theorem YK (B:List UInt8) (s:PG.S) (m:Nat) (h:s.short=true∨B.length - s.at_<m):PG.next B s m=(List.replicate (min m 4) 0,⟨s.at_,true⟩):=by unfold PG.next; rw [if_pos h]
theorem VW (B:List UInt8) (a m:Nat) (h:¬ B.length - a<m):PG.next B ⟨a,false⟩ m=((B.drop a).take m,⟨a+m,false⟩):=by
 unfold PG.next;rw [if_neg (by rintro(q | q); cases q; exact h q)]
def Dead (ga gs n a m:Nat):Pr:=Ex fun b:{ b:Bool // b=true∨n - a<m }=>Star (Bk ga 3 [.int .i64 a]) (Bk gs 4 [.bool b.1])
theorem Y7 (ga gs gb:Nat) (BA:Option Addr) (n c:Nat) (B:List UInt8) (a many:Nat) (H:Sp w0 (Dead ga gs n a many::L) w) (hgb:Ent L fun w=>w.cell? ⟨gb,0,none⟩=some (.slice BA n c)) (hn:B.length=n) (ha:a<=n) (hm:many<=1000000000) (hnm:n<=1000000000) (hcn:n<=c) (hcm:c<=maxLen) :
  Calls Tryz.prog 62 #[.int .i64 many,.pointer (some ⟨gs,0,none⟩),.pointer (some ⟨gb,0,none⟩),.pointer (some ⟨ga,0,none⟩)] w fun e w'=>∃v,e=.returned v/\Sp w0 (Nx BA n c B (List.replicate (min many 4) 0) v::Bk ga 3 [.int .i64 a]::Bk gs 4 [.bool true]::L) w':=by
 obtain⟨⟨b,d⟩,H⟩:=H.unex;have h:=ZS ga gs gb BA n c B ⟨a,b⟩ many H.unstar hgb hn ha hm hnm hcn hcm;rw [YK B ⟨a,b⟩ many (by rw [hn]; exact d)] at h;exact h
theorem Dead.shut {ga gs n a m:Nat} {b:Bool} (h:b=true∨n - a<m) (H:Sp w0 (Bk ga 3 [.int .i64 a]::Bk gs 4 [.bool b]::L) w):Sp w0 (Dead ga gs n a m::L) w:=H.star.ex (⟨b,h⟩:{ b:Bool // b=true∨n - a<m })
theorem Nx.form {BA:Option Addr} {n c:Nat} {B l:List UInt8} {v:Value} (H:Sp w0 (Nx BA n c B l v::L) w) (hb:Ent L fun w=>Byt w (.slice BA n c) B):∃A d,v=.slice A l.length d/\l.length<=d/\d<=maxLen/\Rd w A (cells8 l):=by
 obtain⟨A,d,e,a,b,f⟩:=Nx.byt H hb;exact⟨A,d,e,b,f,a⟩
theorem X3 (s:List UInt8):∀k,PG.idx0 s=some k->k<s.length:=by
 induction s with
 | nil=>intro k h; cases h
 | cons c s ih =>
  intro k h;unfold PG.idx0 at h;by_cases a:c=0
  ·rw [if_pos a] at h; injection h with h; rw [<- h]; simp
  ·rw [if_neg a] at h;cases hq:PG.idx0 s with
   | none=>rw [hq] at h; cases h
   | some j =>
    rw [hq] at h;injection h with h
    have b:j+1=k:=h;have:=ih j hq;rw [<- b,List.length_cons];omega
theorem TK (B:List UInt8) (s:PG.S) (h:s.at_<=B.length):(PG.text B s).2.at_<=B.length:=by
 unfold PG.text;split
 ·exact h
 ·split
  ·exact h
  ·rename_i k hk
   have:=X3 _ _ hk;rw [List.length_drop] at this;show s.at_+(k+1)<=B.length;omega
theorem U6 (B:List UInt8) (f:UInt8) (s:PG.S) (h:s.at_<=B.length):(PG.exR B f s).2.at_<=B.length:=by
 unfold PG.exR;split
 ·exact ZO B _ _ (ZO B _ _ h)
 ·exact h
theorem Ws (B:List UInt8) (f:UInt8) (k:Nat) (s:PG.S) (h:s.at_<=B.length):(PG.txR B f k s).2.at_<=B.length:=by
 unfold PG.txR;split
 ·exact TK B s h
 ·exact h
theorem XP (ga gs gb gf:Nat) (BA:Option Addr) (n c:Nat) (B:List UInt8) (s:PG.S) (H:Sp w0 (Bk ga 3 [.int .i64 s.at_]::Bk gs 4 [.bool s.short]::L) w) (hgb:Ent L fun w=>w.cell? ⟨gb,0,none⟩=some (.slice BA n c)) (hgf:Ent L fun w=>w.cell? ⟨gf,0,none⟩=some (.func (.func 62) #[] #[.pointer (some ⟨gs,0,none⟩),.pointer (some ⟨gb,0,none⟩),.pointer (some ⟨ga,0,none⟩)])) (hb:Ent L fun w=>Byt w (.slice BA n c) B) (hn:B.length=n) (ha:s.at_<=n) (hnm:n<=100000000) (hcn:n<=c) (hcm:c<=maxLen) :
  Calls Tryz.prog 63 #[.pointer (some ⟨gb,0,none⟩),.pointer (some ⟨ga,0,none⟩),.pointer (some ⟨gs,0,none⟩),.pointer (some ⟨gf,0,none⟩)] w fun e w'=>e=.returned (.string (strOf (PG.text B s).1))/\Sp w0 (Bk ga 3 [.int .i64 ((PG.text B s).2.at_:Int)]::Bk gs 4 [.bool (PG.text B s).2.short]::L) w':=by
 obtain⟨a,J⟩:=s;simp only at H ha ⊢;have c0:w.cell? ⟨ga,0,none⟩=some (.int .i64 a):=H.cell 0 rfl 0;have c1:w.cell? ⟨gs,0,none⟩=some (.bool J):=H.cell 1 rfl 0;have c2:w.cell? ⟨gb,0,none⟩=some (.slice BA n c):=hgb _ _ H.tail2;have c3:w.cell? ⟨gf,0,none⟩=some (.func (.func 62) #[] #[.pointer (some ⟨gs,0,none⟩),.pointer (some ⟨gb,0,none⟩),.pointer (some ⟨ga,0,none⟩)]):=hgf _ _ H.tail2;have z1:w.frozen? ⟨gs,0,none⟩=false:=H.frozen 1 rfl 0;have HB:=hid (hb _ _ (H.tail2));have Q:Hid (Ent (L) fun w=>Byt w (.slice BA n c) B):=hid hb;have y6:(a:Int)<=(n:Int):=by omega
 have y7:(n:Int)<=(c:Int):=by omega
 have y8:(a:Int)<=(c:Int):=by omega
 have R:=hid ha;have v:=hid hn;have x:=hid (show n<=1000000000 by omega);have S:=hid hcm;have T:=hid hcn;obtain⟨r,U⟩:=exq (PG.text B ⟨a,J⟩);rw [U];have y:=hid U;have V:=hid hgb;have W:=hid hgf;clear U hn hcm hb hgb hgf;by_cases A:c=a
 ·subst A;obtain rfl:n=c:=by omega
  have m:Byt w (.slice BA 0 0) (B.drop n):=by
   have h:=HB.out.dropZ n R.out;unfold subZ at h;rw [if_pos rfl,Nat.sub_self] at h;exact h
  have i:=hid (W9 (.slice BA 0 0) (B.drop n) w m);clear m
  obtain⟨z,p⟩:=exq (idxI (B.drop n));rw [p] at i;have K:=hid p;clear p;cases J with
  | true =>
   have b:r=([],⟨n,true⟩):=by rw [<- y.out]; unfold PG.text; rw [if_pos rfl]
   have f:=hid (H.swap.set 0 (.bool true));have d:=hid b;clear b;go_enter Tryz.func63,Tryz.ntmps63
   go_wp2_with fail
   refine i.out.mono ?_;rintro _ M ⟨rfl,rfl⟩;clear i;have j:Hid (Sp w0 (Bk ga 3 [.int .i64 r.2.at_]::Bk gs 4 [.bool r.2.short]::L) (w.setCell ⟨gs,0,none⟩ (.bool true))):=by
    rw [d.out];exact hid (f.out.swap)
   clear f H;go_wp2_with fail
   go_ret;exact⟨by rw [d.out]; rfl,j.out⟩
  | false =>
   cases hidx:PG.idx0 (B.drop n) with
   | none =>
    have b:r=([],⟨n,true⟩):=by rw [<- y.out]; unfold PG.text; rw [if_neg (fun q=>by cases q),hidx]
    have o:z = -1:=by rw [<- K.out]; unfold idxI; rw [hidx]
    subst o;have f:=hid (H.swap.set 0 (.bool true));have d:=hid b;have X:(w.setCell ⟨gs,0,none⟩ (.bool true)).cell? ⟨gs,0,none⟩=some (.bool true):=f.out.cell 0 rfl 0;clear b hidx;go_enter Tryz.func63,Tryz.ntmps63
    go_wp2_with fail
    refine i.out.mono ?_;rintro _ M ⟨rfl,rfl⟩;clear i;have j:Hid (Sp w0 (Bk ga 3 [.int .i64 r.2.at_]::Bk gs 4 [.bool r.2.short]::L) (w.setCell ⟨gs,0,none⟩ (.bool true))):=by
     rw [d.out];exact hid (f.out.swap)
    clear f H;go_wp2_with fail
    go_ret;exact⟨by rw [d.out]; rfl,j.out⟩
   | some k =>
    have:=X3 _ _ hidx;rw [List.length_drop,v.out,Nat.sub_self] at this;omega
 ·have a1:¬ (c:Int)=(a:Int):=by omega
  have m:Byt w (.slice (BA.map (·.add a)) (n - a) (c - a)) (B.drop a):=by
   have h:=HB.out.dropZ a R.out;unfold subZ at h;rw [if_neg A,Nat.mul_one] at h;exact h
  have i:=hid (W9 (.slice (BA.map (·.add a)) (n - a) (c - a)) (B.drop a) w m);clear m
  obtain⟨z,p⟩:=exq (idxI (B.drop a));rw [p] at i;have K:=hid p;clear p;cases J with
  | true =>
   have b:r=([],⟨a,true⟩):=by rw [<- y.out]; unfold PG.text; rw [if_pos rfl]
   have f:=hid (H.swap.set 0 (.bool true));have d:=hid b;clear b;go_enter Tryz.func63,Tryz.ntmps63
   go_wp2_with fail
   refine i.out.mono ?_;rintro _ M ⟨rfl,rfl⟩;clear i;have j:Hid (Sp w0 (Bk ga 3 [.int .i64 r.2.at_]::Bk gs 4 [.bool r.2.short]::L) (w.setCell ⟨gs,0,none⟩ (.bool true))):=by
    rw [d.out];exact hid (f.out.swap)
   clear f H;go_wp2_with fail
   go_ret;exact⟨by rw [d.out]; rfl,j.out⟩
  | false =>
   cases hidx:PG.idx0 (B.drop a) with
   | none =>
    have b:r=([],⟨a,true⟩):=by rw [<- y.out]; unfold PG.text; rw [if_neg (fun q=>by cases q),hidx]
    have o:z = -1:=by rw [<- K.out]; unfold idxI; rw [hidx]
    subst o;have f:=hid (H.swap.set 0 (.bool true));have d:=hid b;have X:(w.setCell ⟨gs,0,none⟩ (.bool true)).cell? ⟨gs,0,none⟩=some (.bool true):=f.out.cell 0 rfl 0;clear b hidx;go_enter Tryz.func63,Tryz.ntmps63
    go_wp2_with fail
    refine i.out.mono ?_;rintro _ M ⟨rfl,rfl⟩;clear i;have j:Hid (Sp w0 (Bk ga 3 [.int .i64 r.2.at_]::Bk gs 4 [.bool r.2.short]::L) (w.setCell ⟨gs,0,none⟩ (.bool true))):=by
     rw [d.out];exact hid (f.out.swap)
    clear f H;go_wp2_with fail
    go_ret;exact⟨by rw [d.out]; rfl,j.out⟩
   | some k =>
    have Y:=X3 _ _ hidx;rw [List.length_drop,v.out] at Y;have b:r=((B.drop a).take k,⟨a+(k+1),false⟩):=by rw [<- y.out]; unfold PG.text; rw [if_neg (fun q=>by cases q),hidx]
    have o:z=(k:Int):=by rw [<- K.out]; unfold idxI; rw [hidx]
    subst o;have y1:¬ (k:Int)<0:=by omega
    have e9:decide ((k:Int)<0)=false:=decide_eq_false y1;have f:Sp w0 (Bk gs 4 [.bool false]::Bk ga 3 [.int .i64 a]::L) (w.setCell ⟨gs,0,none⟩ (.bool (decide ((k:Int)<0)))):=by
     rw [e9];exact H.swap.set 0 (.bool false)
    have X:(w.setCell ⟨gs,0,none⟩ (.bool (decide ((k:Int)<0)))).cell? ⟨gs,0,none⟩=some (.bool false):=f.cell 0 rfl 0;have d3:(w.setCell ⟨gs,0,none⟩ (.bool (decide ((k:Int)<0)))).cell? ⟨gf,0,none⟩=some (.func (.func 62) #[] #[.pointer (some ⟨gs,0,none⟩),.pointer (some ⟨gb,0,none⟩),.pointer (some ⟨ga,0,none⟩)]):=W.out _ _ f.tail2;have t:=hid (ZS ga gs gb BA n c B ⟨a,false⟩ (k+1) f.swap (fun _ _ q=>V.out _ _ q) v.out R.out (by have:=x.out; omega) x.out T.out S.out);have d:=hid b;have y2:(k:Int)+1=((k+1:Nat):Int):=by omega
    obtain⟨k1,u⟩:=exq (k+1);rw [u] at y2 t;have l:=hid u;have HK:=hid Y;have y3:¬ (k1:Int)<0:=by omega
    have a3:k<=100000000:=by omega
    have a2:k1<=100000001:=by omega
    clear b hidx u Y f H e9;go_enter Tryz.func63,Tryz.ntmps63
    go_wp2_with fail
    refine i.out.mono ?_;rintro _ M ⟨rfl,rfl⟩;clear i;go_wp2_with fail
    refine t.out.mono ?_;rintro _ N ⟨v2,rfl,j⟩;clear t X d3 c0 c1 c2 c3 z1;have C:PG.next B ⟨a,false⟩ k1=((B.drop a).take k1,⟨a+k1,false⟩):=by
     have:=HK.out;unfold PG.next;rw [if_neg (by rw [v.out,<- l.out]; simp; omega)]
    rw [C] at j;have Z:=Nx.byt j (fun _ _ q=>Q.out _ _ (q.pick 2 []));obtain⟨O,D,e2,E,F,a0⟩:=Z;subst e2;have g:((B.drop a).take k1).length=k1:=by have:=HK.out; rw [List.length_take,List.length_drop,v.out,<- l.out]; omega
    have G:((B.drop a).take k1).take k=(B.drop a).take k:=by rw [List.take_take,<- l.out]; congr 1; omega
    rw [g] at F j;have I:Byt N (.slice O k D) ((B.drop a).take k):=by
     have h:=(show Byt N (.slice O k1 D) ((B.drop a).take k1) from⟨O,D,by rw [g],E,by rw [g]; exact F,a0⟩).take k (by rw [g,<- l.out]; omega);rw [G] at h;exact h
    have rs:=run_str (P:=Tryz.prog) N 23 9 5 (.slice O k D) ((B.drop a).take k) Tryz.underlying23 Tryz.underlying5 Tryz.underlying9 I;have y4:(k:Int)<=(D:Int):=by have:=l.out; omega
    have K3:Hid (Sp w0 (Bk ga 3 [.int .i64 r.2.at_]::Bk gs 4 [.bool r.2.short]::L) N):=by
     rw [d.out];have h:=j.tail;rw [<- l.out] at h;exact hid h
    clear j I E g G C;go_wp2_with fail
    go_ret;exact⟨by rw [d.out]; rfl,K3.out⟩
end Go.Proofs.YtnjpnmpemhldcaaGreatDoor

