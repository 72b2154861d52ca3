/- A pack. -/
import Derived.Deep.RegionHeld3
import Derived.Test.YteajimobgkempaaGreatDoorPk03
set_option linter.all false
set_option maxRecDepth 100000
set_option maxHeartbeats 8000000
namespace Go.Proofs.YteajimobgkempaaGreatDoor
variable {w0 w:World} {L:List Pr}
open Go.RowKit
namespace PG
instance (f:UInt8) (k:Nat) (s:List UInt8):Decidable (textOk f k s):=by unfold textOk; infer_instance
instance (h:Hd):Decidable (Ok h):=by unfold Ok; infer_instance
theorem idx0_iff (s:List UInt8):idx0 s=none↔∀c ∈ s,c≠0:=by
 induction s with
 | nil=>exact⟨fun _ c hc=>(by cases hc),fun _=>rfl⟩
 | cons c s ih =>
  unfold idx0;by_cases hc:c=0
  ·rw [if_pos hc];exact⟨fun h=>(by cases h),fun h=>absurd hc (h c List.mem_cons_self)⟩
  ·rw [if_neg hc,Option.map_eq_none_iff,ih];constructor
   ·intro h d a;rcases List.mem_cons.1 a with rfl | a
    ·exact hc
    ·exact h d a
   ·exact fun h d a=>h d (List.mem_cons_of_mem _ a)
end PG
theorem Zt (s:List UInt8):(strOf s).toList=s:=by unfold strOf; rw [ByteArray.toList_mk]
theorem YD (g:Nat) (h:PG.Hd) (ve:Value) (s:List UInt8) (k:Nat) (hk:k=8∨k=16) (H:Sp w0 (Bk g 45 (hdV h ve)::L) w) (hs:s.length<=maxLen) :
  Calls Tryz.prog 40 #[.string (strOf s),.int .u8 k,.pointer (some ⟨g,0,none⟩)] w fun e w'=>e=.returned (.bool (decide (PG.textOk h.flags k s)))/\Sp w0 (Bk g 45 (hdV h ve)::L) w':=by
 have i:=U8 s;have m:=Zi s;obtain⟨n,o⟩:=exq s.length;obtain⟨z,p⟩:=exq (idxI s);rw [o] at m hs;rw [p] at i;have K:w.cell? ⟨g,0,none⟩=some (.int .u8 h.flags.toNat):=H.cell 0 rfl 0;have M:w.cell? ⟨g,1,none⟩=some (.int .u8 h.level.toNat):=H.cell 0 rfl 1;have N:w.cell? ⟨g,2,none⟩=some (.int .u8 h.system.toNat):=H.cell 0 rfl 2;have O:w.cell? ⟨g,3,none⟩=some (.int .u32 h.time):=H.cell 0 rfl 3;have P:w.cell? ⟨g,4,none⟩=some (ve):=H.cell 0 rfl 4;have Q:w.cell? ⟨g,5,none⟩=some (.string (strOf h.name)):=H.cell 0 rfl 5;have R:w.cell? ⟨g,6,none⟩=some (.string (strOf h.note)):=H.cell 0 rfl 6;obtain⟨r,u⟩:=exq (decide (PG.textOk h.flags k s));rw [u];have l:=hid u;clear u;have v:=hid i;have B:=hid o;have C:=hid p;clear i o p;unfold maxLen at hs;by_cases S:n<=65535
 ·have E:(n:Int)<=65535:=by omega
  go_enter Tryz.func40,Tryz.ntmps40
  go_wp2_with fail
  refine(v.out w).mono ?_;rintro _ T ⟨rfl,rfl⟩;by_cases y:z<0
  ·have F:z<(0:Int):=y;have f:PG.idx0 s=none:=by
    have:=C.out;unfold idxI at this;cases hq:PG.idx0 s with
    | none=>rfl
    | some q=>rw [hq] at this; simp only at this; omega
   by_cases j:s=[]
   ·have G:(strOf s).toList=[]:=by rw [Zt]; exact j
    have a:decide (PG.textOk h.flags k s)=true:=by
     subst j;exact decide_eq_true ⟨by decide,fun c hc=>(by cases hc),.inl rfl⟩
    rw [l.out] at a;replace a:=hid a;clear j f;go_wp2_with fail
    go_ret;exact⟨congrArg (fun b=>Ending.returned (.bool b)) a.out.symm,H⟩
   ·have G:¬ (strOf s).toList=[]:=by rw [Zt]; exact j
    have a:decide (PG.textOk h.flags k s)=PG.has h.flags k:=by
     have D:PG.textOk h.flags k s↔PG.has h.flags k=true:=⟨fun q=>q.2.2.resolve_left j,fun q=>⟨by rw [B.out]; omega,(PG.idx0_iff s).1 f,.inr q⟩⟩;by_cases q:PG.has h.flags k=true
     ·rw [q]; exact decide_eq_true (D.2 q)
     ·rw [Bool.not_eq_true] at q;rw [q];exact decide_eq_false fun t=>by rw [D.1 t] at q; cases q
    rw [l.out] at a;replace a:Hid (((strOf s).toList.isEmpty || PG.has h.flags k)=r):=by
     rw [Zt];cases s with
     | nil=>exact absurd rfl j
     | cons x s=>exact hid a.symm
    have I:=hid (Yr h ve k (by omega) H);clear j f;go_wp2_with fail
    refine I.out.mono ?_;rintro _ U ⟨rfl,J⟩;go_wp2;go_ret;exact⟨congrArg (fun b=>Ending.returned (.bool b)) a.out,J⟩
  ·have F:¬ z<(0:Int):=y;have d:decide (PG.textOk h.flags k s)=false:=by
    refine decide_eq_false fun t=>y ?_;have:=(PG.idx0_iff s).2 t.2.1;have A:=C.out;unfold idxI at A;rw [this] at A;rw [<- A];decide
   rw [l.out] at d;replace d:=hid d;go_wp2_with fail
   go_ret;exact⟨congrArg (fun b=>Ending.returned (.bool b)) d.out.symm,H⟩
 ·have E:¬ (n:Int)<=65535:=by omega
  have d:decide (PG.textOk h.flags k s)=false:=by
   rw [decide_eq_false_iff_not];rintro⟨q,_⟩;rw [B.out] at q;omega
  rw [l.out] at d;replace d:=hid d;go_enter Tryz.func40,Tryz.ntmps40
  go_wp2_with fail
  go_ret;exact⟨congrArg (fun b=>Ending.returned (.bool b)) d.out.symm,H⟩

def CrcTab (w:World):Prop:=∀i,i<16->w.cell? ⟨4,i,none⟩=some (.int .u32 (PCrc.tab.getD i 0:Nat))
theorem W9 (x:Nat) (hx:x<4294967296):bits .and .u32 (x:Int) 15=((x % 16:Nat):Int):=by
 have:=u32_and_nat x 15 hx (by omega);rw [nat_mask4] at this;exact this
theorem X9 (a:Int) (x b:Nat) (ha:a=x) (hx:x<4294967296) (hb:b<4294967296):bits .xor .u32 a (b:Int)=((x ^^^ b:Nat):Int):=by
 rw [ha]; exact u32_xor_nat x b hx hb

theorem Wa (x:Nat) (w:World) (hx:x<4294967296) (ht:CrcTab w) :
  Calls Tryz.prog 131 #[.int .u32 x] w fun e w'=>e=.returned (.int .u32 (PCrc.half x:Nat))/\w=w':=by
 have c:=W9 x hx;have b:=ht (x % 16) (by omega);have a:=PCrc.tab_lt' (x % 16);obtain⟨t,e⟩:=exq (PCrc.tab.getD (x % 16) 0);rw [e] at b a;have H:=hid e;clear e;go_enter Tryz.func131,Tryz.ntmps131
 go_wp2;go_ret;refine⟨XP ?_,rfl⟩;rw [PCrc.half,H.out];exact X9 _ _ _ (by omega) (by omega) a

theorem Va (x:Nat) (w:World) (hx:x<4294967296) (ht:CrcTab w) :
  Calls Tryz.prog 101 #[.int .u32 x] w fun e w'=>e=.returned (.int .u32 (PCrc.whole x:Nat))/\w=w':=by
 go_enter Tryz.func101,Tryz.ntmps101
 go_wp2_with fail
 refine(Wa _ _ hx ht).mono ?_;rintro e w' ⟨rfl,rfl⟩;go_wp2_with fail
 refine(Wa _ _ (PCrc.half_lt _ hx) ht).mono ?_;rintro e w' ⟨rfl,rfl⟩;go_wp2_with fail
 go_ret;exact⟨rfl,rfl⟩

def RunIs (w:World) (g s m:Nat):Prop:=Blk w g 118 [.int .u32 s,.int .i64 m]
def Parts (w:World) (v:Value) (ls:List (List UInt8)):Prop :=
 ∃A c vs,v=.slice A ls.length c/\Rd w A vs/\vs.length=ls.length/\ls.length<=maxLen/\(∀u ∈ vs,∃A n c,u=.slice A n c)/\∀i (h:i<ls.length) (h' : i<vs.length),Byt w vs[i] ls[i]

theorem Parts.keep {w w' : World} {v:Value} {ls:List (List UInt8)} (h:Parts w v ls) (hk:∀(p:Addr) (u:Value),w.cell? p=some u->((∃n,u=.int .u8 n)∨∃A n c,u=.slice A n c)->w'.cell? p=w.cell? p):Parts w' v ls:=by
 obtain⟨A,c,b,e,d,f,g,a,j⟩:=h;exact⟨A,c,b,e,d.keep fun p u hu hc=>hk p u hc (.inr (a u hu)),f,g,a,fun i h h'=>(j i h h').keep fun p n hc=>hk p _ hc (.inl ⟨n,rfl⟩)⟩
def total (ls:List (List UInt8)):Nat:=ls.flatten.length
theorem WC (ls:List (List UInt8)) (k:Nat) (h:k<ls.length):total (ls.take (k+1))=total (ls.take k)+ls[k].length:=by
 unfold total; rw [List.take_succ_eq_append_getElem h,List.flatten_append]; simp
theorem Xh (ls:List (List UInt8)) (k:Nat):total (ls.take k)<=total ls:=by
 unfold total
 conv=>rhs; rw [<- List.take_append_drop k ls,List.flatten_append]
 simp
theorem Vb (ls:List (List UInt8)) (k:Nat) (h:k<ls.length):(ls.take (k+1)).flatten=(ls.take k).flatten++ls[k]:=by
 rw [List.take_succ_eq_append_getElem h,List.flatten_append]; simp
theorem Ve (s:Nat) (hs:s<4294967296):bits .xor .u32 IntKind.u32.max (s:Int)=((PCrc.inv s:Nat):Int):=by
 obtain⟨m,b,a,c⟩:=PCrc.inv_xor;have e:IntKind.u32.max=((m:Nat):Int):=by rw [b]; rfl
 rw [c s hs,e];exact u32_xor_nat m s a hs
theorem Wb (x:Nat) (l:List UInt8) (j:Nat) (h:j<l.length):PCrc.reg x (l.take (j+1))=PCrc.whole (PCrc.reg x (l.take j) ^^^ l[j].toNat):=by
 rw [List.take_succ_eq_append_getElem h,PCrc.reg_append]; rfl

theorem RunIs.kind8 {w w' : World} {g s m:Nat} (h:RunIs w g s m) (hM:Mod (·=g) w w') {p:Addr} {n:Int} (hc:w.cell? p=some (.int .u8 n)):w'.cell? p=w.cell? p :=
 hM.cell_kind h hc (by simp)
theorem RunIs.kindS {w w' : World} {g s m:Nat} (h:RunIs w g s m) (hM:Mod (·=g) w w') {p:Addr} {A n c} (hc:w.cell? p=some (.slice A n c)):w'.cell? p=w.cell? p :=
 hM.cell_kind h hc (by simp)

theorem U9 (g s m:Nat) (v:Value) (ls:List (List UInt8)) (w:World) (hs:s<4294967296) (hm:m+total ls<=9223372036854775807) (ht:CrcTab w) (hr:RunIs w g s m) (hp:Parts w v ls) (hg:g≠4) :
  Calls Tryz.prog 68 #[.pointer (some ⟨g,0,none⟩),v] w fun e w'=>e=.returned (.tuple #[])/\RunIs w' g (PCrc.inv (PCrc.reg (PCrc.inv s) ls.flatten)) (m+total ls)/\Mod (·=g) w w':=by
 obtain⟨A,c,Y,rfl,N,I,o,O,y⟩:=hp;unfold maxLen at o;have J:=hr.cell 0;have d:=Ve s hs;go_enter Tryz.func68,Tryz.ntmps68
 go_wp2
 go_loopw [4,18] (fun x i wr=>∃k:Nat,k<=ls.length/\i=.int .i64 k/\x=.int .u32 (PCrc.reg (PCrc.inv s) (ls.take k).flatten:Nat)/\RunIs wr g s (m+total (ls.take k))/\Mod (·=g) w wr)
  (fun _ i _=>ls.length - (intOf i).toNat)
 case atStart=>exact⟨0,Nat.zero_le _,rfl,rfl,hr,Mod.refl _ _⟩
 case round =>
  clear J d;obtain⟨k,Z,rfl,rfl,a,p⟩:=hrel;by_cases f:k<ls.length
  ·obtain⟨ad,rfl,z⟩:=N.at_ (k:=k) (by omega);obtain⟨A',c',ev,q,B,C⟩:=y k f (by omega);rw [ev] at z;have D:=(hr.kindS p z).trans z;have E:CrcTab wr:=fun i hi=>(p.cell (Zr (ht i hi)) (Ne.symm hg)).trans (ht i hi);have b:=PCrc.reg_lt (ls.take k).flatten _ (PCrc.inv_lt s hs);obtain⟨X,F⟩:=exq (PCrc.reg (PCrc.inv s) (ls.take k).flatten);rw [F] at b ⊢;have P:=hid F;clear F ev;obtain⟨l,G⟩:=exq (ls[k]);rw [G] at D B q;have K:=hid G;clear G;unfold maxLen at C;go_wp2;go_loop [4,24] (fun x i=>∃j:Nat,j<=l.length/\i=.int .i64 j/\x=.int .u32 (PCrc.reg X (l.take j):Nat)) (fun _ i=>l.length - (intOf i).toNat)
   case atStart=>exact⟨0,Nat.zero_le _,rfl,rfl⟩
   case round =>
    obtain⟨j,hj,rfl,rfl⟩:=hrel;by_cases r:j<l.length
    ·obtain⟨Q,rfl,h⟩:=q.at8 r;have L:=(hr.kind8 p h).trans h;clear h;have R:=l[j].toNat_lt;have t:=PCrc.reg_lt (l.take j) X b;have u:=u32_xor_nat (PCrc.reg X (l.take j)) l[j].toNat t (by omega);have S:=PCrc.xor_u8_lt _ l[j] t;have T:=hid (Wb X l j r);go_wp2_with fail
     refine(Va _ _ S E).mono ?_;rintro e w' ⟨rfl,rfl⟩;clear u;go_wp2;go_round
     case rel=>exact⟨j+1,by omega,by go_num,by rw [T.out]⟩
     case measure=>simp [intOf]; omega
    ·have M:l.take j=l:=List.take_of_length_le (by omega);rw [M];have c1:=a.cell 1;have f1:=a.frozen 1;have H:=Xh ls (k+1);have n:=WC ls k f;rw [K.out] at n;have U:m+total (ls.take k)+l.length<=9223372036854775807:=by omega
     have V:=hid n;clear n H M;go_wp2;go_roundw
     case rel =>
      refine⟨k+1,by omega,by go_num,?_,?_,?_⟩
      ·rw [Vb ls k f,PCrc.reg_append,P.out,K.out]
      ·have:=a.set_ 1 (.int .i64 ((m+total (ls.take (k+1)):Nat):Int));rw [V.out] at this ⊢;simpa [RunIs,Nat.add_assoc,Int.add_assoc] using this
      ·exact p.setCell (fun _=>rfl) _
     case measure=>simp [intOf]; omega
  ·have W:ls.take k=ls:=List.take_of_length_le (by omega);rw [W] at a ⊢;have b:=PCrc.reg_lt ls.flatten _ (PCrc.inv_lt s hs);have d:=Ve _ b;have J:=a.cell 0;have f0:=a.frozen 0;go_wp2;go_end0;refine⟨rfl,?_,p.setCell (fun _=>rfl) _⟩;exact a.set_ 0 _

theorem CrcTab.alloc {w:World} (h:CrcTab w) (o:Obj):CrcTab (w.alloc o):=fun i hi=>by
 rw [(Mod.alloc (Mod.refl (fun _=>False) w) o).cell (Zr (h i hi)) (fun h=>h)]; exact h i hi
theorem CrcTab.lt {w:World} (h:CrcTab w):4<w.heap.size:=Zr (h 0 (by omega))
theorem Parts.alloc {w:World} {v:Value} {ls:List (List UInt8)} (h:Parts w v ls) (o:Obj):Parts (w.alloc o) v ls :=
 h.keep fun _ _ hc _=>(Mod.alloc (Mod.refl (fun _=>False) w) o).cell (Zr hc) (fun h=>h)

theorem Ta (g s m:Nat) (w:World) (hr:RunIs w g s m) :
  Calls Tryz.prog 69 #[.pointer (some ⟨g,0,none⟩)] w fun e w'=>e=.returned (.int .u32 s)/\w=w':=by
 have a:=hr.cell 0;go_enter Tryz.func69,Tryz.ntmps69
 go_wp2;go_ret;exact⟨rfl,rfl⟩
theorem TM (v:Value) (ls:List (List UInt8)) (w:World) (hm:total ls<=9223372036854775807) (ht:CrcTab w) (hp:Parts w v ls) :
  Calls Tryz.prog 35 #[v] w fun e w'=>e=.returned (.int .u32 (PCrc.of ls.flatten:Nat))/\Below w.heap.size w w':=by
 go_enter Tryz.func35,Tryz.ntmps35
 go_wp2_with fail
 have a:=ht.lt;refine(U9 w.heap.size 0 0 v ls _ (by omega) (by omega) (ht.alloc _) (Blk.new w _ _) (hp.alloc _) (by omega)).mono ?_;rintro e w' ⟨rfl,c,d⟩;go_wp2_with fail
 refine(Ta _ _ _ _ c).mono ?_;rintro e f ⟨rfl,rfl⟩;go_wp2_with fail
 go_ret;refine⟨rfl,?_⟩;exact(((Mod.refl (fun _=>False) w).alloc _).trans d (fun b hb a=>by omega)).below (Nat.le_refl _) (fun _ _ h=>h)

def stepK:Nat->Nat->Nat
 | 0,x=>x
 | k+1,x=>stepK k (PCrc.bitstep x)
theorem WD (k x:Nat):stepK (k+1) x=PCrc.bitstep (stepK k x):=by
 induction k generalizing x with
 | zero=>rfl
 | succ k ih=>rw [stepK,ih]; rfl
theorem Uh (k x:Nat) (h:x<4294967296):stepK k x<4294967296:=by
 induction k generalizing x with
 | zero=>exact h
 | succ k ih=>exact ih _ (PCrc.bitstep_lt x h)

theorem Vf (x:Nat) (c:UInt8) (w:World) (hx:x<4294967296) :
  Calls Tryz.prog 102 #[.int .u32 x,.int .u8 c.toNat] w fun e w'=>e=.returned (.int .u32 (PCrc.put x c:Nat))/\w=w':=by
 have r:=c.toNat_lt;have a:=u32_xor_nat x c.toNat hx (by omega);have h:=PCrc.xor_u8_lt x c hx;have d:=hid (PCrc.step_eq x c);unfold PCrc.step at d;obtain⟨y,j⟩:=exq (x ^^^ c.toNat);rw [j] at a h d;clear j;go_enter Tryz.func102,Tryz.ntmps102
 go_wp2;clear a;go_loop [0,5] (fun x i=>∃k:Nat,k<=8/\i=.int .i64 k/\x=.int .u32 (stepK k y:Nat)) (fun _ i=>8 - (intOf i).toNat)
 case atStart=>exact⟨0,by omega,rfl,rfl⟩
 case round =>
  obtain⟨k,s,rfl,rfl⟩:=hrel;by_cases m:k<8
  ·have n:=Uh k y h;have f:=hid (WD k y);obtain⟨z,l⟩:=exq (stepK k y);rw [l] at n f ⊢;clear l;by_cases b:z % 2=1
   ·have o:((z:Int) % 2 == 1)=true:=by rw [beq_iff_eq]; omega
    have p:bits .xor .u32 ((z:Int) / 2) 3988292384=((z / 2 ^^^ 3988292384:Nat):Int):=X9 _ (z / 2) 3988292384 (by omega) (by omega) (by omega);have g:=hid (show PCrc.bitstep z=z / 2 ^^^ 3988292384 by unfold PCrc.bitstep; rw [if_pos b]);clear b;go_wp2;go_round
    case rel=>exact⟨k+1,by omega,by go_num,by rw [f.out,g.out]⟩
    case measure=>simp [intOf]; omega
   ·have o:((z:Int) % 2 == 1)=false:=by rw [beq_eq_false_iff_ne]; omega
    have g:=hid (show PCrc.bitstep z=z / 2 by unfold PCrc.bitstep; rw [if_neg b]);clear b;go_wp2;go_round
    case rel=>exact⟨k+1,by omega,by go_num,by rw [f.out,g.out]; rfl⟩
    case measure=>simp [intOf]; omega
  ·have q:k=8:=by omega
   subst q;go_wp2;go_ret;refine⟨XP ?_,rfl⟩;rw [<- d.out]; rfl

theorem Tb (x:Nat) (v:Value) (l:List UInt8) (w:World) (hx:x<4294967296) (hb:Byt w v l) :
  Calls Tryz.prog 70 #[.int .u32 x,v] w fun e w'=>e=.returned (.int .u32 (PCrc.inv (PCrc.reg (PCrc.inv x) l):Nat))/\w=w':=by
 obtain⟨A,c,rfl,j,o,m⟩:=hb;unfold maxLen at m;have n:((4294967295:Int) - x)=((PCrc.inv x:Nat):Int):=by unfold PCrc.inv; omega
 have a:(4294967295:Int) - x<=4294967295:=by omega
 have g:=PCrc.inv_lt x hx;go_enter Tryz.func70,Tryz.ntmps70
 go_wp2;clear n a;go_loop [5,6] (fun y i=>∃k:Nat,k<=l.length/\i=.int .i64 k/\y=.int .u32 (PCrc.reg (PCrc.inv x) (l.take k):Nat)) (fun _ i=>l.length - (intOf i).toNat)
 case atStart=>exact⟨0,Nat.zero_le _,rfl,rfl⟩
 case round =>
  obtain⟨k,p,rfl,rfl⟩:=hrel;have d:=PCrc.reg_lt (l.take k) _ g;by_cases b:k<l.length
  ·obtain⟨q,rfl,r⟩:=j.at8 b;have h:=hid (Wb (PCrc.inv x) l k b);have hb:=l[k].toNat_lt;obtain⟨z,f⟩:=exq (PCrc.reg (PCrc.inv x) (l.take k));rw [f] at d h ⊢;clear f;go_wp2_with fail
   refine(Vf z l[k] _ d).mono ?_;rintro e w' ⟨rfl,rfl⟩;go_wp2;go_round
   case rel=>exact⟨k+1,by omega,by go_num,by rw [h.out]; rfl⟩
   case measure=>simp [intOf]; omega
  ·rw [List.take_of_length_le (by omega)] at d ⊢;obtain⟨z,f⟩:=exq (PCrc.reg (PCrc.inv x) l);rw [f] at d ⊢;have a:(4294967295:Int) - z<=4294967295:=by omega
   go_wp2;go_ret;refine⟨XP ?_,rfl⟩;unfold PCrc.inv; omega

/-! ### n bytes 0 -/
def ones:List Nat:=(List.range 32).map fun i=>PCrc.whole (2 ^ i)
theorem Zo (h:PG.Hd) (ve:Value) (k:Nat) (hk:k=2∨k=4∨k=8∨k=16) (H:Sp w0 L w) :
  Calls Tryz.prog 37 #[.agg (hdV h ve).toArray,.int .i64 k] w fun e w'=>e=.returned (.bool (PG.has h.flags k))/\Sp w0 L w':=by
 unfold hdV;have b:=H.newBk [.int .u8 h.flags.toNat,.int .u8 h.level.toNat,.int .u8 h.system.toNat,.int .u32 h.time,ve,.string (strOf h.name),.string (strOf h.note)] 47;have j:=b.cell 0 rfl 0;have c:=b.tail;have l:=UInt8.toNat_lt h.flags;obtain⟨f,a⟩:=exq h.flags.toNat;have o:=hid a;unfold PG.has;rw [a] at j l c ⊢;have m:=hid c;obtain⟨z,d⟩:∃z:Nat,f / k=z:=⟨_,rfl⟩;obtain⟨r,g⟩:∃r:Bool,decide (z % 2=1)=r:=⟨_,rfl⟩;have p:((z:Int) % 2 == 1)=r:=by
  rw [<- g];by_cases q:z % 2=1
  ·rw [decide_eq_true q,beq_iff_eq]; omega
  ·rw [decide_eq_false q,beq_eq_false_iff_ne]; omega
 rw [d,g];clear b c a H;go_enter Tryz.func37,Tryz.ntmps37
 have i:(f:Int) / (k:Int)=(z:Int):=by
  rw [<- d]; exact(Int.natCast_ediv f k).symm
 rcases hk with rfl | rfl | rfl | rfl
 all_goals
  have n:=i;simp only [Int.cast_ofNat_Int] at n;clear i d g;go_wp2;go_ret;exact⟨rfl,m.out⟩
theorem YJ (n many:Nat) (hn:n<4294967296) (hm:many<=8) (H:Sp w0 L w) :
  Calls Tryz.prog 36 #[.int .u32 n,.int .i64 many] w fun e w'=>∃v,e=.returned v/\Sp w0 (Row 5 1 v many (cells8 (PG.low n many))::L) w':=by
 obtain⟨q,r,f,g,h⟩:=info_parts info8;have m:=hid (H.rowNil 5 1);go_enter Tryz.func36,Tryz.ntmps36
 go_wp2_with fail
 go_loopw [0,5,6] (fun nv bv iv wr=>∃(k x:Nat),k<=many/\iv=.int .i64 k/\nv=.int .u32 x/\x<4294967296/\Hid (n / 256 ^ k=x)/\Sp w0 (Row 5 1 bv k (cells8 (PG.low n k))::L) wr) (fun _ _ iv _=>many - (intOf iv).toNat)
 case atStart=>exact⟨0,n,Nat.zero_le _,rfl,rfl,hn,hid (Nat.div_one n),m.out⟩
 case round =>
  clear H m;obtain⟨k,x,C,rfl,rfl,D,o,a⟩:=hrel;by_cases s:k<many
  ·have t:(k:Int)<(many:Int):=by omega
   obtain⟨V,c,rfl,y,z⟩:=Row.form a 0 rfl;go_wp2_with (at_builtin; refine wpList_append_sp rfl _ _ 24 rfl 5 q (.int .u8 0) 1 1 Tryz.underlying24 r f g h rfl (by decide) (.slice V k c) k (cells8 (PG.low n k)) rfl (a.newBk [.int .u8 ((x:Int) % 256)] _).swap (some ⟨wr.heap.size,0,none⟩) 1 1 [.int .u8 ((x:Int) % 256)] rfl rfl (Rd.of_blk ((a.newBk [.int .u8 ((x:Int) % 256)] _).blk 0 rfl)) (by intro u A; rw [List.mem_singleton.1 A]; rfl) (by unfold maxLen; omega) (by omega) ?_)
   intro E F i _;have p:cells8 (PG.low n k)++[.int .u8 ((x:Int) % 256)]=cells8 (PG.low n (k+1)):=by
    rw [Xy,o.out];unfold cells8;rw [List.map_append];congr 2
   rw [p] at i;have B:=hid (i.pick 2 [0]);clear i a p;obtain⟨d,b⟩:=exq (x / 256);have G:(x:Int) / 256=(d:Int):=by omega
   have j:Hid (n / 256 ^ (k+1)=d):=by
    rw [Nat.pow_succ,<- Nat.div_div_eq_div_mul,o.out,b]; exact hid rfl
   have l:d<4294967296:=by omega
   clear b;go_wp2_with fail
   go_roundw
   case rel=>exact⟨k+1,d,by omega,by go_num,by go_num,l,j,B.out⟩
   case measure=>first | (simp [intOf]; omega) | simp [intOf]
  ·obtain rfl:k=many:=by omega
   have t:¬ (k:Int)<(k:Int):=by omega
   go_wp2_with fail
   go_ret;exact⟨_,rfl,a⟩
def PG.textQ (s:List UInt8) (is:Bool):Prop:=(∀c ∈ s,c≠0)/\s.length<=65535/\(is=true∨s=[])
theorem PG.textQ_iff (f:UInt8) (k:Nat) (s:List UInt8):PG.textQ s (PG.has f k)↔PG.textOk f k s:=⟨fun h=>⟨h.2.1,h.1,h.2.2.symm⟩,fun h=>⟨h.2.1,h.1,h.2.2.symm⟩⟩
instance (s:List UInt8) (is:Bool):Decidable (PG.textQ s is):=by unfold PG.textQ; infer_instance
theorem Zy (s:List UInt8) (is:Bool) (w:World) (hs:s.length<=maxLen) :
  Calls Tryz.prog 43 #[.string (strOf s),.bool is] w fun e w'=>e=.returned (.bool (decide (PG.textQ s is)))/\w=w':=by
 have g:=Zi s;obtain⟨n,z⟩:=exq s.length;rw [z] at g hs;obtain⟨r,A⟩:=exq (decide (PG.textQ s is));rw [A];have u:=hid A;have v:=hid z;clear A z;unfold maxLen at hs;go_enter Tryz.func43,Tryz.ntmps43
 go_wp2_with fail
 go_loop [5] (fun iv=>∃k:Nat,k<=n/\iv=.int .i64 k/\Hid (∀c ∈ s.take k,c≠0)) (fun iv=>n - (intOf iv).toNat)
 case atStart=>exact⟨0,Nat.zero_le _,rfl,hid (by intro c p; cases p)⟩
 case round =>
  obtain⟨k,J,rfl,B⟩:=hrel;by_cases h:k<n
  ·have F:(k:Int)<(n:Int):=by omega
   have m:k<s.length:=by rw [v.out]; exact h
   have y:(strOf s)[k]'(by rw [g]; exact h)=s[k]:=rfl;have i:s.take (k+1)=s.take k++[s[k]]:=List.take_succ_eq_append_getElem m;obtain⟨c,p⟩:=exq (s[k]);rw [p] at y i;by_cases j:c=0
   ·subst j;have a:decide (PG.textQ s is)=false:=decide_eq_false fun t=>t.1 0 (by rw [<- p]; exact List.getElem_mem m) rfl;rw [u.out] at a;have C:((((strOf s)[k]'(by rw [g]; exact h)).toNat:Int) == 0)=true:=by rw [y]; rfl
    replace a:=hid a;clear y i p;go_wp2;go_ret;exact⟨congrArg (fun b=>Ending.returned (.bool b)) a.out.symm,rfl⟩
   ·have D:¬ c.toNat=0:=fun q=>j (UInt8.toNat_inj.1 q);have C:((((strOf s)[k]'(by rw [g]; exact h)).toNat:Int) == 0)=false:=by rw [y,beq_eq_false_iff_ne]; omega
    have l:Hid (∀c ∈ s.take (k+1),c≠0):=hid (by
     rw [i];intro d G;rcases List.mem_append.1 G with q | q
     ·exact B.out d q
     ·rw [List.mem_singleton.1 q]; exact j)
    clear y i p j D;go_wp2;go_round
    case rel=>exact⟨k+1,by omega,by go_num,l⟩
    case measure=>first | (simp [intOf]; omega) | simp [intOf]
  ·obtain rfl:k=n:=by omega
   have F:¬ (k:Int)<(k:Int):=by omega
   have l:Hid (∀c ∈ s,c≠0):=hid (by
    have:=B.out
    rwa [List.take_of_length_le (by rw [v.out]; exact Nat.le_refl _)] at this)
   clear B;by_cases E:k<=65535
   ·have H:(k:Int)<=65535:=by omega
    cases is with
    | true =>
     have f:decide (PG.textQ s true)=true:=decide_eq_true ⟨l.out,by rw [v.out]; exact E,.inl rfl⟩;rw [u.out] at f;replace f:=hid f;go_wp2;go_ret;exact⟨congrArg (fun b=>Ending.returned (.bool b)) f.out.symm,rfl⟩
    | false =>
     by_cases o:s=[]
     ·have f:decide (PG.textQ s false)=true:=decide_eq_true ⟨l.out,by rw [v.out]; exact E,.inr o⟩;rw [u.out] at f;have I:(strOf s).toList=[]:=by rw [Zt]; exact o
      replace f:=hid f;clear o;go_wp2;go_ret;exact⟨congrArg (fun b=>Ending.returned (.bool b)) f.out.symm,rfl⟩
     ·have a:decide (PG.textQ s false)=false:=decide_eq_false fun t=>by
       rcases t.2.2 with q | q
       ·cases q
       ·exact o q
      rw [u.out] at a;have I:¬ (strOf s).toList=[]:=by rw [Zt]; exact o
      replace a:Hid ((strOf s).toList.isEmpty=r):=by
       rw [Zt];cases s with
       | nil=>exact absurd rfl o
       | cons x s=>exact hid a.symm
      clear o;go_wp2;go_ret;exact⟨congrArg (fun b=>Ending.returned (.bool b)) a.out,rfl⟩
   ·have H:¬ (k:Int)<=65535:=by omega
    have a:decide (PG.textQ s is)=false:=decide_eq_false fun t=>E (by rw [<- v.out]; exact t.2.1);rw [u.out] at a;replace a:=hid a;go_wp2;go_ret;exact⟨congrArg (fun b=>Ending.returned (.bool b)) a.out.symm,rfl⟩
theorem Vg (v:Value) (l:List UInt8) (w:World) (hb:Byt w v l) :
  Calls Tryz.prog 38 #[v] w fun e w'=>e=.returned (.int .u32 (PCrc.of l:Nat))/\w=w':=by
 have h:=hid (Tb 0 v l w (by decide) hb);clear hb;go_enter Tryz.func38,Tryz.ntmps38
 go_wp2_with fail
 refine h.out.mono ?_;rintro _ _ ⟨rfl,rfl⟩;go_wp2;go_ret;exact⟨rfl,rfl⟩
namespace SS
variable {α:Type} (key:α->Int)
def put:List α->α->List α
 | [],p=>[p]
 | x::l,p=>if key x<=key p then x::put l p else p::x::l
def mrg (u v:List α):List α:=v.foldl (put key) u
def isort (l:List α):List α:=mrg key [] l
def Srt (l:List α):Prop:=l.Pairwise fun x y=>key x<=key y
variable {key}
theorem mem_put {l:List α} {p z:α} : z ∈ put key l p↔z=p∨z ∈ l:=by
 induction l with
 | nil=>simp [put]
 | cons x l ih =>
  unfold put;split
  ·rw [List.mem_cons,ih,List.mem_cons]; constructor
   ·rintro(h | h | h)
    ·exact .inr (.inl h)
    ·exact .inl h
    ·exact .inr (.inr h)
   ·rintro(h | h | h)
    ·exact .inr (.inl h)
    ·exact .inl h
    ·exact .inr (.inr h)
  ·rw [List.mem_cons]
theorem len_put (l:List α) (p:α):(put key l p).length=l.length+1:=by
 induction l with
 | nil=>rfl
 | cons x l ih =>
  unfold put;split
  ·rw [List.length_cons,ih,List.length_cons]
  ·rfl
theorem srt_put {l:List α} (h:Srt key l) (p:α):Srt key (put key l p):=by
 induction l with
 | nil=>exact List.pairwise_singleton _ _
 | cons x l ih =>
  have a:=List.pairwise_cons.1 h;unfold put;split
  ·rename_i hx
   refine List.pairwise_cons.2 ⟨fun z hz=>?_,ih a.2⟩;rcases mem_put.1 hz with rfl | hz
   ·exact hx
   ·exact a.1 z hz
  ·rename_i hx
   refine List.pairwise_cons.2 ⟨fun z hz=>?_,h⟩;rcases List.mem_cons.1 hz with rfl | hz
   ·omega
   ·have:=a.1 z hz; omega
theorem mem_mrg {u v:List α} {z:α} : z ∈ mrg key u v↔z ∈ u∨z ∈ v:=by
 unfold mrg;induction v generalizing u with
 | nil=>simp
 | cons y v ih =>
  rw [List.foldl_cons,ih,mem_put,List.mem_cons]; constructor
  ·rintro((h | h) | h)
   ·exact .inr (.inl h)
   ·exact .inl h
   ·exact .inr (.inr h)
  ·rintro(h | h | h)
   ·exact .inl (.inr h)
   ·exact .inl (.inl h)
   ·exact .inr h
theorem len_mrg (u v:List α):(mrg key u v).length=u.length+v.length:=by
 unfold mrg;induction v generalizing u with
 | nil=>simp
 | cons y v ih=>rw [List.foldl_cons,ih,len_put,List.length_cons]; omega
theorem srt_mrg {u:List α} (h:Srt key u) (v:List α):Srt key (mrg key u v):=by
 unfold mrg;induction v generalizing u with
 | nil=>exact h
 | cons y v ih=>exact ih (srt_put h y)
theorem srt_isort (l:List α):Srt key (isort key l):=srt_mrg List.Pairwise.nil l
theorem len_isort (l:List α):(isort key l).length=l.length:=by unfold isort; rw [len_mrg]; simp
theorem mem_isort {l:List α} {z:α} : z ∈ isort key l↔z ∈ l:=by unfold isort; rw [mem_mrg]; simp
theorem mrg_app (u v w:List α):mrg key u (v++w)=mrg key (mrg key u v) w:=List.foldl_append
theorem isort_snoc (l:List α) (x:α):isort key (l++[x])=put key (isort key l) x:=mrg_app _ _ _
theorem isort_app (l m:List α):isort key (l++m)=mrg key (isort key l) m:=mrg_app _ _ _
theorem put_back {s t:List α} {y:α} (h:∀x ∈ s,key x<=key y):put key (s++t) y=s++put key t y:=by
 induction s with
 | nil=>rfl
 | cons x s ih =>
  show(if key x<=key y then x::put key (s++t) y else _)=_;rw [if_pos (h x (List.mem_cons_self ..)),ih fun z hz=>h z (List.mem_cons_of_mem _ hz)]; rfl
theorem put_end {s:List α} {y:α} (h:∀x ∈ s,key x<=key y):put key s y=s++[y]:=by
 have:=put_back (t:=[]) h
 rwa [List.append_nil] at this
theorem put_front {t:List α} {y:α} (h:∀x ∈ t,key y<key x):put key t y=y::t:=by
 cases t with
 | nil=>rfl
 | cons x t =>
  show(if key x<=key y then _ else y::x::t)=_;rw [if_neg (by have:=h x (List.mem_cons_self ..); omega)]
theorem put_ahead {s t:List α} {y:α} (h:∀x ∈ t,key y<key x):put key (s++t) y=put key s y++t:=by
 induction s with
 | nil=>exact put_front h
 | cons x s ih =>
  show(if key x<=key y then x::put key (s++t) y else y::x::(s++t))=(if key x<=key y then x::put key s y else y::x::s)++t;split
  ·rw [ih]; rfl
  ·rfl
theorem put_at {s t:List α} {y:α} (h1:∀x ∈ s,key x<=key y) (h2:∀x ∈ t,key y<key x):put key (s++t) y=s++y::t:=by
 rw [put_back h1,put_front h2]
theorem mrg_nil {v:List α} (h:Srt key v):mrg key [] v=v:=by
 suffices ∀u,Srt key (u++v)->mrg key u v=u++v from this [] h
 induction v with
 | nil=>intro u _; simp [mrg]
 | cons y v ih =>
  intro u a;have b:put key u y=u++[y]:=put_end fun x hx=>(List.pairwise_append.1 a).2.2 x hx y (List.mem_cons_self ..);show mrg key (put key u y) v=_;rw [b,ih (List.pairwise_cons.1 h).2 (u++[y]) (by rw [List.append_assoc]; exact a),List.append_assoc]; rfl
theorem mrg_ahead {u t v:List α} (h:∀x ∈ t,∀y ∈ v,key y<key x):mrg key (u++t) v=mrg key u v++t:=by
 unfold mrg;induction v generalizing u with
 | nil=>rfl
 | cons y v ih =>
  rw [List.foldl_cons,put_ahead fun x hx=>h x hx y (List.mem_cons_self ..),ih fun x hx z hz=>h x hx z (List.mem_cons_of_mem _ hz)]; rfl
theorem mrg_back {s u v:List α} (h:∀x ∈ s,∀y ∈ v,key x<=key y):mrg key (s++u) v=s++mrg key u v:=by
 unfold mrg;induction v generalizing u with
 | nil=>rfl
 | cons y v ih =>
  rw [List.foldl_cons,put_back fun x hx=>h x hx y (List.mem_cons_self ..),ih fun x hx z hz=>h x hx z (List.mem_cons_of_mem _ hz)]; rfl
theorem mrg_split {u1 u2 v1 v2:List α} (hv:Srt key (v1++v2)) (h1:∀x ∈ u1,∀y ∈ v2,key x<=key y) (h2:∀x ∈ u2,∀y ∈ v1,key y<key x) :
  mrg key (u1++u2) (v1++v2)=mrg key u1 v1++mrg key u2 v2:=by
 rw [mrg_app,mrg_ahead h2,mrg_back];intro x a y b;rcases mem_mrg.1 a with a | a
 ·exact h1 x a y b
 ·exact(List.pairwise_append.1 hv).2.2 x a y b
theorem put_comm (u:List α) {x y:α} (h:key y<key x):put key (put key u y) x=put key (put key u x) y:=by
 induction u with
 | nil =>
  show(if key y<=key x then y::[x] else x::y::[])=(if key x<=key y then x::[y] else y::x::[]);rw [if_pos (by omega),if_neg (by omega)]
 | cons z u ih =>
  by_cases b:key z<=key y
  ·have a:key z<=key x:=by omega
   simp only [put,if_pos b,if_pos a,ih]
  ·by_cases a:key z<=key x
   ·have c:key y<=key x:=by omega
    simp only [put,if_neg b,if_pos a,if_pos c]
   ·have c:key y<=key x:=by omega
    have d:¬ key x<=key y:=by omega
    simp only [put,if_neg b,if_neg a,if_pos c,if_neg d]
theorem mrg_comm (u:List α) {v:List α} {y:α} (h:∀x ∈ v,key y<key x):mrg key (put key u y) v=put key (mrg key u v) y:=by
 unfold mrg;induction v generalizing u with
 | nil=>rfl
 | cons x v ih =>
  rw [List.foldl_cons,List.foldl_cons,put_comm u (h x (List.mem_cons_self ..)),ih _ fun z hz=>h z (List.mem_cons_of_mem _ hz)]
theorem mrg_put (u:List α) {v:List α} (hv:Srt key v) (y:α):mrg key u (put key v y)=put key (mrg key u v) y:=by
 induction v generalizing u with
 | nil=>rfl
 | cons x v ih =>
  have a:=List.pairwise_cons.1 hv;by_cases h:key x<=key y
  ·rw [show put key (x::v) y=x::put key v y from if_pos h];exact ih _ a.2
  ·rw [show put key (x::v) y=y::x::v from if_neg h];refine mrg_comm u fun z hz=>?_;rcases List.mem_cons.1 hz with rfl | hz
   ·omega
   ·have:=a.1 z hz; omega
theorem mrg_isort (u l:List α):mrg key u (isort key l)=mrg key u l:=by
 suffices ∀m:List α,l=m.reverse->mrg key u (isort key l)=mrg key u l from this l.reverse (by simp)
 intro m;induction m generalizing l with
 | nil=>rintro rfl; rfl
 | cons x m ih =>
  rintro rfl;rw [List.reverse_cons,isort_snoc,mrg_put u (srt_isort _),ih _ rfl,mrg_app]; rfl
theorem mrg_isorts (x y:List α):mrg key (isort key x) (isort key y)=isort key (x++y):=by rw [mrg_isort,isort_app]
theorem isort_isort (l:List α):isort key (isort key l)=isort key l:=mrg_isort [] l
inductive Chs (key:α->Int) (s:Nat):Nat->List α->List α->Prop
 | nil:Chs key s 0 [] []
 | cons {k:Nat} {x d l:List α} : x.length=s->Chs key s k d l->Chs key s (k+1) (isort key x++d) (x++l)
theorem Chs.len {s k:Nat} {d l:List α} (h:Chs key s k d l):d.length=k * s/\l.length=k * s:=by
 induction h with
 | nil=>simp
 | cons hx _ ih=>rw [List.length_append,List.length_append,len_isort,hx,ih.1,ih.2,Nat.succ_mul]; omega
theorem Chs.snoc {s k:Nat} {d l x:List α} (h:Chs key s k d l) (hx:x.length=s):Chs key s (k+1) (d++isort key x) (l++x):=by
 induction h with
 | nil =>
  have:=Chs.cons (key:=key) hx Chs.nil
  rwa [List.append_nil,List.append_nil] at this
 | cons hy _ ih=>rw [List.append_assoc,List.append_assoc]; exact Chs.cons hy ih
theorem Chs.inv {s k:Nat} {d l:List α} (h:Chs key s (k+1) d l):∃x d' l',x.length=s/\d=isort key x++d'/\l=x++l'/\Chs key s k d' l':=by
 cases h with
 | cons hx h=>exact⟨_,_,_,hx,rfl,rfl,h⟩
theorem Chs.zero {s:Nat} {d l:List α} (h:Chs key s 0 d l):d=[]/\l=[]:=by cases h; exact⟨rfl,rfl⟩
theorem Chs.end_ {s k:Nat} {d l y:List α} (h:Chs key s k d l) (hn:l.length+y.length<=s):d++isort key y=isort key (l++y):=by
 cases k with
 | zero=>obtain⟨rfl,rfl⟩:=h.zero; rfl
 | succ k =>
  obtain⟨x,c,e,f,rfl,rfl,g⟩:=h.inv;have a:=g.len;rw [List.length_append,f] at hn;have i:y=[]:=List.eq_nil_of_length_eq_zero (by omega);have b:e=[]:=List.eq_nil_of_length_eq_zero (by omega);have j:c=[]:=List.eq_nil_of_length_eq_zero (by rw [a.1,<- a.2,b]; rfl);subst i b j;simp [isort,mrg]
def sw (d:α) (l:List α) (i j:Nat):List α:=(l.set i (l.getD j d)).set j (l.getD i d)
theorem getD_app (d:α) (a b:List α) (x:α) {i:Nat} (h:a.length=i):(a++x::b).getD i d=x:=by
 subst h;rw [List.getD_eq_getElem?_getD,List.getElem?_append_right (Nat.le_refl _),Nat.sub_self]; rfl
theorem set_app (a b:List α) (x y:α) {i:Nat} (h:a.length=i):(a++x::b).set i y=a++y::b:=by
 subst h;rw [List.set_append_right _ _ (Nat.le_refl _),Nat.sub_self]; rfl
theorem sw_app (d:α) (a b c:List α) (x y:α) {i j:Nat} (hi:a.length=i) (hj:a.length+1+b.length=j):sw d (a++x::b++y::c) i j=a++y::b++x::c:=by
 have e:a++x::b++y::c=a++x::(b++y::c):=by simp
 have g:∀z,a++z::b++y::c=(a++z::b)++y::c:=fun z=>rfl;unfold sw;rw [getD_app d (a++x::b) c y (by rw [List.length_append,List.length_cons]; omega),e,getD_app d a _ x hi,set_app a _ x y hi];have f:a++y::(b++y::c)=(a++y::b)++y::c:=by simp
 rw [f,set_app (a++y::b) c y x (by rw [List.length_append,List.length_cons]; omega)]
theorem sw_comm (d:α) (l:List α) (i j:Nat) (h:i≠j):sw d l i j=sw d l j i:=by
 unfold sw;rw [List.set_comm _ _ h]
end SS
end Go.Proofs.YteajimobgkempaaGreatDoor

