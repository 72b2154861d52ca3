/- A pack. -/
import Derived.Test.YtnjpnmpemhldcaaGreatDoorPk07
set_option linter.all false
set_option maxRecDepth 100000
set_option maxHeartbeats 8000000
namespace Go.Proofs.YtnjpnmpemhldcaaGreatDoor
variable {w0 w:World} {L:List Pr}
open Go.RowKit
def cmpI (x y:Int):Int:=if x<y then -1 else if y<x then 1 else 0
theorem UQ (x:Int) (w:World):Calls Tryz.prog 171 #[.int .i64 x] w fun e w'=>e=.returned (.bool false)/\w=w':=by
 go_enter Tryz.func171,Tryz.ntmps171
 go_wp2;go_ret;exact⟨rfl,rfl⟩
theorem UR (x y:Int) (w:World):Calls Tryz.prog 146 #[.int .i64 x,.int .i64 y] w fun e w'=>e=.returned (.int .i64 (cmpI x y))/\w=w':=by
 obtain⟨r,a⟩:=exq (cmpI x y);rw [a];have b:=hid a;clear a;go_enter Tryz.func146,Tryz.ntmps146
 go_wp2_with fail
 refine(UQ x _).mono ?_;rintro _ _ ⟨rfl,rfl⟩;go_wp2_with fail
 refine(UQ y _).mono ?_;rintro _ _ ⟨rfl,rfl⟩;by_cases c:x<y
 ·go_wp2_with fail
  go_ret;exact⟨ZU (by rw [<- b.out]; unfold cmpI; rw [if_pos c]),rfl⟩
 ·by_cases d:y<x
  ·go_wp2_with fail
   go_ret;exact⟨ZU (by rw [<- b.out]; unfold cmpI; rw [if_neg (by omega),if_pos (by omega)]),rfl⟩
  ·go_wp2_with fail
   go_ret;exact⟨ZU (by rw [<- b.out]; unfold cmpI; rw [if_neg (by omega),if_neg (by omega)]),rfl⟩
theorem index16 (f:Nat->Nat) (i:Nat) (h:i<16) (w:World):(Instr.index 273 (.agg (cntV f).toArray) (.int .i64 i)).run Tryz.prog w=.ok (.int .i64 (f i:Int)) w:=by
 simp [Instr.index,run_underlying Tryz.underlying273,asIntOf,part,Result.andThen,ZQ f i h];intro a; omega
theorem X9 (A:Option Addr) (n c:Nat) (m:List Nat) (H:Sp w0 L w) (hn:n=m.length) (hb:Ent L fun w=>Rd w A (cells64 (castI m))) (hl:n<=1024) (h15:∀x ∈ m,x<=15) :
  Calls Tryz.prog 180 #[.slice A n c] w fun e w'=>e=.returned (.tuple #[.int .i64 (PH.state m),.int .i64 0])/\Sp w0 L w':=by
 have b:=Vf A n c (castI m) H (by simpa [castI] using hn) hb (by omega);have k:PH.may (castI m)=true:=by
  unfold PH.may;rw [decide_eq_true (by rw [<- show n=(castI m).length by simpa [castI] using hn]; exact hl),Bool.true_and,Bool.not_eq_true',List.any_eq_false];intro x z;obtain⟨y,O,rfl⟩:=List.mem_map.1 z;have:=h15 y O;unfold PH.bad;simp only [decide_eq_true_eq];omega
 rw [k] at b;have B:=hid hn;have P:=hid hb;have C:=hid h15;have a:cmpI (PH.sum m:Int) 32768=PH.state m:=by
  unfold cmpI PH.state;by_cases I:PH.sum m<32768
  ·rw [if_pos I,if_pos (by omega)]
  ·rw [if_neg I,if_neg (by omega)];by_cases r:32768<PH.sum m
   ·rw [if_pos r,if_pos (by omega)]
   ·rw [if_neg r,if_neg (by omega)]
 have g:=hid a;clear hn hb h15 k a;obtain⟨st,a⟩:=exq (PH.state m);rw [a];rw [a] at g;clear a;obtain⟨t,D⟩:=exq (tallyV m);have l:∀(i:Nat) (w:World),i<16->(Instr.index 273 t (.int .i64 i)).run Tryz.prog w=.ok (.int .i64 (PH.tal m i:Int)) w:=fun i w h=>by rw [<- D]; exact index16 _ i h w
 have E:=hid l;have Q:=hid D;clear l D;go_enter Tryz.func180,Tryz.ntmps180
 go_wp2_with fail
 refine b.mono ?_;rintro _ X ⟨rfl,R⟩;clear b;go_wp2_with fail
 refine(Xe A n c m R B.out P.out (by omega) C.out).mono ?_;rintro _ Y ⟨rfl,S⟩;rw [Q.out];go_wp2_with fail
 go_loopw [4,12] (fun sv iv wr=>∃i:Nat,iv=.int .i64 i/\sv=.int .i64 (PH.share m i:Int)/\i<=16/\Sp w0 L wr) (fun _ iv _=>16 - (intOf iv).toNat)
 case atStart=>exact⟨0,rfl,rfl,by omega,S⟩
 case round =>
  obtain⟨i,rfl,rfl,Z,J⟩:=hrel;by_cases F:i<16
  ·have T:(i:Int)<16:=by omega
   have z:=E.out i wr F;obtain⟨q,u⟩:=exq (PH.tal m i);have U:q<=n:=by rw [<- u,B.out]; exact PH.tal_le m i
   obtain⟨s,f⟩:=exq (PH.share m i);have V:s<=600000000:=by
    rw [<- f];have:=PH.share_le m i;rw [<- B.out] at this;have r:i * (n * 32768)<=16 * (1024 * 32768):=Nat.mul_le_mul (by omega) (Nat.mul_le_mul_right _ hl);omega
   have j:PH.share m (i+1)=s+q * 2 ^ (15 - i):=by rw [PH.share,f,u]
   rw [u] at z;rw [f];obtain⟨p,v⟩:=exq (q * 2 ^ (15 - i));have W:p<=40000000:=by
    rw [<- v];have:(2:Nat) ^ (15 - i)<=2 ^ 15:=Nat.pow_le_pow_right (by omega) (by omega);have r:q * 2 ^ (15 - i)<=1024 * 2 ^ 15:=Nat.mul_le_mul (by omega) this;omega
   rw [v] at j;have G:=hid j;have K:=hid v;clear j v u f;obtain⟨d,M⟩:=exq (15 - i);have e1:(15:Int) - (i:Int)=(d:Int):=by omega
   have N:d<=15:=by omega
   rw [M] at K;have e2:(q:Int) * 2 ^ d=(p:Int):=by
    rw [<- K.out];simp
   clear M;go_wp2_with fail
   go_roundw
   case rel =>
    refine⟨i+1,by go_num,?_,by omega,J⟩;rw [G.out];exact congrArg (Value.int .i64) (by omega)
   case measure=>first | (simp [intOf]; omega) | simp [intOf]
  ·have T:¬ (i:Int)<16:=by omega
   obtain rfl:i=16:=by omega
   obtain⟨s,f⟩:=exq (PH.share m 16);have o:PH.sum m=s:=f;rw [o] at g;rw [f];clear f o;go_wp2_with fail
   refine(UR (s:Int) 32768 _).mono ?_;rintro _ _ ⟨rfl,rfl⟩;rw [g.out];go_wp2_with fail
   go_ret2;exact⟨rfl,J⟩
def cmpF:Value:=.func (.func 145) #[] #[]
theorem Yz (x y:PK) (H:Sp w0 L w) :
  Calls Tryz.prog 145 #[x.val,y.val] w fun e w'=>e=.returned (.int .i64 (cmpI x.c y.c))/\Sp w0 L w':=by
 obtain⟨a,b,p⟩:=x;obtain⟨c,d,q⟩:=y;unfold PK.val PK.ptr;simp only;obtain⟨P,i⟩:∃P:Option Addr,p.map (fun g=>(⟨g,0,none⟩:Addr))=P:=⟨_,rfl⟩;obtain⟨Q,j⟩:∃P:Option Addr,q.map (fun g=>(⟨g,0,none⟩:Addr))=P:=⟨_,rfl⟩;rw [i,j];clear i j p q;obtain⟨r,k⟩:=exq (cmpI a c);have h:=fun w=>UR a c w;rw [k] at h ⊢;have m:=hid h;clear h k;have l:(w.alloc (.cells #[.int .i64 a,.int .i64 b,.pointer P] 183)).heap.size=w.heap.size+1:=Array.size_push _;have f:=(H.newBk [.int .i64 a,.int .i64 b,.pointer P] 183).newBk [.int .i64 c,.int .i64 d,.pointer Q] 183;rw [l] at f;clear l;go_enter Tryz.func145,Tryz.ntmps145
 go_wp2_with fail
 generalize w.heap.size+1=g2 at f ⊢;generalize w.heap.size=g1 at f ⊢;generalize (w.alloc _).alloc _=w1 at f ⊢;have n:=f.cell 0 rfl 0;have o:=f.cell 1 rfl 0;simp only [List.getElem?_cons_zero] at n o;refine(m.out _).mono ?_;rintro _ _ ⟨rfl,rfl⟩;go_wp2_with fail
 go_ret;exact⟨rfl,f.pick 2 []⟩
end Go.Proofs.YtnjpnmpemhldcaaGreatDoor

