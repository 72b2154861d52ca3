/- A pack. -/
import Derived.Test.YteajimobgkempaaGreatDoorPk23
set_option linter.all false
set_option maxRecDepth 100000
set_option maxHeartbeats 8000000
namespace Go.Proofs.YteajimobgkempaaGreatDoor
variable {w0 w:World} {L:List Pr}
open Go.RowKit Go.MapKept
namespace PM
theorem mays_at (Y:List St) (m i:Nat) (h:mays Y m) (hi:i<Y.length):fits (Y[i]'hi) (m+size (Y.take i)):=by
 induction Y generalizing m i with
 | nil=>exact absurd hi (Nat.not_lt_zero _)
 | cons s Y ih =>
  cases i with
  | zero=>exact h.1
  | succ i =>
   have a:i<Y.length:=by simpa using hi
   have:=ih (m+made s) i h.2 a;show fits (Y[i]'a) (m+(made s+size (Y.take i)))
   rwa [<- Nat.add_assoc]
theorem size_append (a b:List St):size (a++b)=size a+size b:=by
 induction a with
 | nil=>exact(Nat.zero_add _).symm
 | cons s a ih=>show made s+size (a++b)=made s+size a+size b; rw [ih,Nat.add_assoc]
theorem size_take (Y:List St) (i:Nat):size (Y.take i)<=size Y:=by
 have:=size_append (Y.take i) (Y.drop i);rw [List.take_append_drop] at this;omega
end PM
theorem ZC (a b:List UInt8):cells8 (a++b)=cells8 a++cells8 b:=List.map_append
theorem WD (V:Option Addr) (n c:Nat) (X:List StI) (cap:Int) (H:Sp w0 L w) (hn:n=X.length) (hnm:n<=1000000) (h:Ent L (fun w=>Yo w V X)) (hbad:cap<0∨mayI X 0=false) :
  Calls Tryz.prog 45 #[.slice V n c,.int .i64 cap] w fun e w'=>e=.returned (.tuple #[.slice none 0 0,.int .i64 1])/\Sp w0 L w':=by
 have d:=hid hn;have f:=hid h;clear hn h;by_cases g:cap<0
 ·clear hbad;go_enter Tryz.func45,Tryz.ntmps45
  go_wp2_with fail
  go_ret2;exact⟨rfl,H⟩
 ·have b:mayI X 0=false:=hbad.resolve_left g;have a:=Uz V n c X H d.out hnm f.out;rw [b] at a;clear b hbad;go_enter Tryz.func45,Tryz.ntmps45
  go_wp2_with fail
  refine a.mono ?_;rintro _ j ⟨rfl,i⟩;clear a;go_wp2_with fail
  go_ret2;exact⟨rfl,i⟩
theorem Vo (V:Option Addr) (n c:Nat) (Y:List PM.St) (cap:Int) (H:Sp w0 L w) (hn:n=Y.length) (hnm:n<=1000000) (h:Ent L (fun w=>StAt w V Y)) (hm:PM.mays Y 0) (hs:(PM.size Y:Int)<=cap) (hsm:PM.size Y<=1000000) :
  Calls Tryz.prog 45 #[.slice V n c,.int .i64 cap] w fun e w'=>∃v,e=.returned (.tuple #[v,.int .i64 0])/\Sp w0 (Row 5 1 v (PM.expand Y []).length (cells8 (PM.expand Y []))::L) w':=by
 obtain⟨i0,O,P,Q,R⟩:=info_parts info8;have B:Ent L (fun w=>Yo w V (Y.map toI)):=h.mono fun w h=>h.toI;have S:∀s ∈ Y.map toI,s.1<=1000000:=by
  intro s hs;obtain⟨t,ht,rfl⟩:=List.mem_map.1 hs;obtain⟨i,hi,rfl⟩:=List.getElem_of_mem ht;have:=PM.mays_at Y 0 i hm hi;show((Y[i].1:Nat):Int)<=1000000;rcases this with h | h
  ·rw [h.1]; omega
  ·have:=h.2.1; omega
 have C:=Uz V n c (Y.map toI) H (by rw [List.length_map]; exact hn) hnm B;rw [show mayI (Y.map toI) 0=true from Ug Y 0 hm] at C;have D:=fun(w:World) (H:Sp w0 L w)=>Vn V n c (Y.map toI) H (by rw [List.length_map]; exact hn) hnm S B;rw [XE] at D;have HN:=hid hn;have HY:=hid h;have HM:=hid hm;have E:=hid D;obtain⟨z0,F⟩:=exq (PM.size Y);rw [F] at hs hsm E;have HZ:=hid F;have k0:¬ cap<0:=by omega
 have k1:¬ cap<(z0:Int):=by omega
 clear hn h hm D F B S;go_enter Tryz.func45,Tryz.ntmps45
 go_wp2_with fail
 refine C.mono ?_;rintro _ w1 ⟨rfl,H1⟩;clear C;go_wp2_with fail
 refine(E.out _ H1).mono ?_;rintro _ w2 ⟨rfl,H2⟩;go_wp2_with fail
 clear E H1 H;go_loopw [6,24] (fun bv iv wr=>∃(i:Nat) (V6:Option Addr) (c6:Nat) (b:List UInt8),iv=.int .i64 i/\bv=.slice V6 b.length c6/\i<=n/\PM.expand (Y.take i) []=b/\Sp w0 (Row 5 1 (.slice V6 b.length c6) b.length (cells8 b)::L) wr) (fun _ iv _=>n - (intOf iv).toNat)
 case atStart=>exact⟨0,none,0,[],rfl,rfl,Nat.zero_le _,rfl,H2.rowNil _ _⟩
 case round =>
  obtain⟨i,V6,c6,b,rfl,rfl,a9,I,H⟩:=hrel;by_cases hi:i<n
  ·have k2:(i:Int)<(n:Int):=by omega
   have r:i<Y.length:=by rw [<- HN.out]; exact hi
   obtain⟨J,rfl,K,p1,p2⟩:=HY.out _ _ H.tail i r;have a:=PM.mays_at Y 0 i HM.out r;have T:b.length=PM.size (Y.take i):=by rw [<- I,PM.expand_length]; exact Nat.zero_add _
   rw [Nat.zero_add,<- T] at a;have d:PM.expand (Y.take (i+1)) []=PM.step Y[i] b:=by
    rw [List.take_succ_eq_append_getElem r,PM.expand_append,I]; rfl
   have f:b.length+PM.made Y[i]<=z0:=by
    have h1:=PM.size_take Y (i+1);rw [List.take_succ_eq_append_getElem r,PM.size_append,HZ.out] at h1;have:PM.size [Y[i]]=PM.made Y[i]:=Nat.add_zero _;rw [this] at h1;omega
   obtain⟨x,hx⟩:=exq (Y[i].1);obtain⟨y,hy⟩:=exq (Y[i].2.1);obtain⟨z,F⟩:=exq (Y[i].2.2);have U:Y[i]=(x,y,z):=by rw [<- hx,<- hy,<- F]
   rw [hx] at K;rw [hy] at p1;rw [F] at p2;rw [U] at d a f;have g:=hid d;have HB:=hid I;clear d hx hy F U I T;replace f:b.length+max x 1<=z0:=f;have t0:∀o,(wr.alloc o).cell? (J.add (i * 3))=some (.int .i64 x):=fun o=>by rw [ZI o K]; exact K
   by_cases A:x=0
   ·have a3:y=0:=by
     rcases a with h | h
     ·exact h.2
     ·have:3<=x:=h.1;omega
    subst A a3;have q0:wr.cell? (J.add (i * 3))=some (.int .i64 0):=K;have q1:wr.cell? ⟨(J.add (i * 3)).block,(J.add (i * 3)).off+1,none⟩=some (.int .i64 0):=p1;have es:(wr.alloc (.cells #[.int .i64 0,.int .i64 0,.int .u8 z.toNat] 54)).heap.size=wr.heap.size+1:=Array.size_push _;have l:Rd ((wr.alloc (.cells #[.int .i64 0,.int .i64 0,.int .u8 z.toNat] 54)).alloc (.cells #[.int .u8 z.toNat] 5)) (some ⟨wr.heap.size+1,0,none⟩) [.int .u8 z.toNat]:=by
     have:=Rd.of_blk (Blk.new (wr.alloc (.cells #[.int .i64 0,.int .i64 0,.int .u8 z.toNat] 54)) 5 [.int .u8 z.toNat])
     rwa [es] at this
    have M:=((H.newBk [.int .i64 0,.int .i64 0,.int .u8 z.toNat] 54).alloc (.cells #[.int .u8 z.toNat] 5)).swap;have m:=hid l;have p:=hid M;have b0:b.length+1<=1000000:=by omega
    clear t0 K p1 l M es;go_wp2_with (at_builtin; refine wpList_append_sp rfl _ _ 24 rfl 5 i0 (.int .u8 0) 1 1 Tryz.underlying24 O P Q R rfl (by decide) (.slice V6 b.length c6) b.length (cells8 b) rfl p.out (some ⟨wr.heap.size+1,0,none⟩) 1 1 [.int .u8 z.toNat] rfl rfl m.out (by intro u hu; rw [List.mem_singleton.1 hu]; rfl) (by simp only [maxLen]; omega) (by omega) ?_)
    intro v5 w5 W _;clear m p;obtain⟨X,Z,rfl,_,_⟩:=Row.form W 0 rfl;generalize wr.heap.size=s at W ⊢;have t0:w5.cell? ⟨s,0,none⟩=some (.int .i64 0):=W.cell 1 rfl 0;rw [show cells8 b++[.int .u8 z.toNat]=cells8 (b++[z]) from(ZC b [z]).symm] at W;go_wp2_with fail
    go_loopw [6,38] (fun bv kv wr=>bv=.slice X (b.length+1) Z/\kv=.int .i64 0/\Sp w0 (Row 5 1 (.slice X (b.length+1) Z) (b.length+1) (cells8 (b++[z]))::L) wr) (fun _ _ _=>0)
    case atStart=>exact⟨rfl,rfl,W.pick 2 [0]⟩
    case round =>
     obtain⟨rfl,rfl,H6⟩:=hrel;go_wp2_with fail
     go_roundw
     case rel =>
      refine⟨i+1,X,Z,b++[z],by go_num,by rw [List.length_append]; rfl,by omega,g.out,?_⟩;rw [List.length_append];exact H6
     case measure=>first | (simp [intOf]; omega) | simp [intOf]
   ·have hf:3<=x/\x<=258/\1<=y/\y<=32768/\y<=b.length/\z=0:=by
     rcases a with h | h
     ·exact absurd h.1 A
     ·exact h
    obtain⟨f1,f2,f3,f4,f5,rfl⟩:=hf;have k3:((x:Int) == 0)=false:=by
     rw [beq_eq_false_iff_ne]; omega
    have q2:wr.cell? ⟨(J.add (i * 3)).block,(J.add (i * 3)).off+2,none⟩=some (.int .u8 0):=p2;have M:=(H.newBk [.int .i64 x,.int .i64 y,.int .u8 0] 54).swap;clear t0 p2 a;go_wp2_with fail
    generalize wr.heap.size=s at M ⊢;generalize wr.alloc _=w5 at M ⊢;clear K p1 q2;have q:PM.step (x,y,0) b=PM.grow y x b:=if_neg A;rw [q] at g;clear q A;go_loopw [6,38] (fun bv kv wr=>∃(k:Nat) (V7:Option Addr) (c7:Nat) (b7:List UInt8),kv=.int .i64 k/\bv=.slice V7 b7.length c7/\k<=x/\PM.grow y k b=b7/\Sp w0 (Row 5 1 (.slice V7 b7.length c7) b7.length (cells8 b7)::Bk s 54 [.int .i64 x,.int .i64 y,.int .u8 0]::L) wr) (fun _ kv _=>x - (intOf kv).toNat)
    case atStart=>exact⟨0,V6,c6,b,rfl,rfl,Nat.zero_le _,rfl,M⟩
    case round =>
     obtain⟨k,V7,c7,b7,rfl,rfl,hk,N,H7⟩:=hrel;by_cases b1:k<x
     ·have k4:(k:Int)<(x:Int):=by omega
      have a0:b7.length=b.length+k:=by rw [<- N,PM.grow_length]
      obtain⟨j,hj⟩:=exq (b7.length - y);have e1:(b7.length:Int) - (y:Int)=(j:Int):=by omega
      have k5:(j:Int)<(b7.length:Int):=by omega
      have k6:b7.length<=900000∨True:=.inr trivial;have a4:b7.length+1<=1000000:=by omega
      obtain⟨V8,c8,ev,hr,_,_⟩:=H7.row_rd 0 rfl;injection ev with ev _ e3
      subst ev;subst e3;obtain⟨a7,rfl,a5⟩:=hr.at8 (k:=j) (by omega);obtain⟨gb,G⟩:∃gb:UInt8,b7[j]'(by omega)=gb:=⟨_,rfl⟩;rw [G] at a5;have a1:PM.grow y (k+1) b=b7++[gb]:=by
       rw [PM.grow_succ,N,hj,List.getD_eq_getElem?_getD,List.getElem?_eq_getElem (by omega),G]; rfl
      have a6:=hid a1;have HG:=hid N;have t0:wr.cell? ⟨s,0,none⟩=some (.int .i64 x):=H7.cell 1 rfl 0;have t1:wr.cell? ⟨s,1,none⟩=some (.int .i64 y):=H7.cell 1 rfl 1;have l:=Rd.of_blk (Blk.new wr 5 [.int .u8 gb.toNat]);have g9:=(H7.newBk [.int .u8 gb.toNat] 5).swap;have m:=hid l;have p:=hid g9;clear hr G hj a0 N a1 l g9 k6;go_wp2_with (at_builtin; refine wpList_append_sp rfl _ _ 24 rfl 5 i0 (.int .u8 0) 1 1 Tryz.underlying24 O P Q R rfl (by decide) (.slice (some a7) b7.length c7) b7.length (cells8 b7) rfl p.out (some ⟨wr.heap.size,0,none⟩) 1 1 [.int .u8 gb.toNat] rfl rfl m.out (by intro u hu; rw [List.mem_singleton.1 hu]; rfl) (by simp only [maxLen]; omega) (by omega) ?_)
      intro v5 w6 H6 _;clear m p;obtain⟨X,Z,rfl,_,_⟩:=Row.form H6 0 rfl;rw [show cells8 b7++[.int .u8 gb.toNat]=cells8 (b7++[gb]) from(ZC b7 [gb]).symm] at H6;go_wp2_with fail
      go_roundw
      case rel =>
       refine⟨k+1,X,Z,b7++[gb],by go_num,by rw [List.length_append]; rfl,by omega,a6.out,?_⟩;rw [List.length_append];exact H6.pick 3 [0,2]
      case measure=>first | (simp [intOf]; omega) | simp [intOf]
     ·have k4:¬ (k:Int)<(x:Int):=by omega
      obtain rfl:k=x:=by omega
      have a2:=g.out.trans N;have a8:=hid a2;clear a2 N;go_wp2_with fail
      go_roundw
      case rel=>exact⟨i+1,V7,c7,b7,by go_num,rfl,by omega,a8.out,H7.pick 2 [0]⟩
      case measure=>first | (simp [intOf]; omega) | simp [intOf]
  ·have k2:¬ (i:Int)<(n:Int):=by omega
   go_wp2_with fail
   go_ret2;rw [List.take_of_length_le (by rw [<- HN.out]; omega)] at I;refine⟨_,rfl,?_⟩;rw [I];exact H
open Go.RowKit
theorem Yi (w:World) (o:Obj):(w.alloc o).heap.size=w.heap.size+1:=by simp
def wdC (t:PD.Wd):List Value:=[.int .i64 t.1,.int .i64 t.2.1,.int .i64 t.2.2.1,.int .i64 t.2.2.2]
def Zc (l:List PD.Wd):List Value:=l.flatMap wdC
theorem Zq (a b:List PD.Wd):Zc (a++b)=Zc a++Zc b:=by simp [Zc]
theorem WE (l:List PD.Wd):(Zc l).length=l.length * 4:=by
 induction l with
 | nil=>rfl
 | cons t l ih=>show(wdC t++Zc l).length=_; rw [List.length_append,ih,List.length_cons]; show 4+_=_; omega
theorem ZO (t:PD.Wd):∀u ∈ wdC t,u.oneCell'=true:=by
 intro u a;simp only [wdC,List.mem_cons,List.not_mem_nil,or_false] at a;rcases a with rfl | rfl | rfl | rfl <;> rfl
theorem infoT:(Tryz.prog.info? 139).map (fun i=>(i.zero,i.size,i.bytes))=some (some (.agg #[.int .i64 0,.int .i64 0,.int .i64 0,.int .i64 0]),4,32):=by kernel_rfl
namespace PD
theorem wds_take {Y:List PM.St} {i:Nat} (h:i<Y.length):wds (Y.take (i+1))=wds (Y.take i)++wd Y[i]:=by
 unfold wds;rw [List.take_succ_eq_append_getElem h,List.flatMap_append];simp
theorem wds_len (Y:List PM.St):(wds Y).length<=2 * Y.length:=by
 have:=words_len Y;unfold words at this;simp at this; omega
def StOk (s:PM.St):Prop:=s.1=0∨(3<=s.1/\s.1<=258/\1<=s.2.1/\s.2.1<=32768)
theorem mays_ok:∀(Y:List PM.St) (n:Nat),PM.mays Y n->∀s ∈ Y,StOk s:=by
 intro Y;induction Y with
 | nil=>intro n _ s a; cases a
 | cons t l ih =>
  intro n h s a;rcases List.mem_cons.1 a with rfl | a
  ·rcases h.1 with h1 | h1
   ·exact .inl h1.1
   ·exact .inr ⟨h1.1,h1.2.1,h1.2.2.1,h1.2.2.2.1⟩
  ·exact ih _ h.2 s a
end PD
theorem Vp (V:Option Addr) (n c:Nat) (Y:List PM.St) {TL TF:Option Addr} {cl cf:Nat} (H:Sp w0 L w) (hT:Ent L (DTabs TL TF cl cf)) (hn:n=Y.length) (hnm:n<=1000000) (h:Ent L fun w=>StAt w V Y) (hY:∀s ∈ Y,PD.StOk s) :
  Calls Tryz.prog 54 #[.slice V n c] w fun e w'=>∃v,e=.returned v/\Sp w0 (Row 139 4 v (PD.words Y).length (Zc (PD.words Y))::L) w':=by
 obtain⟨Z,hj,g,j,k⟩:=info_parts infoT;have HN:=hid hn;have HX:=hid h;have HT:=hid hT;have HY:=hid hY;clear hn h hT hY;go_enter Tryz.func54,Tryz.ntmps54
 go_wp2_with fail
 go_loopw [3,14] (fun rv iv wr=>∃i:Nat,iv=.int .i64 i/\i<=n/\Sp w0 (Row 139 4 rv (PD.wds (Y.take i)).length (Zc (PD.wds (Y.take i)))::L) wr) (fun _ iv _=>n - (intOf iv).toNat)
 case atStart=>exact⟨0,rfl,Nat.zero_le _,H.rowNil _ _⟩
 case round =>
  obtain⟨i,rfl,hi,l⟩:=hrel;clear H;obtain⟨R,F⟩:=exq (PD.wds (Y.take i));have a4:R.length<=2 * i:=by
   rw [<- F];have:=PD.wds_len (Y.take i);rw [List.length_take] at this; omega
  rw [F] at l;obtain⟨VR,a5,rfl,_,_⟩:=Row.form l 0 rfl;by_cases a0:i<n
  ·have k1:(i:Int)<(n:Int):=by omega
   have o:i<Y.length:=by rw [<- HN.out]; exact a0
   obtain⟨ad,rfl,G,p1,N⟩:=HX.out _ _ l.tail i o;have hw:=PD.wds_take o;rw [F] at hw;have O:=HY.out _ (List.getElem_mem o);obtain⟨⟨x,y,z⟩,hs⟩:∃s,Y[i]=s:=⟨_,rfl⟩;rw [hs] at G p1 N hw O;simp only at G p1 N;have m:=hid hw;have P:=l.newBk [.int .i64 x,.int .i64 y,.int .u8 z.toNat] 54;have a:=hid P;clear hw F hs;by_cases hx:x=0
   ·subst hx;have m:Hid (PD.wds (Y.take (i+1))=R++[(0,z.toNat,0,0)]):=m;obtain⟨I,p⟩:=exq z.toNat;have a6:I<256:=by rw [<- p]; exact z.toNat_lt
    rw [p] at m N P a;replace G:wr.cell? (ad.add (i * 3))=some (.int .i64 0):=G;have f:=P.newBk (wdC (0,I,0,0)) 139;have q:=Rd.of_blk (f.blk 0 rfl);rw [Yi] at q;have b:=hid q;have d:=hid (f.pick 3 [2]);have r:=a.out.cell 0 rfl 0;have t2:=a.out.cell 0 rfl 2;simp only [List.getElem?_cons_zero,List.getElem?_cons_succ] at r t2;replace r:World.cell? _ ⟨wr.heap.size,0,none⟩=some (.int .i64 0):=r;clear l P f p q;go_wp2_with (at_builtin; refine wpList_append_sp rfl _ _ 95 rfl 139 Z (.agg #[.int .i64 0,.int .i64 0,.int .i64 0,.int .i64 0]) 4 32 Tryz.underlying95 hj g j k rfl (by decide) _ R.length (Zc R) rfl d.out (some ⟨_,0,none⟩) 1 1 (wdC (0,I,0,0)) rfl rfl b.out (ZO _) (by unfold maxLen; omega) (by omega) ?_)
    intro v4 w4 u _;clear d b a G p1 N r t2;go_wp2_with fail
    go_roundw
    case rel =>
     refine⟨i+1,by go_num,by omega,?_⟩;rw [m.out,List.length_append,Zq];show Sp w0 (Row 139 4 v4 (R.length+1) (Zc R++Zc [(0,I,0,0)])::L) w4;rw [show Zc [((0,I,0,0):PD.Wd)]=wdC (0,I,0,0) from List.append_nil _];exact u
    case measure=>first | (simp [intOf]; omega) | simp [intOf]
   ·have a3:3<=x/\x<=258/\1<=y/\y<=32768:=by
     rcases O with h | h
     ·exact absurd h hx
     ·exact h
    have A:PD.wd (x,y,z)=[(0,PD.longI (x:Int)),(1,PD.farI (y:Int))]:=by
     unfold PD.wd PD.longI PD.farI;rw [if_neg hx,if_pos (by omega),if_pos (by omega)]; rfl
    obtain⟨⟨B,C,D⟩,e1⟩:∃t,PD.longI (x:Int)=t:=⟨_,rfl⟩;obtain⟨⟨J,K,M⟩,e2⟩:∃t,PD.farI (y:Int)=t:=⟨_,rfl⟩;rw [e1,e2] at A;have a1:Hid (PD.wds (Y.take (i+1))=R++[(0,B,C,D),(1,J,K,M)]):=by rw [m.out,A]; exact hid rfl
    have a2:=hid e2;have hL:=Y8 (x:Int) a.out (fun w0 w h=>HT.out w0 w (h.pick 2 []));rw [e1] at hL;have E:=hid hL;have k2:¬ (x:Int)=0:=by omega
    have r:=a.out.cell 0 rfl 0;simp only [List.getElem?_cons_zero] at r;generalize hst:Bk wr.heap.size _ _=ST at E;have Q:=hid hst;clear A e1 e2 hL m l P a hst;go_wp2_with fail
    refine E.out.mono ?_;rintro _ w3 ⟨rfl,f⟩;have u:=f.newBk (wdC (0,B,C,D)) 139;have S:=hid (Rd.of_blk (u.blk 0 rfl));have T:=hid (u.pick 3 [2,1]);clear f u E r;go_wp2_with (at_builtin; refine wpList_append_sp rfl _ _ 95 rfl 139 Z (.agg #[.int .i64 0,.int .i64 0,.int .i64 0,.int .i64 0]) 4 32 Tryz.underlying95 hj g j k rfl (by decide) _ R.length (Zc R) rfl T.out (some ⟨_,0,none⟩) 1 1 (wdC (0,B,C,D)) rfl rfl S.out (ZO _) (by unfold maxLen; omega) (by omega) ?_)
    intro v4 w4 H5 _;rw [<- Q.out] at H5;have t1:=H5.cell 1 rfl 1;simp only [List.getElem?_cons_succ,List.getElem?_cons_zero] at t1;have hF:=Vj (y:Int) H5 (fun w0 w h=>HT.out w0 w (h.pick 2 []));rw [a2.out,Q.out] at hF;have HF:=hid hF;clear hF T S H5 G p1 N;go_wp2_with fail
    refine HF.out.mono ?_;rintro _ w5 ⟨rfl,H6⟩;have H7:=H6.newBk (wdC (1,J,K,M)) 139;have U:=hid (Rd.of_blk (H7.blk 0 rfl));have W:=hid (H7.pick 3 [1]);clear H6 H7 HF t1;go_wp2_with (at_builtin; refine wpList_append_sp rfl _ _ 95 rfl 139 Z (.agg #[.int .i64 0,.int .i64 0,.int .i64 0,.int .i64 0]) 4 32 Tryz.underlying95 hj g j k rfl (by decide) _ (R.length+1) (Zc R++wdC (0,B,C,D)) rfl W.out (some ⟨_,0,none⟩) 1 1 (wdC (1,J,K,M)) rfl rfl U.out (ZO _) (by unfold maxLen; omega) (by omega) ?_)
    intro v8 w8 H8 _;clear W U;go_wp2_with fail
    go_roundw
    case rel =>
     refine⟨i+1,by go_num,by omega,?_⟩;rw [a1.out,List.length_append,Zq];show Sp w0 (Row 139 4 v8 (R.length+2) (Zc R++Zc [(0,B,C,D),(1,J,K,M)])::L) w8;rw [show Zc [((0,B,C,D):PD.Wd),(1,J,K,M)]=wdC (0,B,C,D)++wdC (1,J,K,M) by simp [Zc]];exact H8
    case measure=>first | (simp [intOf]; omega) | simp [intOf]
  ·have k1:¬ (i:Int)<(n:Int):=by omega
   have X:PD.words Y=R++[(0,256,0,0)]:=by
    unfold PD.words;rw [<- F,List.take_of_length_le (by rw [<- HN.out]; omega)]
   have m:=hid X;have f:=l.newBk (wdC (0,256,0,0)) 139;have b:=hid (Rd.of_blk (f.blk 0 rfl));have d:=hid (f.pick 2 [1]);clear l f F X;go_wp2_with (at_builtin; refine wpList_append_sp rfl _ _ 95 rfl 139 Z (.agg #[.int .i64 0,.int .i64 0,.int .i64 0,.int .i64 0]) 4 32 Tryz.underlying95 hj g j k rfl (by decide) _ R.length (Zc R) rfl d.out (some ⟨_,0,none⟩) 1 1 (wdC (0,256,0,0)) rfl rfl b.out (ZO _) (by unfold maxLen; omega) (by omega) ?_)
   intro v4 w4 u _;clear d b;go_wp2_with fail
   go_ret;refine⟨_,rfl,?_⟩;rw [m.out,List.length_append,Zq];show Sp w0 (Row 139 4 v4 (R.length+1) (Zc R++Zc [(0,256,0,0)])::L) w4;rw [show Zc [((0,256,0,0):PD.Wd)]=wdC (0,256,0,0) from List.append_nil _];exact u
theorem infoInt:(Tryz.prog.info? 3).map (fun i=>(i.zero,i.size,i.bytes))=some (some (.int .i64 0),1,8):=by kernel_rfl
theorem Zh (a b:List Nat):cellsN (a++b)=cellsN a++cellsN b:=by simp [cellsN]
theorem Zr {k:Nat} (hk:k<288):PI.fixedL.getD k 0=if 280<=k then 8 else if 256<=k then 7 else if 144<=k then 9 else 8:=by
 have:∀k,k<288->PI.fixedL.getD k 0=if 280<=k then 8 else if 256<=k then 7 else if 144<=k then 9 else 8:=by decide +kernel
 exact this k hk
theorem Zo:PI.fixedL.length=288:=by decide +kernel
theorem Zk {k v:Nat} (hk:k<288) (h:PI.fixedL.getD k 0=v):PI.fixedL.take (k+1)=PI.fixedL.take k++[v]:=by
 have a:k<PI.fixedL.length:=by rw [Zo]; exact hk
 rw [List.take_succ_eq_append_getElem a];rw [List.getD_eq_getElem?_getD,List.getElem?_eq_getElem a] at h;rw [show PI.fixedL[k]=v from h]
theorem YB (H:Sp w0 L w) :
  Calls Tryz.prog 61 #[] w fun e w'=>∃v0 v1,e=.returned (.agg #[v0,v1])/\Sp w0 (Row 3 1 v0 288 (cellsN PI.fixedL)::Row 3 1 v1 32 (cellsN PI.fixedD)::L) w':=by
 obtain⟨D,E,p,q,r⟩:=info_parts infoInt;have P:=H.newBk [.slice none 0 0,.slice none 0 0] 98;have a:=P.newBk [.slice none 0 0,.slice none 0 0] 98;rw [Yi] at a;have l:=hid (a.rowNil 3 1);clear H P a;go_enter Tryz.func61,Tryz.ntmps61
 go_wp2_with fail
 generalize w.heap.size+1=g at l ⊢;generalize w.heap.size=g0 at l ⊢;go_loopw [4] (fun kv wr=>∃(k:Nat) (v:Value),kv=.int .i64 k/\k<=288/\Sp w0 (Row 3 1 v k (cellsN (PI.fixedL.take k))::Bk g 98 [v,.slice none 0 0]::Bk g0 98 [.slice none 0 0,.slice none 0 0]::L) wr) (fun kv _=>288 - (intOf kv).toNat)
 case atStart=>exact⟨0,_,rfl,Nat.zero_le _,l.out⟩
 case round =>
  obtain⟨k,v,rfl,t,a⟩:=hrel;clear l;obtain⟨I,J,rfl,_,_⟩:=Row.form a 0 rfl;by_cases B:k<288
  ·have K:(k:Int)<288:=by omega
   have t:=B;by_cases o:280<=k
   ·have U:(k:Int)≥280:=by omega
    have C:Hid (PI.fixedL.take (k+1)=PI.fixedL.take k++[8]):=hid (Zk t (by rw [Zr t]; simp only [if_pos o]));have m:=a.newBk [.int .i64 8] 3;have b:=hid (Rd.of_blk (m.blk 0 rfl));have c:=hid (m.pick 4 [1,2,3]);have n:=a.cell 1 rfl 0;have x:=a.frozen 1 rfl 0;simp only [List.getElem?_cons_zero] at n;clear a m;go_wp2_with (at_builtin; refine wpList_append_sp rfl _ _ 97 rfl 3 D (.int .i64 0) 1 8 Tryz.underlying97 E p q r rfl (by decide) _ k (cellsN (PI.fixedL.take k)) rfl c.out (some ⟨_,0,none⟩) 1 1 [.int .i64 8] rfl rfl b.out (by intro u y; rw [List.mem_singleton.1 y]; rfl) (by unfold maxLen; omega) (by omega) ?_)
    intro M N d _;obtain⟨f,i,rfl,_,_⟩:=Row.form d 0 rfl;have z:=d.cell 1 rfl 0;have O:=d.frozen 1 rfl 0;simp only [List.getElem?_cons_zero] at z;have l:=hid (d.swap.set 0 (.slice f (k+1) i));clear c b n x d;go_wp2_with fail
    go_roundw
    case rel =>
     refine⟨k+1,.slice f (k+1) i,by go_num,by omega,?_⟩;have h:=l.out.swap;rw [C.out,Zh];exact h
    case measure=>first | (simp [intOf]; omega) | simp [intOf]
   ·have U:¬ (k:Int)≥280:=by omega
    by_cases s:256<=k
    ·have V:(k:Int)≥256:=by omega
     have C:Hid (PI.fixedL.take (k+1)=PI.fixedL.take k++[7]):=hid (Zk t (by rw [Zr t]; simp only [if_neg o,if_pos s]));have m:=a.newBk [.int .i64 7] 3;have b:=hid (Rd.of_blk (m.blk 0 rfl));have c:=hid (m.pick 4 [1,2,3]);have n:=a.cell 1 rfl 0;have x:=a.frozen 1 rfl 0;simp only [List.getElem?_cons_zero] at n;clear a m;go_wp2_with (at_builtin; refine wpList_append_sp rfl _ _ 97 rfl 3 D (.int .i64 0) 1 8 Tryz.underlying97 E p q r rfl (by decide) _ k (cellsN (PI.fixedL.take k)) rfl c.out (some ⟨_,0,none⟩) 1 1 [.int .i64 7] rfl rfl b.out (by intro u y; rw [List.mem_singleton.1 y]; rfl) (by unfold maxLen; omega) (by omega) ?_)
     intro M N d _;obtain⟨f,i,rfl,_,_⟩:=Row.form d 0 rfl;have z:=d.cell 1 rfl 0;have O:=d.frozen 1 rfl 0;simp only [List.getElem?_cons_zero] at z;have l:=hid (d.swap.set 0 (.slice f (k+1) i));clear c b n x d;go_wp2_with fail
     go_roundw
     case rel =>
      refine⟨k+1,.slice f (k+1) i,by go_num,by omega,?_⟩;have h:=l.out.swap;rw [C.out,Zh];exact h
     case measure=>first | (simp [intOf]; omega) | simp [intOf]
    ·have V:¬ (k:Int)≥256:=by omega
     by_cases A:144<=k
     ·have W:(k:Int)≥144:=by omega
      have C:Hid (PI.fixedL.take (k+1)=PI.fixedL.take k++[9]):=hid (Zk t (by rw [Zr t]; simp only [if_neg o,if_neg s,if_pos A]));have m:=a.newBk [.int .i64 9] 3;have b:=hid (Rd.of_blk (m.blk 0 rfl));have c:=hid (m.pick 4 [1,2,3]);have n:=a.cell 1 rfl 0;have x:=a.frozen 1 rfl 0;simp only [List.getElem?_cons_zero] at n;clear a m;go_wp2_with (at_builtin; refine wpList_append_sp rfl _ _ 97 rfl 3 D (.int .i64 0) 1 8 Tryz.underlying97 E p q r rfl (by decide) _ k (cellsN (PI.fixedL.take k)) rfl c.out (some ⟨_,0,none⟩) 1 1 [.int .i64 9] rfl rfl b.out (by intro u y; rw [List.mem_singleton.1 y]; rfl) (by unfold maxLen; omega) (by omega) ?_)
      intro M N d _;obtain⟨f,i,rfl,_,_⟩:=Row.form d 0 rfl;have z:=d.cell 1 rfl 0;have O:=d.frozen 1 rfl 0;simp only [List.getElem?_cons_zero] at z;have l:=hid (d.swap.set 0 (.slice f (k+1) i));clear c b n x d;go_wp2_with fail
      go_roundw
      case rel =>
       refine⟨k+1,.slice f (k+1) i,by go_num,by omega,?_⟩;have h:=l.out.swap;rw [C.out,Zh];exact h
      case measure=>first | (simp [intOf]; omega) | simp [intOf]
     ·have W:¬ (k:Int)≥144:=by omega
      have C:Hid (PI.fixedL.take (k+1)=PI.fixedL.take k++[8]):=hid (Zk t (by rw [Zr t]; simp only [if_neg o,if_neg s,if_neg A]));have m:=a.newBk [.int .i64 8] 3;have b:=hid (Rd.of_blk (m.blk 0 rfl));have c:=hid (m.pick 4 [1,2,3]);have n:=a.cell 1 rfl 0;have x:=a.frozen 1 rfl 0;simp only [List.getElem?_cons_zero] at n;clear a m;go_wp2_with (at_builtin; refine wpList_append_sp rfl _ _ 97 rfl 3 D (.int .i64 0) 1 8 Tryz.underlying97 E p q r rfl (by decide) _ k (cellsN (PI.fixedL.take k)) rfl c.out (some ⟨_,0,none⟩) 1 1 [.int .i64 8] rfl rfl b.out (by intro u y; rw [List.mem_singleton.1 y]; rfl) (by unfold maxLen; omega) (by omega) ?_)
      intro M N d _;obtain⟨f,i,rfl,_,_⟩:=Row.form d 0 rfl;have z:=d.cell 1 rfl 0;have O:=d.frozen 1 rfl 0;simp only [List.getElem?_cons_zero] at z;have l:=hid (d.swap.set 0 (.slice f (k+1) i));clear c b n x d;go_wp2_with fail
      go_roundw
      case rel =>
       refine⟨k+1,.slice f (k+1) i,by go_num,by omega,?_⟩;have h:=l.out.swap;rw [C.out,Zh];exact h
      case measure=>first | (simp [intOf]; omega) | simp [intOf]
  ·have K:¬ (k:Int)<288:=by omega
   obtain rfl:k=288:=by omega
   rw [List.take_of_length_le (by rw [Zo]; exact Nat.le_refl _)] at a;have l:=hid (a.rowNil 3 1);clear a;go_wp2_with fail
   clear t B K;go_loopw [23] (fun jv wr=>∃(j:Nat) (u:Value),jv=.int .i64 j/\j<=32/\Sp w0 (Row 3 1 u j (cellsN (List.replicate j 5))::Row 3 1 (.slice I 288 J) 288 (cellsN PI.fixedL)::Bk g 98 [.slice I 288 J,u]::Bk g0 98 [.slice none 0 0,.slice none 0 0]::L) wr) (fun jv _=>32 - (intOf jv).toNat)
   case atStart=>exact⟨0,_,rfl,Nat.zero_le _,l.out⟩
   case round =>
    obtain⟨j,u,rfl,hj,a⟩:=hrel;clear l;obtain⟨Q,R,rfl,_,_⟩:=Row.form a 0 rfl;by_cases B:j<32
    ·have K:(j:Int)<32:=by omega
     have m:=a.newBk [.int .i64 5] 3;have b:=hid (Rd.of_blk (m.blk 0 rfl));have c:=hid (m.pick 5 [1,2,3,4]);have n:=a.cell 2 rfl 1;have x:=a.frozen 2 rfl 1;simp only [List.getElem?_cons_zero,List.getElem?_cons_succ] at n;clear a m;go_wp2_with (at_builtin; refine wpList_append_sp rfl _ _ 97 rfl 3 D (.int .i64 0) 1 8 Tryz.underlying97 E p q r rfl (by decide) _ j (cellsN (List.replicate j 5)) rfl c.out (some ⟨_,0,none⟩) 1 1 [.int .i64 5] rfl rfl b.out (by intro u y; rw [List.mem_singleton.1 y]; rfl) (by unfold maxLen; omega) (by omega) ?_)
     intro M N d _;obtain⟨F,G,rfl,_,_⟩:=Row.form d 0 rfl;have z:=d.cell 2 rfl 1;have O:=d.frozen 2 rfl 1;simp only [List.getElem?_cons_zero,List.getElem?_cons_succ] at z;have l:=hid ((d.pick 3 [2,0,1]).set 1 (.slice F (j+1) G));clear c b n x d;go_wp2_with fail
     go_roundw
     case rel =>
      refine⟨j+1,.slice F (j+1) G,by go_num,by omega,?_⟩;have h:=l.out.pick 3 [1,2,0];rw [List.replicate_succ',Zh];exact h
     case measure=>first | (simp [intOf]; omega) | simp [intOf]
    ·have K:¬ (j:Int)<32:=by omega
     obtain rfl:j=32:=by omega
     have n:=a.cell 2 rfl 0;have X:=a.cell 2 rfl 1;have Y:=a.cell 3 rfl 0;have Z:=a.cell 3 rfl 1;have x:=a.frozen 3 rfl 0;have z1:=a.frozen 3 rfl 1;simp only [List.getElem?_cons_zero,List.getElem?_cons_succ] at n X Y Z;have l:=hid (((a.pick 4 [3,0,1,2]).set 0 (.slice I 288 J)).set 1 (.slice Q 32 R));clear a;go_wp2_with fail
     have S:=l.out.cell 0 rfl 0;have T:=l.out.cell 0 rfl 1;simp only [List.set_cons_zero,List.set_cons_succ,List.getElem?_cons_zero,List.getElem?_cons_succ] at S T;exact bodyPost_ret (v:=.agg #[.slice I 288 J,.slice Q 32 R]) (by simp [results,go_sem,S,T]) rfl ⟨_,_,rfl,l.out.pick 4 [2,1]⟩
namespace PI
theorem bitsOf_snoc (n k:Nat):PBits.bitsOf n (k+1)=PBits.bitsOf n k++[n / 2 ^ k % 2 == 1]:=by
 induction k generalizing n with
 | zero=>simp [PBits.bitsOf]
 | succ k ih =>
  rw [PBits.bitsOf,ih (n / 2)];show _=((n % 2 == 1)::PBits.bitsOf (n / 2) k)++_;rw [List.cons_append,Nat.div_div_eq_div_mul,show 2 * 2 ^ k=2 ^ (k+1) by rw [Nat.pow_succ,Nat.mul_comm]]
end PI
namespace PI
theorem getD_cons_drop {α:Type} {l:List α} {k:Nat} (z:α) (h:k<l.length):l.drop k=l.getD k z::l.drop (k+1):=by
 rw [List.drop_eq_getElem_cons h,List.getD_eq_getElem?_getD,List.getElem?_eq_getElem h]; rfl
end PI
namespace PI
theorem runL_eq (x:Nat):∀(l:List Nat) (m:Nat),m<=l.length->(∀j,j<m->l.getD j 0=x)->(m<l.length->l.getD m 0≠x)->runL x l=m:=by
 intro l;induction l with
 | nil=>intro m h _ _; simp at h; rw [h]; rfl
 | cons y l ih =>
  intro m c a b;cases m with
  | zero =>
   have:=b (by simp);unfold runL;rw [if_neg (by simpa using this)]
  | succ m =>
   have d:=a 0 (by omega);unfold runL;rw [if_pos (by simpa using d),ih m (by simpa using c) (fun j hj=>by simpa using a (j+1) (by omega)) (fun hj=>by simpa using b (by simpa using hj))]
theorem runL_at {l:List Nat} {i k:Nat} (hi:i<l.length) (hik:i<k) (hk:k<=l.length) (h:∀j,i<=j->j<k->l.getD j 0=l.getD i 0) (hs:k<l.length->l.getD k 0≠l.getD i 0):runL (l.getD i 0) (l.drop (i+1))+1=k - i:=by
 have e:runL (l.getD i 0) (l.drop i)=k - i:=by
  refine runL_eq _ _ _ (by rw [List.length_drop]; omega) (fun j hj=>?_) (fun hj=>?_)
  ·rw [List.getD_eq_getElem?_getD,List.getElem?_drop,<- List.getD_eq_getElem?_getD];exact h (i+j) (by omega) (by omega)
  ·rw [List.getD_eq_getElem?_getD,List.getElem?_drop,<- List.getD_eq_getElem?_getD,show i+(k - i)=k by omega];exact hs (by rw [List.length_drop] at hj; omega)
 rw [<- e,getD_cons_drop 0 hi,runL,if_pos rfl]
end PI
end Go.Proofs.YteajimobgkempaaGreatDoor

