/- A pack. -/
import Derived.Test.YteajimobgkempaaGreatDoorPk39
set_option linter.all false
set_option maxRecDepth 100000
set_option maxHeartbeats 8000000
namespace Go.Proofs.YteajimobgkempaaGreatDoor
variable {w0 w:World} {L:List Pr}
open Go.RowKit
namespace PD
theorem size_258 (Y:List PM.St) (h:∀s ∈ Y,StOk s):PM.size Y<=258 * Y.length:=by
 induction Y with
 | nil=>exact Nat.le_refl _
 | cons s l ih =>
  have a:PM.made s<=258:=by
   rcases h s List.mem_cons_self with h | h <;> (unfold PM.made; omega)
  have b:=ih fun t ht=>h t (List.mem_cons_of_mem _ ht);show PM.made s+PM.size l<=_;rw [List.length_cons]; omega
def toN (s:StI):PM.St:=(s.1.toNat,s.2.1.toNat,s.2.2)
theorem toN_of (X:List StI) (n:Nat) (h:mayI X n=true):X=(X.map toN).map toI/\PM.mays (X.map toN) n:=by
 induction X generalizing n with
 | nil=>exact⟨rfl,trivial⟩
 | cons s X ih =>
  have k : fitsI s (n:Int)=true/\mayI X ((n:Int)+madeI s)=true:=by
   have:(fitsI s (n:Int) && mayI X ((n:Int)+madeI s))=true:=h;simpa using this
  obtain⟨d,f⟩:=k;have p:=YV d;have e:(n:Int)+madeI s=((n+PM.made (toN s):Nat):Int):=by
   unfold madeI PM.made toN; simp only; omega
  rw [e] at f;obtain⟨g,i⟩:=ih _ f;obtain⟨a,b,c⟩:=s;unfold fitsI at d;simp only at d;by_cases j:a=0
  ·subst j;rw [if_pos rfl] at d;have l:b=0:=of_decide_eq_true d;subst l;refine⟨?_,.inl ⟨rfl,rfl⟩,i⟩;rw [List.map_cons,List.map_cons,<- g]; rfl
  ·rw [if_neg j] at d;obtain⟨q,r,t,u,v,m⟩:=of_decide_eq_true d;refine⟨?_,.inr ⟨by show 3<=a.toNat; omega,by show a.toNat<=258; omega,by show 1<=b.toNat; omega,by show b.toNat<=32768; omega,by show b.toNat<=n; omega,?_⟩,i⟩
   ·rw [List.map_cons,List.map_cons,<- g];have o:toI (toN (a,b,c))=(a,b,c):=by
     unfold toI toN; simp only;rw [show((a.toNat:Nat):Int)=a by omega,show((b.toNat:Nat):Int)=b by omega]
    rw [o]
   ·show c=0;exact UInt8.toNat_inj.1 (by rw [m]; rfl)
end PD
theorem U8 (Y:List PM.St) (b:List UInt8) (last:Bool):(BP.of Y b last).fixN=PD.fixN Y:=by
 show 3+PD.costW PI.fixedL PI.fixedD (PD.words Y)=3+(PD.fixW Y).length;rw [<- PD.layW_len,PD.lay_words]; rfl
theorem U9 (Y:List PM.St) (b:List UInt8) (last:Bool):(BP.of Y b last).dynN=PD.dynN Y:=by
 have a:=(PD.told_ok (PD.fst7 Y)).2;unfold BP.dynN BP.of PD.dynN PD.dynW PI.headW;simp only;rw [<- PD.layW_len,<- PD.layW_len,PD.lay_words,PD.lay_row];have c:PI.orderT.length=19:=rfl;generalize PD.told (PD.fst7 Y)=m at a ⊢;generalize PD.fst7 Y=F;generalize PD.rowY Y=R;generalize PD.lenA Y=A;generalize PD.lenB Y=D;simp only [List.length_append,PBits.bitsOf_length,PD.firstsW_len,List.length_take,c];omega
theorem Sp.dropL {L2 L:List Pr} (H:Sp w0 (L2++L) w):Sp w0 L w:=by
 have h:=H.pick L2.length [] ⟨by simp,by intro i a; simp at a⟩;rw [List.drop_left] at h;exact h
theorem Wo (V:Option Addr) (n c:Nat) (Y:List PM.St) (H:Sp w0 L w) (hn:n=Y.length) (hnm:n<=3000) (h:Ent L fun w=>StAt w V Y) (hY:PM.mays Y 0) :
  Calls Tryz.prog 23 #[.slice V n c] w fun e w'=>∃v,e=.returned (.tuple #[v,.int .i64 0])/\Sp w0 (Row 5 1 v (PM.expand Y []).length (cells8 (PM.expand Y []))::L) w':=by
 have a:=PD.size_258 Y (PD.mays_ok Y 0 hY);have b:=hid (Vo V n c Y 16777216 H hn (by omega) h hY (by omega) (by omega));clear H hn h hY a;go_enter Tryz.func23,Tryz.ntmps23
 go_wp2_with fail
 refine b.out.mono ?_;rintro _ g ⟨d,rfl,f⟩;clear b;go_wp2;go_ret2;exact⟨d,rfl,f⟩
theorem XL (V:Option Addr) (n c:Nat) (X:List StI) (H:Sp w0 L w) (hn:n=X.length) (hnm:n<=1000000) (h:Ent L fun w=>Yo w V X) (hbad:mayI X 0=false) :
  Calls Tryz.prog 23 #[.slice V n c] w fun e w'=>e=.returned (.tuple #[.slice none 0 0,.int .i64 1])/\Sp w0 L w':=by
 have a:=hid (WD V n c X 16777216 H hn hnm h (.inr hbad));clear H hn h hbad;go_enter Tryz.func23,Tryz.ntmps23
 go_wp2_with fail
 refine a.out.mono ?_;rintro _ d ⟨rfl,b⟩;clear a;go_wp2;go_ret2;exact⟨rfl,b⟩
theorem Vx (V:Option Addr) (n c:Nat) (Y:List PM.St) {TL TF:Option Addr} {cl cf:Nat} (H:Sp w0 L w) (hT:Ent L (DTabs TL TF cl cf)) (hn:n=Y.length) (hnm:n<=3000) (hc:n<=c) (hcm:c<=maxLen) (h:Ent L fun w=>StAt w V Y) (hY:PM.mays Y 0) :
  Calls Tryz.prog 6 #[.slice V n c] w fun e w'=>∃v,e=.returned (.tuple #[v,.int .i64 0])/\Sp w0 (Row 5 1 v (PD.stream Y (PM.expand Y [])).length (cells8 (PD.stream Y (PM.expand Y [])))::L) w':=by
 have f:=PD.size_258 Y (PD.mays_ok Y 0 hY);have a:(PM.expand Y []).length=PM.size Y:=by rw [PM.expand_length,List.length_nil,Nat.zero_add]
 have d:=hid (Wo V n c Y H hn hnm h hY);obtain⟨b,g⟩:=exq (PM.expand Y []);rw [g] at d a ⊢;obtain⟨k,i⟩:=exq b.length;rw [i] at d a;have r:k<=1000000:=by omega
 have s:=hid hT;have t:=hid hn;have u:=hid h;have x:=hid hY;have y:=hid g;have o:=hid i;clear H hT hn h hY f a g i;go_enter Tryz.func6,Tryz.ntmps6
 go_wp2_with fail
 refine d.out.mono ?_;rintro _ D ⟨E,rfl,j⟩;obtain⟨B,z,rfl,l,m⟩:=Row.form j 0 rfl;have p:=hid (YZ V B n c k z Y b j (fun w0 w h=>s.out w0 w h.tail) t.out (by omega) hc hcm (fun w0 w h=>u.out w0 w h.tail) x.out y.out o.out.symm (by omega) l m (fun w0 w h=>ZX h 0 rfl o.out.symm));clear d j;go_wp2_with fail
 refine p.out.mono ?_;rintro _ F ⟨A,rfl,q⟩;have C:=q.pick 2 [0];clear p q;go_wp2;go_ret2;exact⟨A,rfl,C⟩
theorem WO (V:Option Addr) (n c:Nat) (X:List StI) (H:Sp w0 L w) (hn:n=X.length) (hnm:n<=1000000) (h:Ent L fun w=>Yo w V X) (hbad:mayI X 0=false) :
  Calls Tryz.prog 6 #[.slice V n c] w fun e w'=>e=.returned (.tuple #[.slice none 0 0,.int .i64 1])/\Sp w0 L w':=by
 have a:=hid (XL V n c X H hn hnm h hbad);clear H hn h hbad;go_enter Tryz.func6,Tryz.ntmps6
 go_wp2_with fail
 refine a.out.mono ?_;rintro _ d ⟨rfl,b⟩;clear a;go_wp2;go_ret2;exact⟨rfl,b⟩
theorem XY (V:Option Addr) (n c:Nat) (X:List StI) (H:Sp w0 L w) (hn:n=X.length) (hnm:n<=1000000) (h:Ent L fun w=>Yo w V X) (hbad:mayI X 0=false) :
  Calls Tryz.prog 9 #[.slice V n c] w fun e w'=>e=.returned (.tuple #[.int .i64 0,.int .i64 0,.int .i64 0,.int .i64 1])/\Sp w0 L w':=by
 have a:=hid (XL V n c X H hn hnm h hbad);clear H hn h hbad;go_enter Tryz.func9,Tryz.ntmps9
 go_wp2_with fail
 refine a.out.mono ?_;rintro _ d ⟨rfl,b⟩;clear a;go_wp2;exact bodyPost_ret (v:=.tuple #[.int .i64 0,.int .i64 0,.int .i64 0,.int .i64 1]) (by simp [results,go_sem]) rfl ⟨rfl,b⟩
theorem WP (V:Option Addr) (n c:Nat) (Y:List PM.St) {TL TF:Option Addr} {cl cf:Nat} (H:Sp w0 L w) (hT:Ent L (DTabs TL TF cl cf)) (hn:n=Y.length) (hnm:n<=3000) (h:Ent L fun w=>StAt w V Y) (hY:PM.mays Y 0) :
  Calls Tryz.prog 9 #[.slice V n c] w fun e w'=>e=.returned (.tuple #[.int .i64 (max (PD.sto (PM.size Y) 0) 0),.int .i64 (PD.fixN Y:Int),.int .i64 (PD.dynN Y:Int),.int .i64 0])/\Sp w0 L w':=by
 have i:=PD.size_258 Y (PD.mays_ok Y 0 hY);have j:(PM.expand Y []).length=PM.size Y:=by rw [PM.expand_length,List.length_nil,Nat.zero_add]
 have C:=hid (Wo V n c Y H hn hnm h hY);obtain⟨b,N⟩:=exq (PM.expand Y []);rw [N] at C j;obtain⟨k,F⟩:=exq b.length;rw [F] at C j;have T:k<=1000000:=by omega
 rw [<- j];have O:=hid hT;have U:=hid hn;have W:=hid h;have HY:=hid hY;have D:=hid F;have r:=Ur Y b true 0 hY (by omega) (by omega);have o:=U8 Y b true;have q:=U9 Y b true;have a:=hid r;have G:=hid o;have l:=hid q;have X:=hid (PD.mays_ok Y 0 hY);obtain⟨p,E⟩:=exq (BP.of Y b true);have t:p.b=b:=by rw [<- E]; rfl
 rw [E] at a G l;have I:=hid E;have u:=hid t;clear H hT hn h hY i j N F r o q E t;obtain⟨s,J⟩:=exq (PD.sto k 0);obtain⟨f,o⟩:=exq (PD.fixN Y);obtain⟨d,q⟩:=exq (PD.dynN Y);rw [J,o,q];rw [o] at G;rw [q] at l;have K:=hid J;clear J o q;go_enter Tryz.func9,Tryz.ntmps9
 go_wp2_with fail
 refine C.out.mono ?_;rintro _ w1 ⟨v1,rfl,M⟩;obtain⟨B,Z,rfl,a0,a1⟩:=Row.form M 0 rfl;have m:=hid (XI V B n c k Z Y b true M (fun w0 w h=>O.out w0 w h.tail) U.out (by omega) (fun w0 w h=>W.out w0 w h.tail) X.out D.out.symm);rw [I.out] at m;clear C M;go_wp2_with fail
 refine m.out.mono ?_;rintro _ w2 ⟨g,rfl,P⟩;clear m;obtain⟨dv,L2,Q,x,y⟩:=Blo.open P (fun w0 w h=>by rw [u.out,D.out]; exact ZX h 0 rfl D.out.symm);have i:=XH g 0 dv p Q x (y _ fun w0 w h=>O.out w0 w h.tail) a.out.hbl a.out.hA a.out.hD a.out.hF a.out.hF7 a.out.hokR a.out.hokW a.out.hokX a.out.hRl a.out.hWl (by omega);rw [u.out,D.out,K.out,show(3+PD.costW PI.fixedL PI.fixedD p.W:Nat)=f from G.out,show(17+3 * PD.told p.F+PD.costW p.F [] p.R+PD.costW p.A p.D p.W:Nat)=d from l.out] at i;have z:=hid i;clear i x y Q P;go_wp2_with fail
 refine z.out.mono ?_;rintro _ w3 ⟨rfl,R⟩;clear z;have S:=(R.dropL).tail;have A:=S.newBk [.int .i64 s,.int .i64 f,.int .i64 d] 34;have t0:=A.cell 0 rfl 0;have t1:=A.cell 0 rfl 1;have t2:=A.cell 0 rfl 2;simp only [List.getElem?_cons_zero,List.getElem?_cons_succ] at t0 t1 t2;have HX:=hid A;clear R S A;go_wp2_with fail
 go_quiet (fail)
 go_wp2;exact bodyPost_ret (v:=.tuple #[.int .i64 (max s 0),.int .i64 f,.int .i64 d,.int .i64 0]) (by simp [results,go_sem]) rfl ⟨rfl,(HX.out.drewN _).tail⟩
theorem Vy (X:List StI) (i:Nat) (h:i<X.length):PM.expand ((X.map PD.toN).take (i+1)) []=PM.step (PD.toN X[i]) (PM.expand ((X.map PD.toN).take i) []):=by
 rw [List.take_succ_eq_append_getElem (by rw [List.length_map]; exact h),PM.expand_append,List.getElem_map];rfl
theorem Y0 (V:Option Addr) (n c:Nat) (X:List StI) (H:Sp w0 L w) (hn:n=X.length) (hnm:n<=1000) (h:Ent L fun w=>Yo w V X) :
  Calls Tryz.prog 84 #[.slice V n c] w fun e w'=>(mayI X 0=true/\∃v,e=.returned (.tuple #[v,.bool true])/\Sp w0 (Row 5 1 v (PM.expand (X.map PD.toN) []).length (cells8 (PM.expand (X.map PD.toN) []))::L) w')∨(mayI X 0=false/\e=.returned (.tuple #[.slice none 0 0,.bool false])/\Sp w0 L w'):=by
 obtain⟨i0,a0,a1,a2,a3⟩:=info_parts info8;have HN:=hid hn;have HY:=hid h;obtain⟨F,hF⟩:=exq (mayI X 0);rw [hF];obtain⟨R,hR⟩:=exq (PM.expand (X.map PD.toN) []);rw [hR];have HF:=hid hF;have HR:=hid hR;have g:=hid (H.rowNil 5 1);clear hn h hF hR H;go_enter Tryz.func84,Tryz.ntmps84
 go_wp2_with fail
 go_loopw [4,5] (fun bv iv wr=>∃(i:Nat) (V6:Option Addr) (bn c6:Nat) (b:List UInt8),iv=.int .i64 i/\bv=.slice V6 bn c6/\i<=n/\bn<=258 * i/\Hid (bn=b.length/\PM.expand ((X.map PD.toN).take i) []=b/\F=mayI (X.drop i) (bn:Int))/\Sp w0 (Row 5 1 (.slice V6 bn c6) bn (cells8 b)::L) wr) (fun _ iv _=>n - (intOf iv).toNat)
 case atStart=>exact⟨0,none,0,0,[],rfl,rfl,Nat.zero_le _,Nat.zero_le _,hid ⟨rfl,rfl,HF.out.symm⟩,g.out⟩
 case round =>
  clear g;obtain⟨i,V6,bn,c6,b,rfl,rfl,c1,c2,Y,H⟩:=hrel;by_cases hi:i<n
  ·have k2:(i:Int)<(n:Int):=by omega
   have P:i<X.length:=by rw [<- HN.out]; exact hi
   obtain⟨ad,rfl,p0,p1,p2⟩:=HY.out _ _ H.tail i P;have q:=Vy X i P;rw [Y.out.2.1] at q;have I:=Y.out.2.2;rw [XF P] at I;obtain⟨x,hx⟩:=exq (X[i].1);obtain⟨y,hy⟩:=exq (X[i].2.1);obtain⟨z,hz⟩:=exq (X[i].2.2);have a4:X[i]=(x,y,z):=by rw [<- hx,<- hy,<- hz]
   rw [hx] at p0;rw [hy] at p1;rw [hz] at p2;rw [a4] at q I;obtain⟨o,Q⟩:=exq z.toNat;rw [Q] at p2;have S:=hid Q;have r:=hid q;have A:=hid I;clear q hx hy hz a4 I Q;by_cases J:x=0/\y=0
   ·obtain⟨rfl,rfl⟩:=J;have q0:wr.cell? (ad.add (i * 3))=some (.int .i64 0):=p0;have q1:wr.cell? ⟨(ad.add (i * 3)).block,(ad.add (i * 3)).off+1,none⟩=some (.int .i64 0):=p1;have es:(wr.alloc (.cells #[.int .i64 0,.int .i64 0,.int .u8 o] 57)).heap.size=wr.heap.size+1:=Array.size_push _;have B:Rd ((wr.alloc (.cells #[.int .i64 0,.int .i64 0,.int .u8 o] 57)).alloc (.cells #[.int .u8 o] 5)) (some ⟨wr.heap.size+1,0,none⟩) [.int .u8 o]:=by
     have:=Rd.of_blk (Blk.new (wr.alloc (.cells #[.int .i64 0,.int .i64 0,.int .u8 o] 57)) 5 [.int .u8 o])
     rwa [es] at this
    have Z:=((H.newBk [.int .i64 0,.int .i64 0,.int .u8 o] 57).alloc (.cells #[.int .u8 o] 5)).swap;have C:=hid B;have d:=hid Z;clear p0 p1 B Z es H;go_wp2_with (at_builtin; refine wpList_append_sp rfl _ _ 24 rfl 5 i0 (.int .u8 0) 1 1 Tryz.underlying24 a0 a1 a2 a3 rfl (by decide) (.slice V6 bn c6) bn (cells8 b) rfl d.out (some ⟨wr.heap.size+1,0,none⟩) 1 1 [.int .u8 o] rfl rfl C.out (by intro u hu; rw [List.mem_singleton.1 hu]; rfl) (by simp only [maxLen]; omega) (by omega) ?_)
    intro v5 w5 H5 _;clear C d;obtain⟨V5,c5,rfl,_,_⟩:=Row.form H5 0 rfl;rw [show cells8 b++[.int .u8 o]=cells8 (b++[z]) by rw [<- S.out]; exact(ZC b [z]).symm] at H5;have a5:PM.expand ((X.map PD.toN).take (i+1)) []=b++[z]:=r.out;have D:F=mayI (X.drop (i+1)) ((bn+1:Nat):Int):=by
     rw [A.out];have e1:fitsI (0,0,z) (bn:Int)=true:=rfl;have e2:(bn:Int)+madeI (0,0,z)=((bn+1:Nat):Int):=by show(bn:Int)+max 0 1=_; omega
     rw [e1,e2,Bool.true_and]
    have g:=hid H5;have b3:Hid (bn+1=(b++[z]).length/\PM.expand ((X.map PD.toN).take (i+1)) []=b++[z]/\F=mayI (X.drop (i+1)) ((bn+1:Nat):Int)):=hid ⟨by rw [List.length_append,<- Y.out.1]; rfl,a5,D⟩;clear H5 a5 D;go_wp2_with fail
    go_roundw
    case rel=>exact⟨i+1,V5,bn+1,c5,b++[z],by go_num,rfl,by omega,by omega,b3,g.out.pick 2 [0]⟩
    case measure=>first | (simp [intOf]; omega) | simp [intOf]
   ·have q2:wr.cell? ⟨(ad.add (i * 3)).block,(ad.add (i * 3)).off+2,none⟩=some (.int .u8 o):=p2;have Z:=(H.newBk [.int .i64 x,.int .i64 y,.int .u8 o] 57).swap;have g1:x=0->((y == 0)=false/\¬ y=0):=fun e=>by
     have:¬ y=0:=fun e2=>J ⟨e,e2⟩;exact⟨by rw [beq_eq_false_iff_ne]; exact this,this⟩
    by_cases a:fitsI (x,y,z) (bn:Int)=true
    ·have hf:3<=x/\x<=258/\1<=y/\y<=32768/\y<=(bn:Int)/\z.toNat=0:=by
      unfold fitsI at a;simp only at a;by_cases l:x=0
      ·rw [if_pos l] at a;exact absurd (of_decide_eq_true a) (g1 l).2
      ·rw [if_neg l] at a;exact of_decide_eq_true a
     obtain⟨f1,f2,f3,f4,f5,f6⟩:=hf;have a6 : z=0:=UInt8.toNat_inj.1 (by rw [f6]; rfl);subst a6;obtain rfl:o=0:=by rw [<- S.out]; rfl
     obtain⟨xn,rfl⟩:∃m:Nat,x=(m:Int):=⟨x.toNat,by omega⟩;obtain⟨p,rfl⟩:∃m:Nat,y=(m:Int):=⟨y.toNat,by omega⟩;have k3:((xn:Int) == 0)=false:=by rw [beq_eq_false_iff_ne]; omega
     have K:¬ (xn:Int)<3:=by omega
     have r2:¬ (xn:Int) > 258:=by omega
     have r3:¬ (p:Int)<1:=by omega
     have r4:¬ (p:Int) > 32768:=by omega
     have r5:¬ (p:Int) > (bn:Int):=by omega
     have E:PM.expand ((X.map PD.toN).take (i+1)) []=PM.grow p xn b:=by
      rw [r.out];show PM.step (((xn:Int)).toNat,((p:Int)).toNat,0) b=_;rw [Int.toNat_natCast,Int.toNat_natCast];unfold PM.step;rw [if_neg (by show ¬ xn=0; omega)]
     have D:F=mayI (X.drop (i+1)) ((bn+xn:Nat):Int):=by
      rw [A.out];have e2:(bn:Int)+madeI ((xn:Int),(p:Int),0)=((bn+xn:Nat):Int):=by show(bn:Int)+max (xn:Int) 1=_; omega
      rw [a,e2,Bool.true_and]
     have b4:=hid E;have b5:=hid D;have d:=hid Z;have a8:xn<=258/\1<=p/\p<=bn:=by omega
     obtain⟨a8,c3,c4⟩:=a8;clear g1 a f1 f2 f3 f4 f5 f6 E D Z H p2 r A J;go_wp2_with fail
     replace d:=d.out;generalize wr.heap.size=s at d ⊢;generalize wr.alloc _=w5 at d ⊢;clear p0 p1 q2 k3 K r2 r3 r4 r5;have g:=hid d;clear d;go_loopw [4,7] (fun bv kv wr=>∃(k:Nat) (V7:Option Addr) (c7 bm:Nat) (b7:List UInt8),kv=.int .i64 k/\bv=.slice V7 bm c7/\k<=xn/\bn<=bm/\bm<=300000/\Hid (bm=b7.length/\PM.grow p k b=b7/\bm=bn+k)/\Sp w0 (Row 5 1 (.slice V7 bm c7) bm (cells8 b7)::Bk s 57 [.int .i64 xn,.int .i64 p,.int .u8 0]::L) wr) (fun _ kv _=>xn - (intOf kv).toNat)
     case atStart=>exact⟨0,V6,c6,bn,b,rfl,rfl,Nat.zero_le _,Nat.le_refl _,by omega,hid ⟨Y.out.1,rfl,rfl⟩,g.out⟩
     case round =>
      clear g;obtain⟨k,V7,c7,bm,b7,rfl,rfl,hk,c9,c0,t,M⟩:=hrel;by_cases d0:k<xn
      ·have k4:(k:Int)<(xn:Int):=by omega
       obtain⟨j,hj⟩:=exq (bm - p);have e1:(bm:Int) - (p:Int)=(j:Int):=by omega
       have k5:(j:Int)<(bm:Int):=by omega
       obtain⟨V8,c8,ev,hr,_,_⟩:=M.row_rd 0 rfl;injection ev with ev _ e3
       subst ev;subst e3;obtain⟨a7,rfl,b6⟩:=hr.at8 (k:=j) (by rw [<- t.out.1]; omega);obtain⟨gb,T⟩:∃gb:UInt8,b7[j]'(by rw [<- t.out.1]; omega)=gb:=⟨_,rfl⟩;rw [T] at b6;have a9:PM.grow p (k+1) b=b7++[gb]:=by
        rw [PM.grow_succ,t.out.2.1,<- t.out.1,hj,List.getD_eq_getElem?_getD,List.getElem?_eq_getElem (by rw [<- t.out.1]; omega),T]; rfl
       have b8:Hid (bm+1=(b7++[gb]).length/\PM.grow p (k+1) b=b7++[gb]/\bm+1=bn+(k+1)):=hid ⟨by rw [List.length_append,<- t.out.1]; rfl,a9,by have:=t.out.2.2; omega⟩;have b0:bm+1<=300000:=by have:=t.out.2.2; omega
       have t0:wr.cell? ⟨s,0,none⟩=some (.int .i64 xn):=M.cell 1 rfl 0;have t1:wr.cell? ⟨s,1,none⟩=some (.int .i64 p):=M.cell 1 rfl 1;have B:=Rd.of_blk (Blk.new wr 5 [.int .u8 gb.toNat]);have g9:=(M.newBk [.int .u8 gb.toNat] 5).swap;have C:=hid B;have d:=hid g9;clear hr T hj a9 B g9;go_wp2_with (at_builtin; refine wpList_append_sp rfl _ _ 24 rfl 5 i0 (.int .u8 0) 1 1 Tryz.underlying24 a0 a1 a2 a3 rfl (by decide) (.slice (some a7) bm c7) bm (cells8 b7) rfl d.out (some ⟨wr.heap.size,0,none⟩) 1 1 [.int .u8 gb.toNat] rfl rfl C.out (by intro u hu; rw [List.mem_singleton.1 hu]; rfl) (by simp only [maxLen]; omega) (by omega) ?_)
       intro v5 w6 H6 _;clear C d;obtain⟨V5,c5,rfl,_,_⟩:=Row.form H6 0 rfl;rw [show cells8 b7++[.int .u8 gb.toNat]=cells8 (b7++[gb]) from(ZC b7 [gb]).symm] at H6;have g:=hid (H6.pick 3 [0,2]);clear H6 M;go_wp2_with fail
       go_roundw
       case rel=>exact⟨k+1,V5,c5,bm+1,b7++[gb],by go_num,rfl,by omega,by omega,b0,b8,g.out⟩
       case measure=>first | (simp [intOf]; omega) | simp [intOf]
      ·have k4:¬ (k:Int)<(xn:Int):=by omega
       obtain rfl:k=xn:=by omega
       have t0:wr.cell? ⟨s,0,none⟩=some (.int .i64 k):=M.cell 1 rfl 0;have g:=hid (M.pick 2 [0]);clear M;go_wp2_with fail
       go_roundw
       case rel=>exact⟨i+1,V7,bm,c7,b7,by go_num,rfl,by omega,by have:=t.out.2.2; omega,hid ⟨t.out.1,b4.out.trans t.out.2.1,by rw [t.out.2.2]; exact b5.out⟩,g.out⟩
       case measure=>first | (simp [intOf]; omega) | simp [intOf]
    ·have G:fitsI (x,y,z) (bn:Int)=false:=by simpa using a
     have N:F=false:=by rw [A.out,G,Bool.false_and]
     have f:=hid N;have d1:¬ (3<=x/\x<=258/\1<=y/\y<=32768/\y<=(bn:Int)/\o=0):=fun hf=>by
      rw [<- S.out] at hf;apply a;unfold fitsI;simp only;rw [if_neg (by omega)];exact decide_eq_true hf
     have g:=hid (H.alloc (.cells #[.int .i64 x,.int .i64 y,.int .u8 o] 57));clear a G N Z H p2 r A;have g0:((x == 0)=true/\(y == 0)=false/\x=0/\¬ y=0)∨((x == 0)=false/\¬ x=0):=by
      by_cases l:x=0
      ·exact .inl ⟨by simp [l],(g1 l).1,l,(g1 l).2⟩
      ·exact .inr ⟨by rw [beq_eq_false_iff_ne]; exact l,l⟩
     clear g1 J;rcases g0 with ⟨g2,g3,g4,g5⟩ | ⟨g2,g3⟩
     ·have K:x<3:=by omega
      subst g4;go_wp2_with fail
      go_ret2;exact .inr ⟨f.out,rfl,g.out.tail⟩
     ·by_cases O:x<3
      ·have K:x<3:=O;go_wp2_with fail
       go_ret2;exact .inr ⟨f.out,rfl,g.out.tail⟩
      ·by_cases U:258<x
       ·have K:¬ x<3:=O;have r2:x > 258:=U;go_wp2_with fail
        go_ret2;exact .inr ⟨f.out,rfl,g.out.tail⟩
       ·by_cases W:y<1
        ·have K:¬ x<3:=O;have r2:¬ x > 258:=U;have r3:y<1:=W;go_wp2_with fail
         go_ret2;exact .inr ⟨f.out,rfl,g.out.tail⟩
        ·by_cases h4:32768<y
         ·have K:¬ x<3:=O;have r2:¬ x > 258:=U;have r3:¬ y<1:=W;have r4:y > 32768:=h4;go_wp2_with fail
          go_ret2;exact .inr ⟨f.out,rfl,g.out.tail⟩
         ·by_cases h5:(bn:Int)<y
          ·have K:¬ x<3:=O;have r2:¬ x > 258:=U;have r3:¬ y<1:=W;have r4:¬ y > 32768:=h4;have r5:y > (bn:Int):=h5;go_wp2_with fail
           go_ret2;exact .inr ⟨f.out,rfl,g.out.tail⟩
          ·have K:¬ x<3:=O;have r2:¬ x > 258:=U;have r3:¬ y<1:=W;have r4:¬ y > 32768:=h4;have r5:¬ y > (bn:Int):=h5;have r6:((o:Int) != 0)=true:=by simp; omega
           have r7:¬ (o:Int)=0:=by omega
           go_wp2_with fail
           go_ret2;exact .inr ⟨f.out,rfl,g.out.tail⟩
  ·have k2:¬ (i:Int)<(n:Int):=by omega
   obtain rfl:i=n:=by omega
   have b1:(X.map PD.toN).take i=X.map PD.toN:=List.take_of_length_le (by rw [List.length_map,<- HN.out]; exact Nat.le_refl _);have b2:=Y.out;rw [b1,HR.out,List.drop_eq_nil_of_le (by rw [<- HN.out]; exact Nat.le_refl _)] at b2;obtain⟨O,U,W⟩:=b2;subst U;subst O;have b9:Hid (F=true):=hid W;have g:=hid H;clear W H Y b1 HR;go_wp2_with fail
   go_ret2;exact .inl ⟨b9.out,_,rfl,g.out⟩
def BytR (w0:World) (L:List Pr) (X:List StI) (e:Ending) (w' : World):Prop:=(mayI X 0=true/\∃v,e=.returned (.tuple #[v,.int .i64 0])/\Sp w0 (Row 5 1 v (PM.expand (X.map PD.toN) []).length (cells8 (PM.expand (X.map PD.toN) []))::L) w')∨(mayI X 0=false/\e=.returned (.tuple #[.slice none 0 0,.int .i64 1])/\Sp w0 L w')
theorem Uv (V:Option Addr) (n c:Nat) (X:List StI) (H:Sp w0 L w) (hn:n=X.length) (hnm:n<=1000) (h:Ent L fun w=>Yo w V X) :
  Calls Tryz.prog 50 #[.slice V n c] w fun e w'=>e=.returned (.bool (mayI X 0))/\Sp w0 L w':=by
 have b:=hid (Y0 V n c X H hn hnm h);clear hn h H;go_enter Tryz.func50,Tryz.ntmps50
 go_wp2_with fail
 refine b.out.mono ?_;rintro _ g (⟨a,v,rfl,d⟩ | ⟨a,rfl,d⟩)
 ·have f:=hid a;clear b a;go_wp2_with fail
  go_ret;exact⟨ZB f.out.symm,d.tail⟩
 ·have f:=hid a;clear b a;go_wp2_with fail
  go_ret;exact⟨ZB f.out.symm,d⟩
theorem WQ (V:Option Addr) (n c:Nat) (X:List StI) (H:Sp w0 L w) (hn:n=X.length) (hnm:n<=1000) (h:Ent L fun w=>Yo w V X) (hm:mayI X 0=true) (hl:(PM.expand (X.map PD.toN) []).length<=1000000) :
  Calls Tryz.prog 52 #[.slice V n c,.int .i64 16777216] w fun e w'=>∃v,e=.returned (.tuple #[v,.int .i64 0])/\Sp w0 (Row 5 1 v (PM.expand (X.map PD.toN) []).length (cells8 (PM.expand (X.map PD.toN) []))::L) w':=by
 have a:=hid (Y0 V n c X H hn hnm h);obtain⟨b,g⟩:=exq (PM.expand (X.map PD.toN) []);rw [g] at a hl ⊢;obtain⟨k,i⟩:=exq b.length;rw [i] at a hl ⊢;have j:=hid hm;clear hn h H hm g i;go_enter Tryz.func52,Tryz.ntmps52
 go_wp2_with fail
 refine a.out.mono ?_;rintro _ l (⟨d,v,rfl,f⟩ | ⟨d,rfl,f⟩)
 ·obtain⟨m,o,rfl,_,_⟩:=Row.form f 0 rfl;have p:¬ (k:Int) > 16777216:=by omega
  clear a d;go_wp2_with fail
  go_ret2;exact⟨_,rfl,f⟩
 ·rw [j.out] at d; cases d
theorem Y1 (V:Option Addr) (n c:Nat) (X:List StI) (H:Sp w0 L w) (hn:n=X.length) (hnm:n<=1000) (h:Ent L fun w=>Yo w V X) :
  Calls Tryz.prog 25 #[.slice V n c] w (BytR w0 L X):=by
 have b:=hid (Uv V n c X H hn hnm h);have x:=hid hn;have J:=hid h;cases hm:mayI X 0 with
 | false =>
  rw [hm] at b;have m:=hid hm;clear hn h H hm;go_enter Tryz.func25,Tryz.ntmps25
  go_wp2_with fail
  refine b.out.mono ?_;rintro _ K ⟨rfl,o⟩;clear b;go_wp2_with fail
  go_ret2;exact .inr ⟨m.out,rfl,o⟩
 | true =>
  rw [hm] at b;obtain⟨y,d⟩:=PD.toN_of X 0 hm;have m:=hid hm;have a:=PD.mays_ok _ _ d;have f:=PD.size_258 _ a;rw [List.length_map] at f;have g:∀s ∈ X.map PD.toN,s.1<=1000000:=fun s hs=>by have:=a s hs; unfold PD.StOk at this; omega
  have j:Ent L fun w=>StAt w V (X.map PD.toN):=fun w0 w q=>by
   have M:=h _ _ q;intro i A;have k:i<X.length:=by rwa [List.length_map] at A
   obtain⟨N,e,B,C,D⟩:=M i k;have O:X[i]=toI ((X.map PD.toN)[i]):=by
    have E:X[i]?=((X.map PD.toN).map toI)[i]?:=by rw [<- y]
    rw [List.getElem?_map,List.getElem?_eq_getElem A,List.getElem?_eq_getElem k] at E;exact Option.some.inj E
   rw [O] at B C D;exact⟨N,e,B,C,D⟩
  have l:(PM.expand (X.map PD.toN) []).length<=1000000:=by rw [PM.expand_length,List.length_nil]; omega
  obtain⟨z,F⟩:=exq (PM.size (X.map PD.toN));have P:z<=1000000:=by omega
  have p:=hid g;have r:=hid j;have t:=hid l;have Q:=hid F;have S:¬ (z:Int) > 16777216:=by omega
  clear hn h H hm y d a f g j l F;go_enter Tryz.func25,Tryz.ntmps25
  go_wp2_with fail
  refine b.out.mono ?_;rintro _ K ⟨rfl,o⟩;have u:=hid (Xo V n c (X.map PD.toN) o (by rw [List.length_map]; exact x.out) (by omega) p.out r.out);rw [Q.out] at u;clear b o;go_wp2_with fail
  refine u.out.mono ?_;rintro _ T ⟨rfl,G⟩;have I:=hid (WQ V n c X G x.out hnm J.out m.out t.out);clear u G;go_wp2_with fail
  refine I.out.mono ?_;rintro _ U ⟨v,rfl,R⟩;clear I;go_wp2_with fail
  go_ret2;exact .inl ⟨m.out,v,rfl,R⟩
theorem Xp {V:Option Addr} {X:List StI} {w:World} (hX:X=(X.map PD.toN).map toI) (q2:Yo w V X):StAt w V (X.map PD.toN):=by
 intro i b;have a:i<X.length:=by rwa [List.length_map] at b
 obtain⟨h,e,c,d,f⟩:=q2 i a;have j:X[i]=toI ((X.map PD.toN)[i]):=by
  have g:X[i]?=((X.map PD.toN).map toI)[i]?:=by rw [<- hX]
  rw [List.getElem?_map,List.getElem?_eq_getElem b,List.getElem?_eq_getElem a] at g;exact Option.some.inj g
 rw [j] at c d f;exact⟨h,e,c,d,f⟩
theorem Vz {P:Program} {fn:Func} {s t:Tmp} {ty:TypeId} (h:fn.results=#[.cell s ty,.tmp t]) (tmps:Array Value) {w:World} {ad:Addr} {cs:List Value} (hx:tmps[s]?.getD undef=.pointer (some ad)) (hc:∀j v,cs[j]?=some v->w.cell? (ad.add j)=some v) (ha:∀w,(isAgg ty).run P w=.ok true w) (hs:∀w,(sizeOf ty).run P w=.ok cs.length w) :
  (results fn tmps).run P w=.ok (.tuple #[.agg cs.toArray,tmps.getD t undef]) w:=by
 have a:=run_loadCells_list (P:=P) w ad cs hc;simp [results,h,hx,asAddr,loadVar,ha,hs,a,Result.andThen]
theorem VC (V:Option Addr) (n c:Nat) (X:List StI) (H:Sp w0 L w) (hn:n=X.length) (hnm:n<=1000) (hnc:n<=c) (hcm:c<=maxLen) (h:Ent L fun w=>Yo w V X) :
  Calls Tryz.prog 7 #[.slice V n c] w fun e w'=>(mayI X 0=true/\∃v,e=.returned (.tuple #[v,.int .i64 0])/\Sp w0 (Row 5 1 v (PD.stream (X.map PD.toN) (PM.expand (X.map PD.toN) [])).length (cells8 (PD.stream (X.map PD.toN) (PM.expand (X.map PD.toN) [])))::L) w')∨(mayI X 0=false/\e=.returned (.tuple #[.slice none 0 0,.int .i64 1])/\Sp w0 L w'):=by
 have o:=hid (Y1 V n c X H hn hnm h);have p:=hid hn;have x:=hid h;clear hn h H;go_enter Tryz.func7,Tryz.ntmps7
 go_wp2_with fail
 refine o.out.mono ?_;rintro _ F (⟨f,v,rfl,a⟩ | ⟨f,rfl,a⟩)
 ·obtain⟨s,d⟩:=PD.toN_of X 0 f;have g:=PD.mays_ok _ _ d;have i:=PD.size_258 _ g;rw [List.length_map] at i;have j:(PM.expand (X.map PD.toN) []).length<=1000000:=by rw [PM.expand_length,List.length_nil,<- p.out] at *; have:=p.out; omega
  obtain⟨b,l⟩:=exq (PM.expand (X.map PD.toN) []);rw [l] at j a;obtain⟨k,m⟩:=exq b.length;rw [m] at j a;obtain⟨y,z,rfl,A,B⟩:=Row.form a 0 rfl;have t:=hid (WN V y n c k z (X.map PD.toN) b a (by rw [List.length_map]; exact p.out) hnm hnc hcm (fun w0 w q=>Xp s (x.out _ _ q.tail)) d l m.symm (by omega) A B (fun w0 w q=>ZX q 0 rfl m.symm));have r:=hid f;have C:=hid l;clear o f s d g i l m a;go_wp2_with fail
  refine t.out.mono ?_;rintro _ G ⟨D,rfl,u⟩;have E:=u.pick 2 [0];clear t u;go_wp2_with fail
  go_ret2;refine .inl ⟨r.out,D,rfl,?_⟩;rw [C.out];exact E
 ·have r:=hid f;clear o f;go_wp2_with fail
  go_ret2;exact .inr ⟨r.out,rfl,a⟩
theorem VE (V:Option Addr) (n c:Nat) (X:List StI) (H:Sp w0 L w) (hn:n=X.length) (hnm:n<=1000) (h:Ent L fun w=>Yo w V X) :
  Calls Tryz.prog 10 #[.slice V n c] w fun e w'=>∃s0 s1 s2 er:Int,e=.returned (.tuple #[.agg #[.int .i64 s0,.int .i64 s1,.int .i64 s2],.int .i64 er])/\Sp w0 L w'/\((mayI X 0=true/\er=0/\s0=max (PD.sto (PM.size (X.map PD.toN)) 0) 0/\s1=(PD.fixN (X.map PD.toN):Int)/\s2=(PD.dynN (X.map PD.toN):Int))∨(mayI X 0=false/\er=1/\s0=0/\s1=0/\s2=0)):=by
 have T:=H.newBk [.int .i64 0,.int .i64 0,.int .i64 0] 34;have s:=hid T;have z:=hid hn;have U:=hid h;clear hn h H T;go_enter Tryz.func10,Tryz.ntmps10
 go_wp2_with fail
 replace s:=s.out;generalize w.heap.size=g2 at s ⊢;generalize World.alloc w _=w1 at s ⊢;have N:=hid (Y1 V n c X s z.out hnm (fun w0 w h=>U.out _ _ h.tail));clear s;go_wp2_with fail
 refine N.out.mono ?_;rintro _ w2 (⟨y,v,rfl,a⟩ | ⟨y,rfl,a⟩)
 ·obtain⟨W,f⟩:=PD.toN_of X 0 y;have p:=PD.mays_ok _ _ f;have A:=PD.size_258 _ p;rw [List.length_map] at A;have g:(PM.expand (X.map PD.toN) []).length<=1000000/\(PM.expand (X.map PD.toN) []).length=PM.size (X.map PD.toN):=by
   rw [PM.expand_length,List.length_nil]; have:=z.out; omega
  obtain⟨g,j⟩:=g;have O:=PD.fixN_le (X.map PD.toN) 0 f;have P:=PD.dynN_le (X.map PD.toN) 0 f;rw [List.length_map] at O P;obtain⟨Y,d⟩:=exq (X.map PD.toN);have B:n=Y.length:=by rw [<- d,List.length_map]; exact z.out
  have C:Ent L fun w=>StAt w V Y:=fun w0 w q=>by rw [<- d]; exact Xp W (U.out _ _ q)
  rw [d] at f p g a O P j;obtain⟨b,Z⟩:=exq (PM.expand Y []);rw [Z] at g a j;have D:=Ur Y b true 0 f (by omega) (by omega);obtain⟨k,E⟩:=exq b.length;rw [E] at g a j;obtain⟨VB,bc,rfl,h1,h2⟩:=Row.form a 0 rfl;have F:((PD.sizesD Y b 0).1:Int)=max (PD.sto k 0) 0:=by
   unfold PD.sizesD PD.sto;rw [E];by_cases r:k<=65535
   ·rw [if_pos r,if_pos r]; omega
   ·rw [if_neg r,if_neg r]; rfl
  have H2:=a.newBk [.slice none 0 0,.int .i64 0] 66;have H3:=Zw (l:=[]) (v:=.slice none 0 0) ((H2.rowNil 4 1).swap);obtain⟨J,t⟩:=exq ((PD.sizesD Y b 0).1);have m:=XK w2.heap.size [] 0 V n c Y VB k bc b true H3 B (fun w0 w q=>C _ _ (q.pick 2 [])) hnm p D E.symm (fun w0 w q=>ZX q 0 rfl E.symm) (by decide) (by have:=z.out; omega) (by have:=z.out; omega);simp only [List.length_nil,List.nil_append] at m;rw [t,show(PD.sizesD Y b 0).2.1=PD.fixN Y from rfl,show(PD.sizesD Y b 0).2.2=PD.dynN Y from rfl] at m;obtain⟨K,u⟩:=exq (PD.fixN Y);obtain⟨M,x⟩:=exq (PD.dynN Y);rw [u,x] at m;have G:=hid m;have I:Hid ((mayI X 0=true/\(0:Int)=0/\(J:Int)=max (PD.sto (PM.size (X.map PD.toN)) 0) 0/\(K:Int)=(PD.fixN (X.map PD.toN):Int)/\(M:Int)=(PD.dynN (X.map PD.toN):Int))):=hid ⟨y,rfl,by rw [d,<- j,<- F,t],by rw [d,u],by rw [d,x]⟩;clear N y W f p A g j O P d B C Z D E F a H2 H3 t m u x h1 h2;go_wp2_with fail
  refine G.out.mono ?_;rintro _ w3 ⟨g3,rfl,H4⟩;have i:=(H4.pick 3 [2]).newBk [.int .i64 J,.int .i64 K,.int .i64 M] 34;have s:=hid i;have t0:=i.cell 0 rfl 0;have t1:=i.cell 0 rfl 1;have t2:=i.cell 0 rfl 2;have Q:=i.cell 1 rfl 0;have R:=i.cell 1 rfl 1;have S:=i.cell 1 rfl 2;have f0:=i.frozen 1 rfl 0;have f1:=i.frozen 1 rfl 1;have f2:=i.frozen 1 rfl 2;simp only [List.getElem?_cons_zero,List.getElem?_cons_succ] at t0 t1 t2 Q R S;have o:=hid ((((i.tail.set 0 (.int .i64 J)).set 1 (.int .i64 K)).set 2 (.int .i64 M)));clear G H4 i;go_wp2_with fail
  refine bodyPost_ret (Vz rfl _ rfl (Xn o.out 0 rfl) Tryz.isAgg34 Tryz.sizeOf34) rfl ?_;exact⟨(J:Int),(K:Int),(M:Int),0,rfl,o.out.tail,.inl (by have:=I.out; simpa using this)⟩
 ·have HM:=hid y;have s:=hid a;have Q:=a.cell 0 rfl 0;have R:=a.cell 0 rfl 1;have S:=a.cell 0 rfl 2;have f0:=a.frozen 0 rfl 0;have f1:=a.frozen 0 rfl 1;have f2:=a.frozen 0 rfl 2;simp only [List.getElem?_cons_zero,List.getElem?_cons_succ] at Q R S;have o:=hid ((((a.set 0 (.int .i64 0)).set 1 (.int .i64 0)).set 2 (.int .i64 0)));clear N y a;go_wp2_with fail
  refine bodyPost_ret (Vz rfl _ rfl (Xn o.out 0 rfl) Tryz.isAgg34 Tryz.sizeOf34) rfl ?_;exact⟨0,0,0,1,rfl,o.out.tail,.inr ⟨HM.out,rfl,rfl,rfl,rfl⟩⟩
namespace PD
theorem row_nil:stream (PM.Cut [] 64) []=[3,0]:=by decide +kernel
theorem row_a:stream (PM.Cut [97] 64) [97]=[75,4,0]:=by decide +kernel
end PD
theorem VG (TL TF:Option Addr) (cl cf:Nat) (H:Sp w0 L w) (hT:Ent L (DTabs TL TF cl cf)) :
  Calls Tryz.prog 16 #[] w fun e w'=>e=.returned (.bool true)/\Sp w0 L w':=by
 have g:=Vw none 0 0 [] H hT rfl (by decide) (Nat.le_refl _) (by decide) (fun _ w _=>Byt.nil w);have q:PD.defl []=[3,0]:=PD.row_nil;have r:PD.defl [97]=[75,4,0]:=PD.row_a;have s:PD.longI 258=(285,0,0):=by decide +kernel
 rw [q] at g;have t:=hid g;have u:=hid hT;have v:=hid r;have z:=hid s;clear g hT q r s H;go_enter Tryz.func16,Tryz.ntmps16
 go_wp2_with fail
 refine t.out.mono ?_;rintro _ d ⟨C,rfl,i⟩;obtain⟨D,E,rfl,_,_⟩:=Row.form i 0 rfl;obtain⟨u2,b,j⟩:=Td i [97];have k:Sem.run Tryz.prog (convert 24 24 (.slice (some ⟨d.heap.size,0,none⟩) 1 1)) (d.alloc (.cells #[.int .u8 97] 5))=.ok (.slice (some ⟨d.heap.size,0,none⟩) 1 1) u2:=b 1 rfl;clear b t i;go_wp2_with fail
 clear k;generalize d.heap.size=g1 at j ⊢;have n:=Vw (some ⟨g1,0,none⟩) 1 1 [97] j (fun w0 w h=>u.out w0 w (h.pick 2 [])) rfl (by decide) (Nat.le_refl _) (by decide) (fun _ _ H=>H.lit 0 rfl (by decide));rw [v.out] at n;refine n.mono ?_;rintro _ F ⟨G,rfl,o⟩;obtain⟨I,J,rfl,_,_⟩:=Row.form o 0 rfl;clear n j v;have p:=Y8 258 o (fun w0 w h=>u.out w0 w (h.pick 3 []));rw [z.out] at p;have x:=hid p;clear p o;go_wp2_with fail
 refine x.out.mono ?_;rintro _ A ⟨rfl,y⟩;clear x;have c:=y.newBk (cells8 [3,0]) 5;have a:=hid (Y3 (l:=[3,0]) (m:=[3,0]) (ZX c 3 rfl rfl) (Byt.of_blk [3,0] (c.blk 0 rfl) (by decide)));rw [show(([3,0]:List UInt8) == [3,0])=true by decide] at a;clear y;go_wp2_with fail
 refine a.out.mono ?_;rintro _ _ ⟨rfl,rfl⟩;clear a;generalize A.alloc _=w4 at c ⊢;have f:=c.newBk (cells8 [75,4,0]) 5;have a:=hid (Y3 (l:=[75,4,0]) (m:=[75,4,0]) (ZX f 2 rfl rfl) (Byt.of_blk [75,4,0] (f.blk 0 rfl) (by decide)));rw [show(([75,4,0]:List UInt8) == [75,4,0])=true by decide] at a;have B:=hid (f.pick 5 []);clear c f;go_wp2_with fail
 refine a.out.mono ?_;rintro _ _ ⟨rfl,rfl⟩;clear a;go_wp2_with fail
 go_ret;exact⟨rfl,B.out⟩
end Go.Proofs.YteajimobgkempaaGreatDoor

