/- A pack. -/
import Derived.Test.YteajimobgkempaaDoorPk16
set_option linter.all false
set_option maxRecDepth 100000
set_option maxHeartbeats 8000000
namespace Go.Proofs.YteajimobgkempaaDoor
variable {w0 w:World} {L:List Pr}
open Go.RowKit
def Sm (g:Nat) (V:Value) (at_:Nat) (out:List UInt8) (most:Nat) (bl:Value) (e:Nat):Pr:=Ex fun O:Value=>Star (SmB g V at_ O most bl e) (Row 5 1 O out.length (cells8 out))
theorem sm_open {g:Nat} {V:Value} {at_:Nat} {out:List UInt8} {most:Nat} {bl:Value} {e:Nat} (H:Sp w0 (Sm g V at_ out most bl e::L) w) :
  ∃A c,Sp w0 (SmB g V at_ (.slice A out.length c) most bl e::Row 5 1 (.slice A out.length c) out.length (cells8 out)::L) w/\out.length<=c/\c<=maxLen:=by
 obtain⟨v,H⟩:=H.unex;replace H:=H.unstar;obtain⟨A,c,rfl,a,b⟩:=Row.form H 1 rfl;exact⟨A,c,H,a,b⟩
theorem sm_shut {g:Nat} {V:Value} {at_:Nat} {out:List UInt8} {most:Nat} {bl:Value} {e:Nat} {O:Value} (H:Sp w0 (SmB g V at_ O most bl e::Row 5 1 O out.length (cells8 out)::L) w):Sp w0 (Sm g V at_ out most bl e::L) w:=Sp.ex O H.star
theorem vput_dead (g:Nat) (V:Value) (at_:Nat) (O:Value) (most:Nat) (bl:Value) (x d:Nat) (hd:d≠0) (H:Sp w0 (SmB g V at_ O most bl d::L) w) :
  Calls Tryd.prog 65 #[.pointer (some ⟨g,0,none⟩),.int .u8 x] w fun e w'=>e=.returned (.tuple #[])/\Sp w0 (SmB g V at_ O most bl d::L) w':=by
 have c:w.cell? ⟨g,5,none⟩=some (.int .i64 d):=H.cell 0 rfl 5;have h:((d:Int) == 0)=false:=by rw [beq_eq_false_iff_ne]; omega
 have f : ¬ (d:Int)=0:=by omega
 have a:=hid H;clear H;go_enter Tryd.func65,Tryd.ntmps65
 go_wp2_with fail
 go_quiet (fail)
 have b:=a.out.drewN nq;generalize w.drewN nq=wq at b ⊢;clear a c;have c:wq.cell? ⟨g,5,none⟩=some (.int .i64 d):=b.cell 0 rfl 5;replace a:=hid b;clear b;go_wp2_with fail
 go_end0;exact⟨rfl,a.out⟩
theorem vput_full (g:Nat) (V:Value) (at_:Nat) (A:Option Addr) (n c:Nat) (most:Nat) (bl:Value) (x:Nat) (hr:most<=n) (H:Sp w0 (SmB g V at_ (.slice A n c) most bl 0::L) w) :
  Calls Tryd.prog 65 #[.pointer (some ⟨g,0,none⟩),.int .u8 x] w fun e w'=>e=.returned (.tuple #[])/\Sp w0 (SmB g V at_ (.slice A n c) most bl 22::L) w':=by
 have f:w.cell? ⟨g,5,none⟩=some (.int .i64 0):=H.cell 0 rfl 5;have i:w.cell? ⟨g,2,none⟩=some (.slice A n c):=H.cell 0 rfl 2;have j:w.cell? ⟨g,3,none⟩=some (.int .i64 most):=H.cell 0 rfl 3;have l:(n:Int)≥(most:Int):=by omega
 have a:=hid H;clear H;go_enter Tryd.func65,Tryd.ntmps65
 go_wp2_with fail
 go_quiet (fail)
 have b:=a.out.drewN nq;generalize w.drewN nq=wq at b ⊢;clear a f i j;have h:=hid (vfail_ok g V at_ (.slice A n c) most bl 22 b);clear b;go_wp2_with fail
 refine h.out.mono ?_;rintro _ k ⟨rfl,d⟩;have f:k.cell? ⟨g,5,none⟩=some (.int .i64 22):=d.cell 0 rfl 5;replace a:=hid d;clear h d;go_wp2_with fail
 go_end0;exact⟨rfl,a.out⟩
theorem vput_ok (g:Nat) (V:Value) (at_:Nat) (out:List UInt8) (most:Nat) (bl:Value) (b:UInt8) (hr:out.length<most) (hm:most<=1000000000) (H:Sp w0 (Sm g V at_ out most bl 0::L) w) :
  Calls Tryd.prog 65 #[.pointer (some ⟨g,0,none⟩),.int .u8 b.toNat] w fun e w'=>e=.returned (.tuple #[])/\Sp w0 (Sm g V at_ (out++[b]) most bl 0::L) w':=by
 obtain⟨B,C,k,l,m⟩:=info_parts info8;obtain⟨A,c,H,o,D⟩:=sm_open H;obtain⟨n,p⟩:=exq out.length;rw [p] at H o hr;have E:=hid p;obtain⟨x,q⟩:=exq b.toNat;have F:=hid q;rw [q];have a:w.cell? ⟨g,5,none⟩=some (.int .i64 0):=H.cell 0 rfl 5;have s:w.cell? ⟨g,2,none⟩=some (.slice A n c):=H.cell 0 rfl 2;have G:w.cell? ⟨g,3,none⟩=some (.int .i64 most):=H.cell 0 rfl 3;have K:¬ (n:Int)≥(most:Int):=by omega
 have t:=hid H;clear H p q;go_enter Tryd.func65,Tryd.ntmps65
 go_wp2_with fail
 go_quiet (fail)
 have d:=t.out.drewN nq;generalize w.drewN nq=wq at d ⊢;clear t a s G;have a:wq.cell? ⟨g,5,none⟩=some (.int .i64 0):=d.cell 0 rfl 5;have s:wq.cell? ⟨g,2,none⟩=some (.slice A n c):=d.cell 0 rfl 2;have f:=Rd.of_blk (Blk.new wq 5 [.int .u8 x]);have v:=(d.newBk [.int .u8 x] 5).pick 3 [2,0,1];have h:=hid f;have i:=hid v;clear f v d;go_wp2_with (at_builtin; refine wpList_append_sp rfl _ _ 25 rfl 5 B (.int .u8 0) 1 1 Tryd.underlying25 C k l m rfl (by decide) (.slice A n c) n (cells8 out) rfl i.out (some ⟨wq.heap.size,0,none⟩) 1 1 [.int .u8 x] rfl rfl h.out (by intro u I; rw [List.mem_singleton.1 I]; rfl) (by simp only [maxLen]; omega) (by omega) ?_)
 intro M y r _;clear h i;obtain⟨z,a,rfl,_,_⟩:=Row.form r 0 rfl;have j:=r.pick 3 [2,0];have N:y.frozen? ⟨g,2,none⟩=false:=j.frozen 0 rfl 2;have P:y.cell? ⟨g,2,none⟩=some (.slice A n c):=j.cell 0 rfl 2;have J:=hid (j.set 2 (.slice z (n+1) a));clear r j;go_wp2_with fail
 go_end0;refine⟨rfl,sm_shut (O:=.slice z (n+1) a) ?_⟩;have e:cells8 (out++[b])=cells8 out++[.int .u8 x]:=by simp [cells8,F.out]
 rw [e,List.length_append,E.out];exact J.out
def DvOut (w0:World) (L:List Pr) (g:Nat) (V:Value) (most:Nat) (bl:Value) (T:Except Nat (Nat × List UInt8)) (e:Ending) (w' : World):Prop :=
 match T with
 | .ok r=>e=.returned (.tuple #[])/\Sp w0 (Sm g V r.1 r.2 most bl 0::L) w'
 | .error er=>er≠0/\∃a o,e=.returned (.tuple #[])/\Sp w0 (Sm g V a o most bl er::L) w'
theorem DvOut.yes {w0 w' : World} {g:Nat} {V:Value} {most:Nat} {bl:Value} {T:Except Nat (Nat × List UInt8)} {a:Nat} {o:List UInt8} (h:T=.ok (a,o)) (H:Sp w0 (Sm g V a o most bl 0::L) w'):DvOut w0 L g V most bl T (.returned (.tuple #[])) w':=by
 subst h; exact⟨rfl,H⟩
theorem DvOut.no {w0 w' : World} {g:Nat} {V:Value} {most:Nat} {bl:Value} {T:Except Nat (Nat × List UInt8)} {a c:Nat} {o:List UInt8} (h:T=.error c) (hc:c≠0) (H:Sp w0 (Sm g V a o most bl c::L) w'):DvOut w0 L g V most bl T (.returned (.tuple #[])) w':=by
 subst h; exact⟨hc,a,o,rfl,H⟩
theorem DvOut.got {w0 w' : World} {g:Nat} {V:Value} {most:Nat} {bl:Value} {T:Except Nat (Nat × List UInt8)} {r:Nat × List UInt8} {e:Ending} (h:T=.ok r) (k:DvOut w0 L g V most bl T e w'):e=.returned (.tuple #[])/\Sp w0 (Sm g V r.1 r.2 most bl 0::L) w':=by
 subst h; exact k
theorem DvOut.bad {w0 w' : World} {g:Nat} {V:Value} {most:Nat} {bl:Value} {T:Except Nat (Nat × List UInt8)} {c:Nat} {e:Ending} (h:T=.error c) (k:DvOut w0 L g V most bl T e w'):c≠0/\∃a o,e=.returned (.tuple #[])/\Sp w0 (Sm g V a o most bl c::L) w':=by
 subst h; exact k
theorem Xc (B:List Bool) (a i:Nat):PI.bytesAt B a (i+1)=PI.bytesAt B a i++[UInt8.ofNat (PI.numAt B (a+8 * i) 8)]:=by
 unfold PI.bytesAt;rw [List.range_succ,List.map_append];rfl
theorem XP (B:List Bool) (a i:Nat):(PI.bytesAt B a i).length=i:=by unfold PI.bytesAt; simp
namespace PI
theorem stored_of {B:List Bool} {most a:Nat} {out:List UInt8} {n k:Nat × Nat} (h1:number B ((a+7) / 8 * 8) 16=.ok n) (h2:number B n.1 16=.ok k):stored B most a out =
  if k.2≠65535 - n.2 then .error 20 else
  if (B.length - k.1) / 8<n.2 then (if most - out.length<(B.length - k.1) / 8 then .error 22 else .error 4) else
  if most - out.length<n.2 then .error 22 else .ok (k.1+8 * n.2,out++bytesAt B k.1 n.2):=by
 unfold stored;rw [h1];show(number B n.1 16).bind _=_;rw [h2];rfl
theorem stored_e1 {B:List Bool} {most a:Nat} {out:List UInt8} {c:Nat} (h1:number B ((a+7) / 8 * 8) 16=.error c):stored B most a out=.error c:=by
 unfold stored;rw [h1]; rfl
theorem stored_e2 {B:List Bool} {most a:Nat} {out:List UInt8} {n:Nat × Nat} {c:Nat} (h1:number B ((a+7) / 8 * 8) 16=.ok n) (h2:number B n.1 16=.error c):stored B most a out=.error c:=by
 unfold stored;rw [h1];show(number B n.1 16).bind _=_;rw [h2]; rfl
end PI
theorem XQ (g:Nat) (A:Option Addr) (n c:Nat) (B:List UInt8) (at_:Nat) (out:List UInt8) (most:Nat) (bl:Value) (H:Sp w0 (Sm g (.slice A n c) at_ out most bl 0::L) w) (hn:n=B.length) (hnm:n<=1000000) (hat:at_<=8 * n) (ho:out.length<=most) (hm:most<=1000000) (hb:Ent L fun w=>Byt w (.slice A n c) B) :
  Calls Tryd.prog 39 #[.pointer (some ⟨g,0,none⟩)] w (DvOut w0 L g (.slice A n c) most bl (PI.stored (PBits.ofB B) most at_ out)):=by
 obtain⟨T,hT⟩:=exq (PI.stored (PBits.ofB B) most at_ out);rw [hT];obtain⟨m,p,H,b9,d6⟩:=sm_open H;obtain⟨e,Z⟩:=exq out.length;rw [Z] at H b9 ho;obtain⟨a8,b0⟩:=exq ((at_+7) / 8 * 8);have a0:at_<=a8/\a8<at_+8/\a8 % 8=0/\a8<=8 * n:=by omega
 obtain⟨a0,d7,d8,c0⟩:=a0;have k:=hid Z;have HT:=hid hT;have a3:=hid b0;have S:=hid hn;have HB:=hid hb;have d:=hid H;clear H Z hT b0 hn hb;go_enter Tryd.func39,Tryd.ntmps39
 go_wp2_with fail
 go_loopw [] (fun wr=>∃a:Nat,at_<=a/\a<=a8/\Sp w0 (SmB g (.slice A n c) a (.slice m e p) most bl 0::Row 5 1 (.slice m e p) e (cells8 out)::L) wr) (fun wr=>a8 - (match wr.cell? ⟨g,1,none⟩ with | some v=>(intOf v).toNat | none=>0))
 case atStart=>exact⟨at_,Nat.le_refl _,a0,d.out⟩
 case round =>
  clear d;obtain⟨a,d9,d0,H1⟩:=hrel;have c1:wr.cell? ⟨g,1,none⟩=some (.int .i64 a):=H1.cell 0 rfl 1;have z1:wr.frozen? ⟨g,1,none⟩=false:=H1.frozen 0 rfl 1;obtain⟨r,hr⟩:=exq (a % 8);have y1:(a:Int) % 8=(r:Int):=by omega
  by_cases e2:a<a8
  ·have k1:((r:Int) != 0)=true:=by simp; omega
   have e3 : ¬ (r:Int)=0:=by omega
   have M:=H1.set 1 (.int .i64 ((a:Int)+1));have d:=hid M;have e1:(a:Int)+1=((a+1:Nat):Int):=by omega
   have z:=hid e1;have b1 : (wr.setCell ⟨g,1,none⟩ (.int .i64 ((a:Int)+1))).cell? ⟨g,1,none⟩=some (.int .i64 ((a:Int)+1)):=M.cell 0 rfl 1;have c2:=hid b1;have c3:=hid c1;clear H1 M hr e1 b1;go_wp2_with fail
   go_roundw
   case rel =>
    refine⟨a+1,by omega,by omega,?_⟩;have h:=d.out;rw [z.out] at h ⊢;exact h
   case measure =>
    rw [c2.out,c3.out];simp [intOf];omega
  ·obtain rfl:a=a8:=by omega
   have c4:r=0:=by omega
   subst c4;have q:=hid (Zt g A n c B a (.slice m e p) most bl 16 H1 S.out hnm c0 (by decide) (fun w0 w h=>HB.out w0 w h.tail));clear H1 hr;go_wp2_with fail
   refine q.out.mono ?_;intro e9 w2 j;clear q c1 z1 y1;cases hr1:PI.number (PBits.ofB B) a 16 with
   | error er =>
    obtain⟨N,b,rfl,M⟩:=DvEnd.bad hr1 j;have F:T=.error er:=by rw [<- HT.out]; exact PI.stored_e1 (by rw [a3.out]; exact hr1)
    have t:=hid F;have z:=hid N;have b2:=hid (vnumber_dead g (.slice A n c) b (.slice m e p) most bl 16 er N (by decide) M);clear j hr1 M F N;go_wp2_with fail
    refine b2.out.mono ?_;rintro _ w3 ⟨rfl,D⟩;have U:=hid (Zx g (.slice A n c) b (.slice m e p) most bl 20 er z.out D);clear b2 D;go_wp2_with fail
    refine U.out.mono ?_;rintro _ w4 ⟨rfl,V⟩;have d:=hid V;have b3:=z.out;clear U V;go_wp2_with fail
    go_loopw [4] (fun iv wr=>iv=.int .i64 0/\Sp w0 (SmB g (.slice A n c) b (.slice m e p) most bl er::Row 5 1 (.slice m e p) e (cells8 out)::L) wr) (fun _ _=>0)
    case atStart=>exact⟨rfl,d.out⟩
    case round =>
     clear d;obtain⟨rfl,H⟩:=hrel;have c5:wr.cell? ⟨g,5,none⟩=some (.int .i64 er):=H.cell 0 rfl 5;have k8:(((er:Nat):Int) == 0)=false:=by rw [beq_eq_false_iff_ne]; omega
     have j:¬ ((er:Nat):Int)=0:=by omega
     have d:=hid H;clear H;have k4:¬ (0:Int)<0:=by omega
     go_wp2_with fail
     go_end0;have u:=d.out;rw [<- k.out] at u;exact DvOut.no t.out z.out (sm_shut u)
   | ok r1 =>
    obtain⟨rfl,M⟩:=DvEnd.got hr1 j;obtain⟨a1,n1⟩:=r1;have C:=(PI.number_ok hr1).1;have G:=(PI.number_ok hr1).2;injection C with C hq3
    have e4:n1<65536:=by rw [hq3]; exact PI.numAt_lt _ _ 16
    rw [PBits.ofB_length,<- S.out] at G;have b4:a1<=8 * n:=by omega
    have d1:a1 % 8=0:=by omega
    simp only at M;have b5:=hid hr1;have q:=hid (Zt g A n c B a1 (.slice m e p) most bl 16 M S.out hnm b4 (by decide) (fun w0 w h=>HB.out w0 w h.tail));clear M hr1 C G hq3 j;go_wp2_with fail
    refine q.out.mono ?_;intro e9 w3 j;clear q;cases hr2:PI.number (PBits.ofB B) a1 16 with
    | error er =>
     obtain⟨N,b,rfl,D⟩:=DvEnd.bad hr2 j;have F:T=.error er:=by rw [<- HT.out]; exact PI.stored_e2 (by rw [a3.out]; exact b5.out) hr2
     have t:=hid F;have z:=hid N;clear j hr2 F N;by_cases c6:n1=65535
     ·have k5:((n1:Int) != 65535)=false:=by simp; omega
      have a4 : (n1:Int)=65535:=by omega
      have d:=hid D;have b3:=z.out;clear D;go_wp2_with fail
      go_loopw [4] (fun iv wr=>iv=.int .i64 0/\Sp w0 (SmB g (.slice A n c) b (.slice m e p) most bl er::Row 5 1 (.slice m e p) e (cells8 out)::L) wr) (fun _ _=>0)
      case atStart=>exact⟨rfl,d.out⟩
      case round =>
       clear d;obtain⟨rfl,H⟩:=hrel;have c5:wr.cell? ⟨g,5,none⟩=some (.int .i64 er):=H.cell 0 rfl 5;have k8:(((er:Nat):Int) == 0)=false:=by rw [beq_eq_false_iff_ne]; omega
       have j:¬ ((er:Nat):Int)=0:=by omega
       have d:=hid H;clear H;have k4:(0:Int)<(n1:Int):=by omega
       go_wp2_with fail
       go_end0;have u:=d.out;rw [<- k.out] at u;exact DvOut.no t.out z.out (sm_shut u)
     ·have k5:((n1:Int) != 65535)=true:=by simp; omega
      have a4 : ¬ (n1:Int)=65535:=by omega
      have U:=hid (Zx g (.slice A n c) b (.slice m e p) most bl 20 er z.out D);clear D;go_wp2_with fail
      refine U.out.mono ?_;rintro _ w4 ⟨rfl,V⟩;have d:=hid V;have b3:=z.out;clear U V;go_wp2_with fail
      go_loopw [4] (fun iv wr=>iv=.int .i64 0/\Sp w0 (SmB g (.slice A n c) b (.slice m e p) most bl er::Row 5 1 (.slice m e p) e (cells8 out)::L) wr) (fun _ _=>0)
      case atStart=>exact⟨rfl,d.out⟩
      case round =>
       clear d;obtain⟨rfl,H⟩:=hrel;have c5:wr.cell? ⟨g,5,none⟩=some (.int .i64 er):=H.cell 0 rfl 5;have k8:(((er:Nat):Int) == 0)=false:=by rw [beq_eq_false_iff_ne]; omega
       have j:¬ ((er:Nat):Int)=0:=by omega
       have d:=hid H;clear H;by_cases h0:0<n1
       ·have k4:(0:Int)<(n1:Int):=by omega
        go_wp2_with fail
        go_end0;have u:=d.out;rw [<- k.out] at u;exact DvOut.no t.out z.out (sm_shut u)
       ·have k4:¬ (0:Int)<(n1:Int):=by omega
        go_wp2_with fail
        go_end0;have u:=d.out;rw [<- k.out] at u;exact DvOut.no t.out z.out (sm_shut u)
    | ok r2 =>
     obtain⟨rfl,D⟩:=DvEnd.got hr2 j;obtain⟨f,m1⟩:=r2;have C:=(PI.number_ok hr2).1;have G:=(PI.number_ok hr2).2;injection C with C hq3
     have e5:m1<65536:=by rw [hq3]; exact PI.numAt_lt _ _ 16
     rw [PBits.ofB_length,<- S.out] at G;have d2:f<=8 * n:=by omega
     have d3:f % 8=0:=by omega
     simp only at D;have l:=PI.stored_of (most:=most) (out:=out) (a:=at_) (by rw [a3.out]; exact b5.out) hr2;rw [HT.out,k.out,PBits.ofB_length,<- S.out] at l;simp only at l;obtain⟨s,hs⟩:=exq (n1+m1);have y3:(n1:Int)+(m1:Int)=(s:Int):=by omega
     clear j hr2 C G hq3;by_cases c6:s=65535
     ·have k5:((s:Int) != 65535)=false:=by simp; omega
      have a4 : (s:Int)=65535:=by omega
      rw [if_neg (by omega)] at l;obtain⟨av,b6⟩:=exq ((8 * n - f) / 8);have d4:f+8 * av=8 * n:=by omega
      rw [b6] at l;have a5:=hid l;have d:=hid D;clear D l b6;go_wp2_with fail
      go_loopw [4] (fun iv wr=>∃i:Nat,iv=.int .i64 i/\i<=n1/\((i<=av/\i<=most - e/\Sp w0 (Sm g (.slice A n c) (f+8 * i) (out++PI.bytesAt (PBits.ofB B) f i) most bl 0::L) wr)∨(∃er,er≠0/\Hid (T=.error er)/\∃b o,Sp w0 (Sm g (.slice A n c) b o most bl er::L) wr))) (fun iv _=>n1+1 - (intOf iv).toNat)
      case atStart =>
       refine⟨0,rfl,Nat.zero_le _,.inl ⟨Nat.zero_le _,Nat.zero_le _,?_⟩⟩;have e0:PI.bytesAt (PBits.ofB B) f 0=[]:=rfl;rw [e0,List.append_nil];refine sm_shut (O:=.slice m e p) ?_;rw [k.out]; exact d.out
      case round =>
       clear d;obtain⟨i,rfl,hi,a6⟩:=hrel;rcases a6 with ⟨hiv,him,H⟩ | ⟨er,N,HTE,b,o,H⟩
       ·by_cases c7:i<n1
        ·have k6:(i:Int)<(n1:Int):=by omega
         have P:(out++PI.bytesAt (PBits.ofB B) f i).length=e+i:=by rw [List.length_append,k.out,XP]
         have I:=Xc (PBits.ofB B) f i;obtain⟨o1,a7⟩:=exq (out++PI.bytesAt (PBits.ofB B) f i);rw [a7] at H P;obtain⟨PA,pc,H,W,b7⟩:=sm_open H;rw [P] at H W;have c5:wr.cell? ⟨g,5,none⟩=some (.int .i64 0):=H.cell 0 rfl 5;have q:=hid (Zt g A n c B (f+8 * i) (.slice PA (e+i) pc) most bl 8 H S.out hnm (by omega) (by decide) (fun w0 w h=>HB.out w0 w h.tail));have Q:=hid P;have b8:=hid I;have c8:=hid a7;clear H P I a7;go_wp2_with fail
         refine q.out.mono ?_;intro e9 w5 j;clear q c5;by_cases e6:i<av
         ·have E:PI.number (PBits.ofB B) (f+8 * i) 8=.ok (f+8 * i+8,PI.numAt (PBits.ofB B) (f+8 * i) 8):=by
           unfold PI.number;rw [if_pos (by rw [PBits.ofB_length,<- S.out]; omega)]
          obtain⟨rfl,X⟩:=DvEnd.got E j;have hx:=PI.numAt_lt (PBits.ofB B) (f+8 * i) 8;obtain⟨x,R⟩:=exq (PI.numAt (PBits.ofB B) (f+8 * i) 8);rw [R] at hx b8;simp only [R] at X ⊢;have c9:x<256:=hx;have a9:(UInt8.ofNat x).toNat=x:=by rw [UInt8.toNat_ofNat',Nat.mod_eq_of_lt (by omega)]
          by_cases d5:i<most - e
          ·have Y:Sp w0 (Sm g (.slice A n c) (f+8 * i+8) o1 most bl 0::L) w5:=sm_shut (O:=.slice PA (e+i) pc) (by rw [Q.out]; exact X);have J:=vput_ok g (.slice A n c) (f+8 * i+8) o1 most bl (UInt8.ofNat x) (by rw [Q.out]; omega) (by omega) Y;rw [a9] at J;replace J:=hid J;clear X Y E j a9 R;go_wp2_with fail
           refine J.out.mono ?_;rintro _ w6 ⟨rfl,Y⟩;clear J;go_wp2_with fail
           go_roundw
           case rel =>
            refine⟨i+1,by go_num,by omega,.inl ⟨by omega,by omega,?_⟩⟩;rw [b8.out,<- List.append_assoc,c8.out,show f+8 * (i+1)=f+8 * i+8 by omega];exact Y
           case measure=>first | (simp [intOf]; omega) | simp [intOf]
          ·have y:T=.error 22:=by
            rw [a5.out];by_cases hq:av<n1
            ·rw [if_pos hq,if_pos (by omega)]
            ·rw [if_neg hq,if_pos (by omega)]
           have K:=hid y;have J:=hid (vput_full g (.slice A n c) (f+8 * i+8) PA (e+i) pc most bl x (by omega) X);clear X E j a9 R y;go_wp2_with fail
           refine J.out.mono ?_;rintro _ w6 ⟨rfl,Y⟩;clear J;go_wp2_with fail
           go_roundw
           case rel=>exact⟨i+1,by go_num,by omega,.inr ⟨22,by decide,K,_,o1,sm_shut (O:=.slice PA (e+i) pc) (by rw [Q.out]; exact Y)⟩⟩
           case measure=>first | (simp [intOf]; omega) | simp [intOf]
         ·have E:PI.number (PBits.ofB B) (f+8 * i) 8=.error 4:=PI.number_none (by rw [<- S.out]; omega);obtain⟨_,b,rfl,X⟩:=DvEnd.bad E j;have y:T=.error 4:=by
           rw [a5.out,if_pos (by omega),if_neg (by omega)]
          have K:=hid y;have J:=hid (vput_dead g (.slice A n c) b (.slice PA (e+i) pc) most bl 0 4 (by decide) X);clear X E j y;go_wp2_with fail
          refine J.out.mono ?_;rintro _ w6 ⟨rfl,Y⟩;clear J;go_wp2_with fail
          go_roundw
          case rel=>exact⟨i+1,by go_num,by omega,.inr ⟨4,by decide,K,_,o1,sm_shut (O:=.slice PA (e+i) pc) (by rw [Q.out]; exact Y)⟩⟩
          case measure=>first | (simp [intOf]; omega) | simp [intOf]
        ·have k6:¬ (i:Int)<(n1:Int):=by omega
         obtain rfl:i=n1:=by omega
         have y:T=.ok (f+8 * i,out++PI.bytesAt (PBits.ofB B) f i):=by
          rw [a5.out,if_neg (by omega),if_neg (by omega)]
         have K:=hid y;clear y;go_wp2_with fail
         go_end0;exact DvOut.yes K.out H
       ·obtain⟨PA,pc,H,W,b7⟩:=sm_open H;have c5:wr.cell? ⟨g,5,none⟩=some (.int .i64 er):=H.cell 0 rfl 5;have k8:((er:Int) == 0)=false:=by rw [beq_eq_false_iff_ne]; omega
        have j:¬ (er:Int)=0:=by omega
        have d:=hid (sm_shut H);have z:=hid N;clear H N;by_cases c7:i<n1
        ·have k6:(i:Int)<(n1:Int):=by omega
         go_wp2_with fail
         go_end0;exact DvOut.no HTE.out z.out d.out
        ·have k6:¬ (i:Int)<(n1:Int):=by omega
         go_wp2_with fail
         go_end0;exact DvOut.no HTE.out z.out d.out
     ·have k5:((s:Int) != 65535)=true:=by simp; omega
      have a4 : ¬ (s:Int)=65535:=by omega
      rw [if_pos (by omega)] at l;have t:=hid l;have U:=hid (vfail_ok g (.slice A n c) f (.slice m e p) most bl 20 D);clear D l;go_wp2_with fail
      refine U.out.mono ?_;rintro _ w4 ⟨rfl,V⟩;have d:=hid V;clear U V;go_wp2_with fail
      go_loopw [4] (fun iv wr=>iv=.int .i64 0/\Sp w0 (SmB g (.slice A n c) f (.slice m e p) most bl 20::Row 5 1 (.slice m e p) e (cells8 out)::L) wr) (fun _ _=>0)
      case atStart=>exact⟨rfl,d.out⟩
      case round =>
       clear d;obtain⟨rfl,H⟩:=hrel;have c5:wr.cell? ⟨g,5,none⟩=some (.int .i64 (20:Int)):=H.cell 0 rfl 5;have k8:(((20:Nat):Int) == 0)=false:=by rw [beq_eq_false_iff_ne]; omega
       have j:¬ ((20:Nat):Int)=0:=by omega
       have d:=hid H;clear H;by_cases h0:0<n1
       ·have k4:(0:Int)<(n1:Int):=by omega
        go_wp2_with fail
        go_end0;have u:=d.out;rw [<- k.out] at u;exact DvOut.no t.out (by decide) (sm_shut u)
       ·have k4:¬ (0:Int)<(n1:Int):=by omega
        go_wp2_with fail
        go_end0;have u:=d.out;rw [<- k.out] at u;exact DvOut.no t.out (by decide) (sm_shut u)
end Go.Proofs.YteajimobgkempaaDoor

