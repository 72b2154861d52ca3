/- A pack. -/
import Derived.Test.YteajimobgkempaaDoorPk10
set_option linter.all false
set_option maxRecDepth 100000
set_option maxHeartbeats 8000000
namespace Go.Proofs.YteajimobgkempaaDoor
variable {w0 w:World} {L:List Pr}
open Go.RowKit
theorem infoJ:(Tryd.prog.info? 3).map (fun i=>(i.zero,i.size,i.bytes))=some (some (.int .i64 0),1,8):=by kernel_rfl
def BkB (g:Nat) (m:List Nat) (v:Value) (most:Int):Pr:=Bk g 254 (cntV (PH.tal m)++[v,.int .i64 most])
theorem BkB.get {g:Nat} {m:List Nat} {v:Value} {most:Int} (H:Sp w0 L w) (k:Nat) (hk:L[k]?=some (BkB g m v most)) :
  w.cell? ⟨g,16,none⟩=some v/\w.cell? ⟨g,17,none⟩=some (.int .i64 most)/\w.frozen? ⟨g,16,none⟩=false/\w.frozen? ⟨g,17,none⟩=false/\∀i,i<16->w.cell? ⟨g,i,none⟩=some (.int .i64 (PH.tal m i:Int)):=by
 refine⟨H.cell k hk 16,H.cell k hk 17,H.frozen k hk 16,H.frozen k hk 17,fun i hi=>?_⟩;rw [H.cell k hk i,List.getElem?_append_left (by simp [cntV]; exact hi),ZB _ _ hi]
theorem BkB.set16 {g:Nat} {m:List Nat} {v:Value} {most:Int} (H:Sp w0 (BkB g m v most::L) w) (u:Value):Sp w0 (BkB g m u most::L) (w.setCell ⟨g,16,none⟩ u):=H.set 16 u
theorem BkB.set17 {g:Nat} {m:List Nat} {v:Value} {most:Int} (H:Sp w0 (BkB g m v most::L) w) (u:Int):Sp w0 (BkB g m v u::L) (w.setCell ⟨g,17,none⟩ (.int .i64 u)):=H.set 17 (.int .i64 u)
theorem ZZ (a b:List Nat):cellsN (a++b)=cellsN a++cellsN b:=List.map_append
def mayBook (m:List Nat):Bool:=decide (PH.state m=0) || (decide ((PH.rows m).length=0) || (decide ((PH.rows m).length=1) && decide (PH.tal m 1=1)))
def mostOf (m:List Nat):Int:=if PH.state m=0 then 15 else 1
theorem WY (A:Option Addr) (n c:Nat) (m:List Nat) (H:Sp w0 L w) (hn:n=m.length) (hb:Ent L fun w=>Rd w A (cells64 (castI m))) (hl:n<=1024) (h15:∀x ∈ m,x<=15) :
  Calls Tryd.prog 159 #[.slice A n c] w fun e w'=>if mayBook m=true then ∃g v,e=.returned (.tuple #[.pointer (some ⟨g,0,none⟩),.int .i64 0])/\Sp w0 (Row 3 1 v (PH.rows m).length (cellsN (PH.rows m))::BkB g m v (mostOf m)::L) w'
   else e=.returned (.tuple #[.pointer none,.int .i64 20])/\Sp w0 L w':=by
 obtain⟨i0,a7,a8,a9,b0⟩:=info_parts infoJ;have C:=Xm A n c m H hn hb hl h15;have HN:=hid hn;have HB:=hid hb;have b1:=hid h15;obtain⟨st,o⟩:=exq (PH.state m);obtain⟨O,f⟩:=exq (mayBook m);obtain⟨mo,h⟩:=exq (mostOf m);rw [o] at C;rw [f,h];have D:=hid o;have Q:=hid f;have S:=hid h;clear hn hb h15 o f h;have T:tallyV m=.agg #[.int .i64 (PH.tal m 0:Int),.int .i64 (PH.tal m 1:Int),.int .i64 (PH.tal m 2:Int),.int .i64 (PH.tal m 3:Int),.int .i64 (PH.tal m 4:Int),.int .i64 (PH.tal m 5:Int),.int .i64 (PH.tal m 6:Int),.int .i64 (PH.tal m 7:Int),.int .i64 (PH.tal m 8:Int),.int .i64 (PH.tal m 9:Int),.int .i64 (PH.tal m 10:Int),.int .i64 (PH.tal m 11:Int),.int .i64 (PH.tal m 12:Int),.int .i64 (PH.tal m 13:Int),.int .i64 (PH.tal m 14:Int),.int .i64 (PH.tal m 15:Int)]:=rfl;have b2:Bk 0 254 [.int .i64 (PH.tal m 0:Int),.int .i64 (PH.tal m 1:Int),.int .i64 (PH.tal m 2:Int),.int .i64 (PH.tal m 3:Int),.int .i64 (PH.tal m 4:Int),.int .i64 (PH.tal m 5:Int),.int .i64 (PH.tal m 6:Int),.int .i64 (PH.tal m 7:Int),.int .i64 (PH.tal m 8:Int),.int .i64 (PH.tal m 9:Int),.int .i64 (PH.tal m 10:Int),.int .i64 (PH.tal m 11:Int),.int .i64 (PH.tal m 12:Int),.int .i64 (PH.tal m 13:Int),.int .i64 (PH.tal m 14:Int),.int .i64 (PH.tal m 15:Int),.slice none 0 0,.int .i64 0]=BkB 0 m (.slice none 0 0) 0:=rfl;clear b2;go_enter Tryd.func159,Tryd.ntmps159
 go_wp2_with fail
 refine C.mono ?_;rintro _ w1 ⟨rfl,H1⟩;clear C;go_wp2_with fail
 refine(YI A n c m H1 HN.out HB.out (by omega) b1.out).mono ?_;rintro _ w2 ⟨rfl,H2⟩;rw [T];clear T;have U:=H2.newBk [.int .i64 (PH.tal m 0:Int),.int .i64 (PH.tal m 1:Int),.int .i64 (PH.tal m 2:Int),.int .i64 (PH.tal m 3:Int),.int .i64 (PH.tal m 4:Int),.int .i64 (PH.tal m 5:Int),.int .i64 (PH.tal m 6:Int),.int .i64 (PH.tal m 7:Int),.int .i64 (PH.tal m 8:Int),.int .i64 (PH.tal m 9:Int),.int .i64 (PH.tal m 10:Int),.int .i64 (PH.tal m 11:Int),.int .i64 (PH.tal m 12:Int),.int .i64 (PH.tal m 13:Int),.int .i64 (PH.tal m 14:Int),.int .i64 (PH.tal m 15:Int),.slice none 0 0,.int .i64 0] 254;go_wp2_with fail
 generalize w2.heap.size=g at U ⊢;generalize w2.alloc _=w3 at U ⊢;replace U:Sp w0 (BkB g m (.slice none 0 0) 0::L) w3:=U;obtain⟨rl,E⟩:=exq ((PH.rows m).length);obtain⟨t1,F⟩:=exq (PH.tal m 1);have f:O=(decide (st=0) || (decide (rl=0) || (decide (rl=1) && decide (t1=1)))):=by rw [<- Q.out,<- E,<- F,<- D.out]; rfl
 have h:mo=if st=0 then 15 else 1:=by rw [<- S.out,<- D.out]; rfl
 have b:=hid f;have z:=hid h;have V:=hid E;have b3:=hid F;clear f h E F Q S D H1 H2 H;go_loopw [7] (fun iv wr=>∃(i:Nat) (v:Value),iv=.int .i64 ((i+1:Nat):Int)/\i<=15/\Sp w0 (Row 3 1 v (PH.rowsB m i).length (cellsN (PH.rowsB m i))::BkB g m v 0::L) wr) (fun iv _=>16 - (intOf iv).toNat)
 case atStart=>exact⟨0,.slice none 0 0,rfl,by omega,U.rowNil _ _⟩
 case round =>
  obtain⟨i,v,rfl,hi,G⟩:=hrel;have ei:((i+1:Nat):Int)=(i:Int)+1:=by omega
  rw [ei];obtain⟨R0,j⟩:=exq (PH.rowsB m i);have W:R0.length<=15 * n:=by
   rw [<- j,HN.out];exact Nat.le_trans (PH.rowsB_len m i) (Nat.mul_le_mul_right _ hi)
  rw [j] at G;by_cases b6:i<15
  ·have k1:(i:Int)+1<=15:=by omega
   have p:PH.rowsB m (i+1)=R0++PH.idx m (i+1) n:=by rw [PH.rowsB,j,HN.out]
   have b4:=hid p;clear p j;go_wp2_with fail
   go_loopw [28] (fun kv wr=>∃(k:Nat) (v:Value) (R:List Nat),kv=.int .i64 k/\k<=n/\R0++PH.idx m (i+1) k=R/\Sp w0 (Row 3 1 v R.length (cellsN R)::BkB g m v 0::L) wr) (fun kv _=>n - (intOf kv).toNat)
   case atStart=>exact⟨0,v,R0,rfl,Nat.zero_le _,by rw [PH.idx_zero,List.append_nil],G⟩
   case round =>
    obtain⟨k,v,R,rfl,hk,P,t⟩:=hrel;have b7:R.length<=16 * n:=by
     rw [<- P,List.length_append];have:=PH.idx_len m (i+1) k;omega
    by_cases b5:k<n
    ·have k2:(k:Int)<(n:Int):=by omega
     have X:k<m.length:=by rw [<- HN.out]; exact b5
     obtain⟨al,rfl,hc⟩:=(HB.out _ _ (t.pick 2 [])).at64 (k:=k) (by simpa [castI] using X);obtain⟨x,hx⟩:=exq (m[k]);replace hc:wr.cell? (al.add k)=some (.int .i64 x):=by
      rw [hc];simp [castI,hx]
     have Y:m.getD k 0=x:=by rw [List.getD_eq_getElem?_getD,List.getElem?_eq_getElem X,hx]; rfl
     have d:=PH.idx_succ m (i+1) k;rw [Y] at d;have Z:=hid d;have HR:=hid P;clear Y d P hx;by_cases a0:x=i+1
     ·have k3:((x:Int) == (i:Int)+1)=true:=by rw [beq_iff_eq]; omega
      obtain⟨VR,cR,rfl,_,_⟩:=Row.form t 0 rfl;obtain⟨a1,_,_,_,_⟩:=BkB.get t 1 rfl;have a2:=Rd.of_blk (Blk.new wr 3 [.int .i64 k]);have h9:=(t.newBk [.int .i64 k] 3).swap;have a3:=hid a2;have a4:=hid h9;clear a2 h9 t;go_wp2_with (at_builtin; refine wpList_append_sp rfl _ _ 51 rfl 3 i0 (.int .i64 0) 1 8 Tryd.underlying51 a7 a8 a9 b0 rfl (by decide) (.slice VR R.length cR) R.length (cellsN R) rfl a4.out (some ⟨wr.heap.size,0,none⟩) 1 1 [.int .i64 k] rfl rfl a3.out (by intro u hu; rw [List.mem_singleton.1 hu]; rfl) (by simp only [maxLen]; omega) (by omega) ?_)
      intro v6 w6 H6 _;clear a3 a4 a1;obtain⟨V6,c6,rfl,_,_⟩:=Row.form H6 0 rfl;obtain⟨b8,_,a5,_,_⟩:=BkB.get H6 2 rfl;have H7:=(BkB.set16 (H6.pick 3 [2,0]) (.slice V6 (R.length+1) c6)).swap;have q:R0++PH.idx m (i+1) (k+1)=R++[k]:=by
       rw [Z.out,if_pos a0,<- List.append_assoc,HR.out]
      have I:=hid q;clear q H6;go_wp2_with fail
      go_roundw
      case rel =>
       refine⟨k+1,.slice V6 (R.length+1) c6,R++[k],by go_num,by omega,I.out,?_⟩;rw [List.length_append,ZZ];exact H7
      case measure=>first | (simp [intOf]; omega) | simp [intOf]
     ·have k3:((x:Int) == (i:Int)+1)=false:=by rw [beq_eq_false_iff_ne]; omega
      have q:R0++PH.idx m (i+1) (k+1)=R:=by
       rw [Z.out,if_neg a0,HR.out]
      have I:=hid q;clear q;go_wp2_with fail
      go_roundw
      case rel=>exact⟨k+1,v,R,by go_num,by omega,I.out,t⟩
      case measure=>first | (simp [intOf]; omega) | simp [intOf]
    ·have k2:¬ (k:Int)<(n:Int):=by omega
     obtain rfl:k=n:=by omega
     rw [<- b4.out] at P;have HR:=hid P;clear P;go_wp2_with fail
     go_roundw
     case rel =>
      refine⟨i+1,v,by first | go_num | exact congrArg (Value.int .i64) (by omega),by omega,?_⟩;rw [HR.out];exact t
     case measure=>first | (simp [intOf]; omega) | simp [intOf]
  ·have k1:¬ (i:Int)+1<=15:=by omega
   obtain rfl:i=15:=by omega
   have J:PH.rows m=R0:=j;rw [J] at V;have r:=V.out;rw [r] at G;obtain⟨VR,cR,rfl,_,_⟩:=Row.form G 0 rfl;obtain⟨a1,b9,a5,c0,B⟩:=BkB.get G 1 rfl;have c1:=B 1 (by omega);rw [b3.out] at c1;have t:=fun u=>(BkB.set17 G.swap u).swap;have K:=hid t;have a6:=hid G;have s:=hid r;have M:=hid J;clear t j J W r B a5 ei;by_cases a:st=0
   ·have y:O=true:=by rw [b.out,decide_eq_true a]; rfl
    have e2:mo=15:=by rw [z.out,if_pos a]
    subst y e2 a;go_wp2_with fail
    go_ret2;exact⟨g,rfl,_,by rw [M.out,s.out]; exact K.out 15⟩
   ·have k2:(st == 0)=false:=by rw [beq_eq_false_iff_ne]; exact a
    have e2:mo=1:=by rw [z.out,if_neg a]
    subst e2;by_cases l:rl=0
    ·have y:O=true:=by rw [b.out,decide_eq_true l]; simp
     have k3:((rl:Int) == 0)=true:=by rw [beq_iff_eq]; omega
     subst y;clear a;go_wp2_with fail
     go_ret2;exact⟨g,rfl,_,by rw [M.out,s.out]; exact K.out 1⟩
    ·have k3:((rl:Int) == 0)=false:=by rw [beq_eq_false_iff_ne]; omega
     by_cases N:rl=1
     ·have k4:((rl:Int) == 1)=true:=by rw [beq_iff_eq]; omega
      by_cases ht:t1=1
      ·have y:O=true:=by rw [b.out,decide_eq_true N,decide_eq_true ht]; simp
       have k5:((t1:Int) == 1)=true:=by rw [beq_iff_eq]; omega
       subst y;clear a l;go_wp2_with fail
       go_ret2;exact⟨g,rfl,_,by rw [M.out,s.out]; exact K.out 1⟩
      ·have y:O=false:=by rw [b.out,decide_eq_false a,decide_eq_false l,decide_eq_false ht]; simp
       have k5:((t1:Int) == 1)=false:=by rw [beq_eq_false_iff_ne]; omega
       subst y;clear a l;go_wp2_with fail
       go_ret2;exact⟨rfl,a6.out.pick 2 []⟩
     ·have k4:((rl:Int) == 1)=false:=by rw [beq_eq_false_iff_ne]; omega
      have y:O=false:=by rw [b.out,decide_eq_false a,decide_eq_false l,decide_eq_false N]; rfl
      subst y;clear a l N;go_wp2_with fail
      go_ret2;exact⟨rfl,a6.out.pick 2 []⟩
end Go.Proofs.YteajimobgkempaaDoor

