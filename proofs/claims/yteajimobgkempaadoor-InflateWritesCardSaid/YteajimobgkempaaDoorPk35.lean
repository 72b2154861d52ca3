/- A pack. -/
import Derived.Test.YteajimobgkempaaDoorPk21
import Derived.Test.YteajimobgkempaaDoorPk29
import Derived.Test.YteajimobgkempaaDoorPk32
import Derived.Test.YteajimobgkempaaDoorPk34
set_option linter.all false
set_option maxRecDepth 100000
set_option maxHeartbeats 8000000
namespace Go.Proofs.YteajimobgkempaaDoor
variable {w0 w:World} {L:List Pr}
open Go.RowKit
theorem infoB6:(Tryd.prog.info? 70).map (fun i=>(i.zero,i.size,i.bytes))=some (some (.agg #[.int .i64 0,.bool false,.int .i64 0,.int .i64 0]),4,32):=by kernel_rfl
def DvAll (w0:World) (L:List Pr) (V:Value) (most:Nat) (T:Except Nat (Nat × List UInt8 × List PI.Blk)) (e:Ending) (w' : World):Prop :=
 ∃g:Nat,e=.returned (.pointer (some ⟨g,0,none⟩))/\match T with
 | .ok r=>∃BV:Value,Sp w0 (Sm g V r.1 r.2.1 most BV 0::Row 70 4 BV r.2.2.length (Zc r.2.2)::L) w'
 | .error er=>er≠0/\∃a o BV,Sp w0 (Sm g V a o most BV er::L) w'
def aMeas (v:Value) (g n:Nat) (w:World):Nat:=match v with
 | .bool true=>0
 | _=>vMeas g n w
theorem fix15:(∀x ∈ PI.fixedL,x<=15)/\∀x ∈ PI.fixedD,x<=15:=by decide +kernel
theorem WR {B:List Bool} {a:Nat} {r:Nat × List Nat × List Nat} (h:PI.dynamic B a=.ok r):a<=B.length->r.1<=B.length:=fun ha=>((PI.Fine.dynamic (a:=a) (o:=0)).pos B 0 ha (Nat.le_refl _) r h).2.1
theorem book15 {m:List Nat} (h:PI.book m=true):∀x ∈ m,x<=15:=by
 have a:PH.okB (castI m)=true:=h;unfold PH.okB at a;simp only [Bool.and_eq_true] at a;have b:=(PH.may_split a.1).2.2
 rwa [PI.PH.nat_cast] at b
theorem YP (g:Nat) (V:Value) (at_:Nat) (O:Value) (most:Nat) (bl:Value) (d:Nat) (hd:d≠0) (p q s t:Value) (r u:Int) (H:Sp w0 (SmB g V at_ O most bl d::L) w) :
  Calls Tryd.prog 40 #[.pointer (some ⟨g,0,none⟩),.agg #[p,q,.int .i64 r],.agg #[s,t,.int .i64 u]] w fun e w'=>e=.returned (.tuple #[])/\Sp w0 (SmB g V at_ O most bl d::L) w':=by
 have b:=((H.newBk [p,q,.int .i64 r] 101).newBk [s,t,.int .i64 u] 101).pick 3 [2];have a:=hid b;have c:=hid hd;clear H b hd;go_enter Tryd.func40,Tryd.ntmps40
 go_wp2_with fail
 go_loopw [] (fun wr=>Sp w0 (SmB g V at_ O most bl d::L) wr) (fun _=>0)
 case atStart=>exact a.out
 case round =>
  clear a;have h:wr.cell? ⟨g,5,none⟩=some (.int .i64 d):=hrel.cell 0 rfl 5;have hd:=c.out;have i:((d:Int) == 0)=false:=by rw [beq_eq_false_iff_ne]; omega
  have f : ¬ (d:Int)=0:=by omega
  have a:=hid hrel;clear hrel;go_wp2_with fail
  go_end0;exact⟨rfl,a.out⟩
theorem Wo (AA:Option Addr) (n c:Nat) (B:List UInt8) (most:Nat) (H:Sp w0 L w) (hn:n=B.length) (hnm:n<=1000000) (hm:most<=1000000) (hb:Ent L fun w=>Byt w (.slice AA n c) B) :
    Calls Tryd.prog 24 #[.slice AA n c,.int .i64 most] w (DvAll w0 L (.slice AA n c) most (PI.all (PBits.ofB B) most)):=by
  obtain⟨i0,hi,g4,g5,g6⟩:=info_parts infoB6;obtain⟨T,hT⟩:=exq (PI.all (PBits.ofB B) most);rw [hT];unfold PI.all at hT;rw [PBits.ofB_length,<- hn] at hT;have HT:=hid hT;have V:=hid hn;have HB:=hid hb;have H1:=((((H.newBk [.slice AA n c,.int .i64 0,.slice none 0 0,.int .i64 most,.slice none 0 0,.int .i64 0] 68).rowNil 70 4).rowNil 5 1));have m:=hid H1;clear H H1 hT hn hb;have km:¬ (most:Int)<0:=by omega
  go_enter Tryd.func24,Tryd.ntmps24
  go_wp2_with fail
  replace m:=m.out;generalize w.heap.size=g at m ⊢;generalize World.alloc w _=w1 at m ⊢;have N:Sp w0 (Sm g (.slice AA n c) 0 [] most (.slice none 0 0) 0::Row 70 4 (.slice none 0 0) 0 (Zc [])::L) w1:=sm_shut (O:=.slice none 0 0) (m.pick 3 [2,0,1]);have e:=hid N;clear m N
  go_loopw [6] (fun lv wr=>(∃(a f:Nat) (o:List UInt8) (bls:List PI.Blk) (BV:Value),lv=.bool false/\a<=8 * n/\o.length<=most/\bls.length<=a/\Hid (8 * n<a+f/\PI.blocks (PBits.ofB B) most f a o bls=T)/\Sp w0 (Sm g (.slice AA n c) a o most BV 0::Row 70 4 BV bls.length (Zc bls)::L) wr)
    ∨ (∃(a:Nat) (o:List UInt8) (bls:List PI.Blk) (BV:Value),lv=.bool true/\Hid (T=.ok (a,o,bls))/\Sp w0 (Sm g (.slice AA n c) a o most BV 0::Row 70 4 BV bls.length (Zc bls)::L) wr)
    ∨ (∃(er a:Nat) (o:List UInt8) (BV:Value) (lb:Bool),lv=.bool lb/\er≠0/\Hid (T=.error er)/\Sp w0 (Sm g (.slice AA n c) a o most BV er::L) wr)) (fun lv wr=>aMeas lv g n wr)
  case atStart=>exact .inl ⟨0,8 * n+1,[],[],_,rfl,Nat.zero_le _,Nat.zero_le _,Nat.zero_le _,hid ⟨by omega,HT.out⟩,e.out⟩
  case round =>
    clear e HT;rcases hrel with ⟨a,f,o,bls,BV,rfl,hat,ho,hbl,HF,H1⟩ | ⟨a,o,bls,BV,rfl,HTO,H1⟩ | ⟨er,a,o,BV,lb,rfl,her,HTE,H1⟩
    · have e0:=vMeas_live (n:=n) H1;have d0:Hid (aMeas (.bool false) g n wr=8 * n+1 - a):=hid e0;obtain⟨s,P,N,I,a0⟩:=sm_open H1;obtain⟨d,b6⟩:=exq o.length;rw [b6] at N I ho;have q:=hid b6;have c5:wr.cell? ⟨g,5,none⟩=some (.int .i64 0):=N.cell 0 rfl 5;have i7:8 * n<a+f:=HF.out.1;have b7:Hid (T=(PI.block (PBits.ofB B) most a o).bind fun r=>if r.1 then .ok (r.2.2.1,r.2.2.2,bls++[⟨r.2.1,r.1,d,r.2.2.2.length⟩]) else PI.blocks (PBits.ofB B) most (f - 1) r.2.2.1 r.2.2.2 (bls++[⟨r.2.1,r.1,d,r.2.2.2.length⟩])):=hid (by
        obtain⟨f',rfl⟩:∃f',f=f'+1:=⟨f - 1,by omega⟩;rw [<- HF.out.2,PI.blocks_step,b6];rfl)
      have HQ:=hid (vnumber_any g AA n c B a (.slice s d P) most BV 0 1 N V.out hnm (fun _=>hat) (by decide) (fun w0 w h=>HB.out w0 w h.tail2));clear HF e0 H1 N b6;go_wp2_with fail
      refine HQ.out.mono ?_;rintro _ w2 ⟨x1,a1,e1,rfl,H3,i8,e4⟩;obtain⟨lb,d1⟩:=exq (((x1:Int) == 1));have c6:(x1 == 1)=lb:=by rw [<- d1,Bool.eq_iff_iff,beq_iff_eq,beq_iff_eq]; omega
      have g7:=hid d1;have e5:=hid c6;have K1:(e1=0/\a1=a+1/\a1<=8 * n/\PI.number (PBits.ofB B) a 1=.ok (a+1,x1))∨(e1≠0/\T=.error e1):=by
        rcases e4 with ⟨h,_,h2⟩ | ⟨h,_,⟨_,h2⟩ | ⟨h2,_⟩⟩
        · obtain⟨h3,h4⟩:=PI.number_ok h2;injection h3 with h3 h5
          rw [PBits.ofB_length,<- V.out] at h4;exact .inl ⟨h,h3,by omega,by rw [h2,h3]⟩
        · refine .inr ⟨h,?_⟩;rw [b7.out];unfold PI.block;rw [h2]; rfl
        · exact absurd rfl h2
      have b8:=hid K1;have e6:=hid (vnumber_any g AA n c B a1 (.slice s d P) most BV e1 2 H3 V.out hnm (fun h=>by rcases K1 with ⟨_,_,h2,_⟩ | ⟨h2,_⟩; exact h2; exact absurd h h2) (by decide) (fun w0 w h=>HB.out w0 w h.tail2));clear HQ H3 e4 K1 d1 c6 c5;go_wp2_with fail
      refine e6.out.mono ?_;rintro _ w3 ⟨b,l,J,rfl,H4,e7,e8⟩;have i4:b<4:=e7;have K2:(J=0/\l=a+1+2/\l<=8 * n/\PI.number (PBits.ofB B) a 1=.ok (a+1,x1)/\PI.number (PBits.ofB B) (a+1) 2=.ok (a+1+2,b))∨(J≠0/\T=.error J):=by
        rcases e8 with ⟨h,h0,h2⟩ | ⟨h,_,⟨h0,h2⟩ | ⟨h0,h2⟩⟩
        · rcases b8.out with ⟨_,k2,_,k4⟩ | ⟨k,_⟩
          · obtain⟨h3,h4⟩:=PI.number_ok h2;injection h3 with h3 h5
            rw [PBits.ofB_length,<- V.out] at h4;subst k2;exact .inl ⟨h,h3,by omega,k4,by rw [h2,h3]⟩
          · exact absurd h0 k
        · rcases b8.out with ⟨_,k2,_,k4⟩ | ⟨k,_⟩
          · refine .inr ⟨h,?_⟩;rw [b7.out];unfold PI.block;subst k2;rw [k4];show((PI.number _ (a+1) 2).bind _).bind _=_;rw [h2]; rfl
          · exact absurd h0 k
        · rcases b8.out with ⟨k,_⟩ | ⟨_,k⟩
          · exact absurd k h0
          · exact .inr ⟨h,by rw [k,h2]⟩
      have a5:=hid K2;have c2:w3.cell? ⟨g,2,none⟩=some (.slice s d P):=H4.cell 0 rfl 2;have c5:w3.cell? ⟨g,5,none⟩=some (.int .i64 J):=H4.cell 0 rfl 5;have m:=hid H4;clear e6 H4 e8 K2 e7 b8;go_upto_region 9 with (fail)
      go_cut [45] from 18 to 97 (fun s45 wx=>s45=.bool (decide (J=0/\b=0))/\wx=w3)
      case first =>
        by_cases he:J=0
        · subst he;by_cases hk:b=0
          · have q1:((b:Int) == 0)=true:=by rw [beq_iff_eq]; omega
            have a6:Hid (decide ((0:Nat)=0/\b=0)=true):=hid (decide_eq_true ⟨rfl,hk⟩);replace hk:=hid hk;go_wp2_with fail
            go_meet
            exact⟨congrArg Value.bool a6.out.symm,rfl⟩
          · have q1:((b:Int) == 0)=false:=by rw [beq_eq_false_iff_ne]; omega
            have a6:Hid (decide ((0:Nat)=0/\b=0)=false):=hid (decide_eq_false (fun h=>hk h.2));replace hk:=hid hk;go_wp2_with fail
            go_meet
            exact⟨congrArg Value.bool a6.out.symm,rfl⟩
        · have q1:((J:Int) == 0)=false:=by rw [beq_eq_false_iff_ne]; omega
          have a6:Hid (decide (J=0/\b=0)=false):=hid (decide_eq_false (fun h=>he h.1));replace he:=hid he;go_wp2_with fail
          go_meet
          exact⟨congrArg Value.bool a6.out.symm,rfl⟩
      case rest =>
        obtain⟨rfl,rfl⟩:=hcut;rw [g7.out];obtain⟨bq,d2⟩:=exq (decide (J=0/\b=0));rw [d2];have b9:=hid d2;clear d2 c2 c5;go_upto_if 45 with (fail)
        go_cut [7] from 18 to 97 (fun s7 wx=>s7=.int .i64 b/\∃(a3 e3:Nat) (o3:List UInt8),Hid ((e3=0/\a<a3/\a3<=8 * n/\o3.length<=most/\PI.block (PBits.ofB B) most a o=.ok (lb,b,a3,o3))∨(e3≠0/\T=.error e3))/\Sp w0 (Sm g (.slice AA n c) a3 o3 most BV e3::Row 70 4 BV bls.length (Zc bls)::L) wx)
        case first =>
          have c0:Hid (wc.cell? ⟨g,5,none⟩=some (.int .i64 J)):=hid (m.out.cell 0 rfl 5);have c5:=c0.out;by_cases he:J=0
          · subst he;have c1:Hid (l=a+1+2/\l<=8 * n/\(∀r,PI.body (PBits.ofB B) most b l o=.ok r->PI.block (PBits.ofB B) most a o=.ok (lb,b,r.1,r.2))/\∀er,PI.body (PBits.ofB B) most b l o=.error er->T=.error er):=hid (by
              rcases a5.out with ⟨_,h1,h2,h3,h4⟩ | ⟨h,_⟩
              · refine⟨h1,h2,fun r h=>?_,fun er h=>?_⟩
                · rw [h1] at h;have h9:=PI.block_step h3 h4 h;rw [e5.out] at h9;exact h9
                · rw [h1] at h;rw [b7.out,PI.block_no h3 h4 h];rfl
              · exact absurd rfl h)
            have c3:=c1.out.2.1;have a7:=hid c1.out.2.2.1;have a8:=hid c1.out.2.2.2;clear a5 c1;by_cases W:b=0
            · obtain rfl:bq=true:=by rw [<- b9.out]; exact decide_eq_true ⟨rfl,W⟩
              have E:Sp w0 (Sm g (.slice AA n c) l o most BV 0::Row 70 4 BV bls.length (Zc bls)::L) wc:=sm_shut (O:=.slice s d P) (by rw [q.out]; exact m.out);have HS:=hid (XQ g AA n c B l o most BV E V.out hnm c3 (by rw [q.out]; exact ho) hm (fun w0 w h=>HB.out w0 w h.tail));have F:Hid (PI.body (PBits.ofB B) most b l o=PI.stored (PBits.ofB B) most l o):=hid (by unfold PI.body; rw [if_pos W]);clear E m c5 c0;go_wp2_with fail
              refine HS.out.mono ?_;intro e9 w4 G;clear HS;cases hr:PI.stored (PBits.ofB B) most l o with
              | ok r =>
                obtain⟨rfl,p⟩:=DvOut.got hr G;have t:=a7.out r (by rw [F.out,hr]);have e:=hid t;clear t hr G;go_wp2_with fail
                go_meet
                have i:=PI.block_ok (by rw [q.out]; exact ho) e.out;rw [PBits.ofB_length,<- V.out] at i;exact⟨by first | rfl | exact congrArg (Value.int .i64) (by omega),r.1,0,r.2,hid (.inl ⟨rfl,i.1,i.2.1,i.2.2.1,e.out⟩),p⟩
              | error er =>
                obtain⟨her,a3,o3,rfl,p⟩:=DvOut.bad hr G;have t:=a8.out er (by rw [F.out,hr]);have e:=hid (And.intro her t);clear t hr G her;go_wp2_with fail
                go_meet
                exact⟨by first | rfl | exact congrArg (Value.int .i64) (by omega),a3,er,o3,hid (.inr e.out),p⟩
            have a9:bq=false:=by rw [<- b9.out]; exact decide_eq_false (fun h=>W h.2)
            subst a9;by_cases d3:b=1
            · have q1:((b:Int) == 1)=true:=by rw [beq_iff_eq]; omega
              have F:Hid (PI.body (PBits.ofB B) most b l o=PI.pressed (PBits.ofB B) most PI.fixedL PI.fixedD ((PBits.ofB B).length+1) l o):=hid (by unfold PI.body; rw [if_neg W,if_pos d3]);have b0:=hid (Wh g (.slice AA n c) l (.slice s d P) most BV m.out);clear m;go_wp2_with fail
              refine b0.out.mono ?_;rintro _ w4 ⟨A1,f0,C1,b1,A2,f1,C2,b2,rfl,E⟩;have p:Sp w0 (Sm g (.slice AA n c) l o most BV 0::Row 70 4 BV bls.length (Zc bls)::Row 47 1 (.slice C1 288 b1) 288 (rowU (PH.codeAt PI.fixedL) 288)::Row 47 1 (.slice C2 32 b2) 32 (rowU (PH.codeAt PI.fixedD) 32)::Row 3 1 (.slice A1 288 f0) 288 (cellsN PI.fixedL)::Row 3 1 (.slice A2 32 f1) 32 (cellsN PI.fixedD)::L) w4:=sm_shut (O:=.slice s d P) (by rw [q.out]; exact E.pick 7 [0,5,6,1,2,3,4]);have HP:=hid (vpressed_ok g AA n c B l o most BV A1 288 f0 PI.fixedL C1 b1 A2 32 f1 PI.fixedD C2 b2 p V.out hnm c3 (by rw [q.out]; exact ho) hm (fun w0 w h=>HB.out w0 w (h.pick 5 [])) fixed_len.1.symm (by decide) fix15.1 (row_ent 3 rfl) (row_ent 1 rfl) fixed_len.2.symm (by decide) fix15.2 (row_ent 4 rfl) (row_ent 2 rfl));clear E p b0 c5 c0;go_wp2_with fail
              refine HP.out.mono ?_;intro e9 w5 G;clear HP;cases hr:PI.pressed (PBits.ofB B) most PI.fixedL PI.fixedD ((PBits.ofB B).length+1) l o with
              | ok r =>
                obtain⟨rfl,p⟩:=DvOut.got hr G;have t:=a7.out r (by rw [F.out,hr]);have e:=hid t;have R:=hid (p.pick 6 [0,1]);clear t hr G p;go_wp2_with fail
                go_meet
                have i:=PI.block_ok (by rw [q.out]; exact ho) e.out;rw [PBits.ofB_length,<- V.out] at i;exact⟨by first | rfl | exact congrArg (Value.int .i64) (by omega),r.1,0,r.2,hid (.inl ⟨rfl,i.1,i.2.1,i.2.2.1,e.out⟩),R.out⟩
              | error er =>
                obtain⟨her,a3,o3,rfl,p⟩:=DvOut.bad hr G;have t:=a8.out er (by rw [F.out,hr]);have e:=hid (And.intro her t);have R:=hid (p.pick 6 [0,1]);clear t hr G her p;go_wp2_with fail
                go_meet
                exact⟨by first | rfl | exact congrArg (Value.int .i64) (by omega),a3,er,o3,hid (.inr e.out),R.out⟩
            have q1:((b:Int) == 1)=false:=by rw [beq_eq_false_iff_ne]; omega
            by_cases f2:b=2
            · have q2:((b:Int) == 2)=true:=by rw [beq_iff_eq]; omega
              have F:Hid (PI.body (PBits.ofB B) most b l o=(PI.dynamic (PBits.ofB B) l).bind fun r=>PI.pressed (PBits.ofB B) most r.2.1 r.2.2 ((PBits.ofB B).length+1) r.1 o):=hid (by unfold PI.body; rw [if_neg W,if_neg d3,if_pos f2]);have b0:=hid (vdyn_ok g AA n c B l (.slice s d P) most BV m.out V.out hnm c3 (fun w0 w h=>HB.out w0 w h.tail2));clear m;go_wp2_with fail
              refine b0.out.mono ?_;intro e9 w4 G;clear b0 c5 c0;cases hr:PI.dynamic (PBits.ofB B) l with
              | error er =>
                rw [hr] at G;obtain⟨her,a3,p1,p2,p3,p4,p5,p6,rfl,E⟩:=G;have t:=a8.out er (by rw [F.out,hr]; rfl);have e:=hid (And.intro her t);have HP:=hid (YP g (.slice AA n c) a3 (.slice s d P) most BV er her p1 p2 p4 p5 p3 p6 E);clear t hr her E;go_wp2_with fail
                refine HP.out.mono ?_;rintro _ w5 ⟨rfl,p⟩;have U:Sp w0 (Sm g (.slice AA n c) a3 o most BV er::Row 70 4 BV bls.length (Zc bls)::L) w5:=sm_shut (O:=.slice s d P) (by rw [q.out]; exact p);have b3:=hid U;clear p U HP;go_wp2_with fail
                go_meet
                exact⟨by first | rfl | exact congrArg (Value.int .i64) (by omega),a3,er,o,hid (.inr e.out),b3.out⟩
              | ok r =>
                rw [hr] at G;obtain⟨LA,lc,C1,b1,C2,b2,rfl,E⟩:=G;have S:=PI.dynamic_ok hr;have d4:=WR hr;obtain⟨a3,md,dd⟩:=r;simp only at E S d4 ⊢;obtain⟨n1,M⟩:=exq md.length;obtain⟨n2,b4⟩:=exq dd.length;rw [M,b4] at E ⊢;rw [M,b4] at S;have f3:=book15 S.1;have f4:=book15 S.2.1;have g8:=S.2.2.1;have h6:=S.2.2.2;have f5:a3<=8 * n:=by have:=d4 (by rw [PBits.ofB_length,<- V.out]; exact c3); rw [PBits.ofB_length,<- V.out] at this; exact this
                have f6:∀w,Rd w (some LA) (cellsN (md++dd))->Rd w (some LA) (cellsN md):=fun w h=>by
                  have:=rd_take h n1;unfold cellsN at this ⊢
                  rwa [List.map_append,List.take_append_of_le_length (by rw [List.length_map,M]; exact Nat.le_refl _),List.take_of_length_le (by rw [List.length_map,M]; exact Nat.le_refl _)] at this
                have f7:∀w,Rd w (some LA) (cellsN (md++dd))->Rd w (some (LA.add n1)) (cellsN dd):=fun w h=>by
                  have:=h.part n1 n2;unfold cellsN at this ⊢;rw [List.map_append,List.drop_append_of_le_length (by rw [List.length_map,M]; exact Nat.le_refl _),List.drop_of_length_le (by rw [List.length_map,M]; exact Nat.le_refl _),List.nil_append,List.take_of_length_le (by rw [List.length_map,b4]; exact Nat.le_refl _)] at this;exact this
                have p:Sp w0 (Sm g (.slice AA n c) a3 o most BV 0::Row 70 4 BV bls.length (Zc bls)::Row 47 1 (.slice C1 n1 b1) n1 (rowU (PH.codeAt md) n1)::Row 47 1 (.slice C2 n2 b2) n2 (rowU (PH.codeAt dd) n2)::Row 3 1 (.slice (some LA) (n1+n2) lc) (n1+n2) (cellsN (md++dd))::L) w4:=sm_shut (O:=.slice s d P) (by rw [q.out]; exact E.pick 6 [0,4,5,1,2,3]);have HP:=hid (vpressed_ok g AA n c B a3 o most BV (some LA) n1 lc md C1 b1 (some (LA.add n1)) n2 (lc - n1) dd C2 b2 p V.out hnm f5 (by rw [q.out]; exact ho) hm (fun w0 w h=>HB.out w0 w (h.pick 4 [])) M.symm g8 f3 (fun w0 w h=>f6 _ (row_ent 3 rfl w0 w h)) (row_ent 1 rfl) b4.symm h6 f4 (fun w0 w h=>f7 _ (row_ent 3 rfl w0 w h)) (row_ent 2 rfl));have c7:Hid (PI.body (PBits.ofB B) most b l o=PI.pressed (PBits.ofB B) most md dd ((PBits.ofB B).length+1) a3 o):=hid (by rw [F.out,hr]; rfl);clear E p hr S d4 M b4 f3 f4 f6 f7 F;go_wp2_with fail
                refine HP.out.mono ?_;intro e9 w5 G;clear HP;cases hr:PI.pressed (PBits.ofB B) most md dd ((PBits.ofB B).length+1) a3 o with
                | ok r =>
                  obtain⟨rfl,p⟩:=DvOut.got hr G;have t:=a7.out r (by rw [c7.out,hr]);have e:=hid t;have R:=hid (p.pick 5 [0,1]);clear t hr G p;go_wp2_with fail
                  go_meet
                  have i:=PI.block_ok (by rw [q.out]; exact ho) e.out;rw [PBits.ofB_length,<- V.out] at i;exact⟨by first | rfl | exact congrArg (Value.int .i64) (by omega),r.1,0,r.2,hid (.inl ⟨rfl,i.1,i.2.1,i.2.2.1,e.out⟩),R.out⟩
                | error er =>
                  obtain⟨her,a4,o3,rfl,p⟩:=DvOut.bad hr G;have t:=a8.out er (by rw [c7.out,hr]);have e:=hid (And.intro her t);have R:=hid (p.pick 5 [0,1]);clear t hr G her p;go_wp2_with fail
                  go_meet
                  exact⟨by first | rfl | exact congrArg (Value.int .i64) (by omega),a4,er,o3,hid (.inr e.out),R.out⟩
            · have q2:((b:Int) == 2)=false:=by rw [beq_eq_false_iff_ne]; omega
              have t:=a8.out 20 (by unfold PI.body; rw [if_neg W,if_neg d3,if_neg f2]);have e:=hid t;have HF:=hid (vfail_ok g (.slice AA n c) l (.slice s d P) most BV 20 m.out);clear t m;go_wp2_with fail
              refine HF.out.mono ?_;rintro _ w4 ⟨rfl,E⟩;have U:Sp w0 (Sm g (.slice AA n c) l o most BV 20::Row 70 4 BV bls.length (Zc bls)::L) w4:=sm_shut (O:=.slice s d P) (by rw [q.out]; exact E);have b3:=hid U;clear E U HF;go_wp2_with fail
              go_meet
              exact⟨rfl,l,20,o,hid (.inr ⟨by decide,e.out⟩),b3.out⟩
          · have q1:((J:Int) == 0)=false:=by rw [beq_eq_false_iff_ne]; omega
            have a9:bq=false:=by rw [<- b9.out]; exact decide_eq_false (fun h=>he h.1)
            subst a9;have e:Hid (J≠0/\T=.error J):=by
              rcases a5.out with ⟨h,_⟩ | h
              · exact absurd h he
              · exact hid h
            have HF:=hid (Zx g (.slice AA n c) l (.slice s d P) most BV 20 J he m.out);replace he:=hid he;clear m a5;go_wp2_with fail
            refine HF.out.mono ?_;rintro _ w4 ⟨rfl,E⟩;have U:Sp w0 (Sm g (.slice AA n c) l o most BV J::Row 70 4 BV bls.length (Zc bls)::L) w4:=sm_shut (O:=.slice s d P) (by rw [q.out]; exact E);have b3:=hid U;clear E U HF;go_wp2_with fail
            go_meet
            exact⟨rfl,l,J,o,hid (.inr e.out),b3.out⟩
        case rest =>
          obtain⟨rfl,a3,e3,o3,d5,p⟩:=hcut;clear m a5 b9;obtain⟨s,X,U,I,a0⟩:=sm_open p;obtain⟨C,d6⟩:=exq o3.length;rw [d6] at U I;obtain⟨BA,bc,rfl,f8,i5⟩:=Row.form U 2 rfl;obtain⟨Q,d7⟩:=exq bls.length;rw [d7] at U f8 hbl;have f9:=hid d6;have h7:=hid d7;have m:=hid (U.pick 3 [2,0,1]);clear p U d6 d7;go_upto_region 16 with (fail)
          refine wp_region_sc (L:=Row 5 1 (.slice s C X) C (cells8 o3)::L) [some (.pointer (some ⟨g,0,none⟩)),some (.pointer (some ⟨g,0,none⟩)),some (.pointer (some ⟨g,0,none⟩)),some (.pointer (some ⟨g,4,none⟩)),some (.slice BA Q bc),some (.int .i64 b),some (.bool lb),some (.int .i64 d),some (.pointer (some ⟨g,0,none⟩)),some (.pointer (some ⟨g,0,none⟩)),some (.pointer (some ⟨g,2,none⟩)),some (.slice s C X),some (.int .i64 C),some (.agg #[.int .i64 b,.bool lb,.int .i64 d,.int .i64 C]),none,none,some (.pointer (some ⟨g,0,none⟩)),some (.pointer (some ⟨g,4,none⟩)),some (undef)] (fun ix vx=>match ix with | 14=>(fun vv=>vv=.slice (some ⟨vv.ownBlock.getD 0,0,none⟩) 1 1) vx | 15=>(fun _=>True) vx | _=>True) (fun ix vx=>match ix with | 14=>(fun vv=>[Bk (vv.ownBlock.getD 0) 70 [.int .i64 b,.bool lb,.int .i64 d,.int .i64 C]]) vx | 15=>(fun vv=>[Row 70 4 vv (Q+1) (Zc bls++[.int .i64 b,.bool lb,.int .i64 d,.int .i64 C])]) vx | 18=>(fun _=>[Ex fun BW:Value=>Star (SmB g (.slice AA n c) a3 (.slice s C X) most BW e3) (Row 70 4 BW (Q+1) (Zc bls++[.int .i64 b,.bool lb,.int .i64 d,.int .i64 C]))]) vx | _=>[]) (fun ix=>match ix with | 15=>[Row 70 4 (.slice BA Q bc) Q (Zc bls)] | 18=>[SmB g (.slice AA n c) a3 (.slice s C X) most (.slice BA Q bc) e3] | _=>[]) 19 99
            [some 80,some 81,some 82,some 83,some 84,some 85,some 86,some 87,some 88,some 89,some 90,some 91,some 92,some 93,some 94,some 95,some 96,some 97,none]
            [[],[],[1],[2],[3],[],[],[],[],[8],[9],[10],[11],[5,6,7,12],[13],[4,14],[0,0,1,2,3,4,5,6,7,8,9,10,11,12,13,14,15],[16,0,1,2,3,4,5,6,7,8,9,10,11,12,13,14,15],[17,15,15,0,1,2,3,4,5,6,7,8,9,10,11,12,13,14,15]]
            [[],[],[1],[1,2],[1,2,3],[],[],[],[],[8],[8,9],[8,9,10],[8,9,10,11],[5,6,7,8,9,10,11,12],[5,6,7,8,9,10,11,12,13],[1,2,3,4,5,6,7,8,9,10,11,12,13,14],[0,1,2,3,4,5,6,7,8,9,10,11,12,13,14,15],[0,1,2,3,4,5,6,7,8,9,10,11,12,13,14,15,16],[0,1,2,3,4,5,6,7,8,9,10,11,12,13,14,15,16,17]]
            [[],[],[],[],[],[],[],[],[],[],[],[],[],[],[],[14],[],[],[15]] [[],[],[],[],[18],[],[],[],[],[],[],[18],[],[],[],[],[],[],[]] [(5,.pointer (some ⟨g,0,none⟩)),(6,.bool lb),(7,.int .i64 b),(8,.int .i64 d)]
            (by kernel_rfl) rfl (by decide) (by rfl) (by decide +kernel) rfl rfl (by simp) (m.out) ?hstep ?hend
          case hstep =>
            refine⟨?p0,⟨?p1,⟨?p2,⟨?p3,⟨?p4,⟨?p5,⟨?p6,⟨?p7,⟨?p8,⟨?p9,⟨?p10,⟨?p11,⟨?p12,⟨?p13,⟨?p14,⟨?p15,⟨?p16,⟨?p17,⟨?p18,trivial⟩⟩⟩⟩⟩⟩⟩⟩⟩⟩⟩⟩⟩⟩⟩⟩⟩⟩⟩
            case p0 | p1 | p2 | p3 | p5 | p6 | p7 | p8 | p9 | p10 | p12 | p13 | p16 | p17 =>
              intro x wx A rest y hF D hE H K Y;replace Y:=hid Y;clear D hE y;repeat (obtain⟨_,hF⟩:=hF)
              refine so ?_;go_step;exact Y.out _ _ rfl H
            case p4 =>
              intro x wx A rest y hF D hE H K j;have i9:=tq D 3;replace H:Sp w0 (_::rest) wx:=H;have Y:=hid j;clear j hF D hE y;have c9:wx.cell? ⟨g,4,none⟩=some (.slice BA Q bc):=H.cell 0 rfl 4;refine so ?_;go_step;exact Y.out _ _ rfl H
            case p11 =>
              intro x wx A rest y hF D hE H K j;have j0:=tq D 10;replace H:Sp w0 (_::rest) wx:=H;have Y:=hid j;clear j hF D hE y;have c9:wx.cell? ⟨g,2,none⟩=some (.slice s C X):=H.cell 0 rfl 2;refine so ?_;go_step;exact Y.out _ _ rfl H
            case p14 =>
              intro x wx A rest y hF D hE H K j;have j1:=tq D 13;have Y:=hid j;clear j hF D hE y;refine so ?_;go_step;exact Y.out _ _ rfl (H.newBk _ _)
            case p15 =>
              intro x wx A rest y hF D hE H K j;have h8:=tq D 4;have i1:(x 14)=.slice (some ⟨(x 14).ownBlock.getD 0,0,none⟩) 1 1:=(D 14 (by decide)).1;have d8:=(D 14 (by decide)).2 94 rfl;replace H:Sp w0 (_::(Bk ((x 14).ownBlock.getD 0) 70 [.int .i64 b,.bool lb,.int .i64 d,.int .i64 C])::rest) wx:=H;have Y:Hid (∀(v:Value) (w' : World),(True)->Sp w0 ((Row 70 4 v (Q+1) (Zc bls++[.int .i64 b,.bool lb,.int .i64 d,.int .i64 C]))::rest) w'->K (A.put (some 95) v) w'):=hid j;clear j hF D hE y;obtain⟨g9,e9⟩:=exq ((x 14).ownBlock.getD 0);rw [i1] at d8;rw [e9] at d8 H;have j2:maxLen=9223372036854775807:=rfl;refine so ?_;refine Zi _ _ 66 rfl 70 i0 (.agg #[.int .i64 0,.bool false,.int .i64 0,.int .i64 0]) 4 32 Tryd.underlying66 hi g4 g5 g6 rfl (by decide) (.slice BA Q bc) Q (Zc bls) (ev h8) H (some ⟨g9,0,none⟩) 1 1 [.int .i64 b,.bool lb,.int .i64 d,.int .i64 C] (ev d8) rfl (Rd.of_blk (H.blk 1 rfl)) (by intro u hu; simp only [List.mem_cons,List.mem_nil_iff,or_false] at hu; rcases hu with rfl | rfl | rfl | rfl <;> rfl) (by omega) (by omega) ?_
              intro v1 w2 N _;exact Y.out _ _ trivial N.swap.tail
            case p18 =>
              intro x wx A rest y hF D hE H K j;have j3:=tq D 17;have j4:True:=(D 15 (by decide)).1;have i2:=(D 15 (by decide)).2 95 rfl;replace H:Sp w0 (_::(Row 70 4 (x 15) (Q+1) (Zc bls++[.int .i64 b,.bool lb,.int .i64 d,.int .i64 C]))::rest) wx:=H;have Y:=hid j;clear j hF D hE y;have c:wx.cell? ⟨g,4,none⟩=some (.slice BA Q bc):=H.cell 0 rfl 4;have z:wx.frozen? ⟨g,4,none⟩=false:=H.frozen 0 rfl 4;obtain⟨A1,c9,ea,_,_⟩:=Row.form H 1 rfl;refine so ?_;rw [ea] at i2 H;go_step;exact Y.out _ _ rfl (Sp.ex (.slice A1 (Q+1) c9) (Sp.star (H.set 4 (.slice A1 (Q+1) c9))))
          case hend =>
            intro x wx A hA D H;replace H:Sp w0 (_::_::L) wx:=H;clear D;simp only [putAll,Act.put,List.setIfInBounds_toArray,List.set_cons_succ,List.set_cons_zero,Nat.reduceAdd] at hA;subst hA;obtain⟨BW,H⟩:=H.unex;replace H:=H.unstar;have ec:Zc (bls++[⟨b,lb,d,C⟩])=(Zc bls++[.int .i64 b,.bool lb,.int .i64 d,.int .i64 C]):=by simp [Zc]
            rw [<- ec] at H;have g0:=hid (H.pick 3 [0,2,1]);clear H m ec;have g1:Sp w0 (Sm g (.slice AA n c) a3 o3 most BW e3::Row 70 4 BW (Q+1) (Zc (bls++[⟨b,lb,d,C⟩]))::L) wx:=sm_shut (O:=.slice s C X) (by rw [f9.out]; exact g0.out);have e:=hid g1;clear g0 g1;have c8:(bls++[(⟨b,lb,d,C⟩:PI.Blk)]).length=Q+1:=by rw [List.length_append,h7.out]; rfl
            have b5:=hid c8;clear c8;by_cases c4:e3=0
            · subst c4;have d9:Hid (a<a3/\a3<=8 * n/\o3.length<=most/\PI.block (PBits.ofB B) most a o=.ok (lb,b,a3,o3)):=by
                rcases d5.out with ⟨_,h⟩ | ⟨h,_⟩
                · exact hid h
                · exact absurd rfl h
              obtain⟨i6,g2,i3,_⟩:=d9.out;have Z:=b7.out;rw [d9.out.2.2.2] at Z;replace Z:T=if lb=true then .ok (a3,o3,bls++[⟨b,lb,d,o3.length⟩]) else PI.blocks (PBits.ofB B) most (f - 1) a3 o3 (bls++[⟨b,lb,d,o3.length⟩]):=Z;rw [f9.out] at Z;have g3:=hid Z;clear Z d5 d9;cases lb with
              | true =>
                go_wp2_with fail
                go_roundw
                case rel=>exact .inr (.inl ⟨a3,o3,bls++[⟨b,true,d,C⟩],BW,rfl,hid (by rw [g3.out,if_pos rfl]),by rw [b5.out]; exact e.out⟩)
                case measure =>
                  rw [d0.out];show 0<_;omega
              | false =>
                go_wp2_with fail
                go_roundw
                case rel=>exact .inl ⟨a3,f - 1,o3,bls++[⟨b,false,d,C⟩],BW,rfl,g2,i3,by rw [b5.out]; omega,hid ⟨by omega,by rw [g3.out,if_neg (by decide)]⟩,by rw [b5.out]; exact e.out⟩
                case measure =>
                  rw [d0.out];show vMeas g n _<_;rw [vMeas_live e.out];omega
            · have HTE:Hid (e3≠0/\T=.error e3):=by
                rcases d5.out with ⟨h,_⟩ | h
                · exact absurd h c4
                · exact hid h
              replace c4:=hid c4;go_wp2_with fail
              go_roundw
              case rel=>exact .inr (.inr ⟨e3,a3,o3,BW,lb,rfl,HTE.out.1,hid HTE.out.2,e.out.pick 2 [0]⟩)
              case measure =>
                rw [d0.out];have h9:=vMeas_dead (n:=n) HTE.out.1 e.out;cases lb with
                | true=>show 0<_; omega
                | false=>show vMeas g n _<_; rw [h9]; omega
    · obtain⟨s,P,N,I,a0⟩:=sm_open H1;have m:=hid (sm_shut N);clear H1 N;go_wp2_with fail
      go_ret;refine⟨g,rfl,?_⟩;rw [HTO.out];exact⟨BV,m.out⟩
    · obtain⟨s,P,N,I,a0⟩:=sm_open H1;have c5:wr.cell? ⟨g,5,none⟩=some (.int .i64 er):=N.cell 0 rfl 5;have ke:((er:Int) == 0)=false:=by rw [beq_eq_false_iff_ne]; omega
      have j5:¬ (er:Int)=0:=by omega
      have m:=hid (sm_shut N);have HE:=hid her;clear H1 N her;cases lb with
      | true =>
        go_wp2_with fail
        go_ret;refine⟨g,rfl,?_⟩;rw [HTE.out];exact⟨HE.out,a,o,BV,m.out⟩
      | false =>
        go_wp2_with fail
        go_ret;refine⟨g,rfl,?_⟩;rw [HTE.out];exact⟨HE.out,a,o,BV,m.out⟩
end Go.Proofs.YteajimobgkempaaDoor

