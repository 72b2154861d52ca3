/- A pack. -/
import Derived.Test.YtnjpnmpemhldcaaGreatDoorPk48
set_option linter.all false
set_option maxRecDepth 100000
set_option maxHeartbeats 8000000
namespace Go.Proofs.YtnjpnmpemhldcaaGreatDoor
variable {w0 w:World} {L:List Pr}
open Go.ChangeShapes Go.WideShapes Go.ChangeAt Go.RowKit
def tabZ:List Int:=PCrc.tab.map fun n:Nat=>(n:Int)
theorem gTab : Tryz.prog.globalNamed "portolan/crc.table" = some 4 := by kernel_rfl
theorem tTab:(Tryz.prog.globals[4]?).map (·.type)=some 237:=by kernel_rfl
theorem WY {W : World} {rest : List (String × DataW Unit)} (h : laidMet Tryz.prog (("portolan/crc.table", Rows.laid_portolan_crc_table) :: rest) W) : CrcTab W := by
 have hT:=Lib.tabIs_of_head (k:=.u32) (zs:=tabZ) gTab tTab Tryz.underlying237 Tryz.underlying26 (by kernel_rfl) (by kernel_rfl) h;intro i hi;have:=hT.cell gTab i (by simpa [tabZ,PCrc.tab] using hi);rw [this];have:∀i,i<16->tabZ.getD i 0=((PCrc.tab.getD i 0:Nat):Int):=by decide
 rw [this i hi]
open Go.RowKit
theorem TN:PG.put hd0 []=[31,139,8,0,0,0,0,0,0,0,3,0,0,0,0,0,0,0,0,0]:=by
 unfold PG.put;rw [show PD.defl []=[3,0] from PD.row_nil];decide +kernel
theorem V4 (most:Nat):PG.get [31,140] most=.error 5:=by
 unfold PG.get;rw [show PG.head [31,140]=.error 5 by unfold PG.head; rw [if_pos (by decide)]; rfl]
theorem UX:PG.Ok hd0:=by decide
theorem V7 {TL TA:Option Addr} {cl ca:Nat} {DL DF:Option Addr} {dl df:Nat} (H:Sp w0 L w) (hct:Ent L CrcTab) (hT:Ent L (Tabs TL TA cl ca)) (hD:Ent L (DTabs DL DF dl df)) :
  Calls Tryz.prog 14 #[] w fun e w'=>e=.returned (.bool true)/\Sp w0 L w':=by
 have b:=VQ hd0 none 0 0 none 0 0 H rfl UX (by decide) (fun _ w _=>Byt.nil w) hct hD [] rfl (by decide) (Nat.le_refl _) (by decide) (fun _ w _=>Byt.nil w);rw [TN] at b;have h:Hid (Calls Tryz.prog 9 #[.agg #[.int .u8 0,.int .u8 0,.int .u8 0,.int .u32 0,.slice none 0 0,.string ⟨#[]⟩,.string ⟨#[]⟩],.slice none 0 0] w fun e w'=>∃v,e=.returned (.tuple #[v,.int .i64 0])/\Sp w0 (Row 5 1 v 20 (cells8 [31,139,8,0,0,0,0,0,0,0,3,0,0,0,0,0,0,0,0,0])::L) w'):=hid b;have c:=hid hct;have o:=hid hT;clear b hct hT hD H;go_enter Tryz.func14,Tryz.ntmps14
 go_wp2_with fail
 refine h.out.mono ?_;rintro _ p ⟨u,rfl,d⟩;clear h;obtain⟨i,j,rfl,_,_⟩:=Row.form d 0 rfl;have k:=d.newBk [.int .u8 31,.int .u8 140] 5;have f:=YN (some ⟨p.heap.size,0,none⟩) 2 2 [31,140] 9 k (fun _ _ q=>⟨_,2,rfl,Rd.of_blk (q.blk 0 rfl),Nat.le_refl _,by decide⟩) (fun _ _ q=>c.out _ _ (q.pick 2 [])) (fun _ _ q=>o.out _ _ (q.pick 2 [])) rfl (by decide) (by decide) (by decide) (by decide);rw [V4] at f;have l:=hid f;clear f d k;go_wp2_with fail
 refine l.out.mono ?_;intro x r s;obtain⟨rfl,m⟩:_/\_:=s;clear l;have n:=hid m.tail;have g:=n.out.newBk [.int .u8 0,.int .u8 0,.int .u8 0,.int .u32 0,.slice none 0 0,.string ⟨#[]⟩,.string ⟨#[]⟩] 28;have a:Byt (r.alloc (.cells #[.int .u8 0,.int .u8 0,.int .u8 0,.int .u32 0,.slice none 0 0,.string ⟨#[]⟩,.string ⟨#[]⟩] 28)) (.slice i 20 j) [31,139,8,0,0,0,0,0,0,0,3,0,0,0,0,0,0,0,0,0]:=g.row_byt 1 rfl;have rs:=run_str (P:=Tryz.prog) _ 23 9 5 (.slice i 20 j) _ Tryz.underlying23 Tryz.underlying5 Tryz.underlying9 a
 have y:(strOf [31,139,8,0,0,0,0,0,0,0,3,0,0,0,0,0,0,0,0,0]).toList=[31,139,8,0,0,0,0,0,0,0,3,0,0,0,0,0,0,0,0,0]:=ZJ _;have t:=hid (g.pick 2 []);clear a g m n;go_wp2_with fail
 trace_state
 go_ret;exact⟨rfl,t.out⟩
theorem GEnd.got {w0:World} {T:Except Nat (PG.Hd × List UInt8 × Nat)} {hd:PG.Hd} {out:List UInt8} {a:Nat} (h:T=.ok (hd,out,a)) {e:Ending} {w' : World} (k:GEnd w0 L T e w'):∃A ce OA oc,e=.returned (.tuple #[.agg #[.int .u8 hd.flags.toNat,.int .u8 hd.level.toNat,.int .u8 hd.system.toNat,.int .u32 hd.time,.slice A hd.extra.length ce,.string (strOf hd.name),.string (strOf hd.note)],.slice OA out.length oc,.int .i64 a,.int .i64 0])/\Sp w0 (Row 5 1 (.slice OA out.length oc) out.length (cells8 out)::Row 5 1 (.slice A hd.extra.length ce) hd.extra.length (cells8 hd.extra)::L) w':=by
 subst h; exact k
theorem GEnd.bad {w0:World} {T:Except Nat (PG.Hd × List UInt8 × Nat)} {c:Nat} (h:T=.error c) {e:Ending} {w' : World} (k:GEnd w0 L T e w'):e=.returned (.tuple #[.agg #[.int .u8 0,.int .u8 0,.int .u8 0,.int .u32 0,.slice none 0 0,.string ⟨#[]⟩,.string ⟨#[]⟩],.slice none 0 0,.int .i64 0,.int .i64 c])/\Sp w0 L w':=by
 subst h; exact k
namespace PG
theorem get_used {B:List UInt8} {most:Nat} {hd:Hd} {out:List UInt8} {u:Nat} (h:get B most=.ok (hd,out,u)):8<=u/\u<=B.length/\out.length<=most:=by
 unfold get at h;cases h1:head B with
 | error e=>rw [h1] at h; cases h
 | ok r =>
  rw [h1] at h;simp only at h;cases h2:PI.all (PBits.ofB (B.drop r.2)) most with
  | error e=>rw [h2] at h; cases h
  | ok a =>
   rw [h2] at h;simp only at h;split at h
   ·cases h
   ·rename_i h3
    injection h with h
    injection h with _ h
    injection h with ho hu
    have c:=PI.all_pos h2;have b:8<=(B.drop (r.2+(a.1+7) / 8)).length:=by
     unfold ends at h3;rw [<- Nat.not_lt];intro q;rw [if_pos q] at h3;exact h3 (by decide)
    rw [List.length_drop] at b;rw [<- ho,<- hu];omega
theorem get_err {B:List UInt8} {most e:Nat} (h:get B most=.error e):e≠0:=by
 unfold get at h;cases h1:head B with
 | error c=>rw [h1] at h; injection h with h; rw [<- h]; exact Wp B c h1
 | ok r =>
  rw [h1] at h;simp only at h;cases h2:PI.all (PBits.ofB (B.drop r.2)) most with
  | error c=>rw [h2] at h; injection h with h; have:=PI.all_err h2; omega
  | ok a =>
   rw [h2] at h;simp only at h;split at h
   ·rename_i h3
    injection h with h
    rw [<- h]; exact h3
   ·cases h
theorem get_nil (most:Nat):get [] most=.error 4:=rfl
end PG
namespace PG
abbrev Sp4:=Nat × Nat × Nat × Nat
def loop (B:List UInt8) (most:Nat):Nat->Nat->List UInt8->List Sp4->Except Nat (List UInt8 × List Sp4)
 | 0,_,_,_=>.error 0
 | f+1,a,out,sp=>if a<B.length∨a=0 then
   match get (B.drop a) (most - out.length) with
   | .error e=>.error e
   | .ok r=>loop B most f (a+r.2.2) (out++r.2.1) (sp++[(a,a+r.2.2,out.length,out.length+r.2.1.length)])
  else .ok (out,sp)
def all (B:List UInt8) (most:Nat):Except Nat (List UInt8 × List Sp4):=loop B most (B.length+2) 0 [] []
abbrev Mem:=Hd × List UInt8
def W (l:List Mem):List UInt8:=l.flatMap fun x=>put x.1 x.2
def O (l:List Mem):List UInt8:=l.flatMap fun x=>x.2
def Good (x:Mem):Prop:=Ok x.1/\x.1.time<4294967296/\x.2.length<4294967296
end PG
open Go.RowKit Go.Deep
namespace PG
theorem loop_go {B:List UInt8} {most f a:Nat} {out:List UInt8} {sp:List Sp4} (h:a<B.length∨a=0):loop B most (f+1) a out sp=match get (B.drop a) (most - out.length) with
   | .error e=>.error e
   | .ok r=>loop B most f (a+r.2.2) (out++r.2.1) (sp++[(a,a+r.2.2,out.length,out.length+r.2.1.length)]):=by
 show(if a<B.length∨a=0 then _ else _)=_;rw [if_pos h] <;> rfl
theorem loop_end {B:List UInt8} {most f a:Nat} {out:List UInt8} {sp:List Sp4} (h:¬ (a<B.length∨a=0)):loop B most (f+1) a out sp=.ok (out,sp):=by
 show(if a<B.length∨a=0 then _ else _)=_;rw [if_neg h]
end PG
def spC (x:PG.Sp4):List Value:=[.int .i64 x.1,.int .i64 x.2.1,.int .i64 x.2.2.1,.int .i64 x.2.2.2]
def spV (l:List PG.Sp4):List Value:=l.flatMap spC
theorem TO (l:List PG.Sp4) (x:PG.Sp4):spV (l++[x])=spV l++spC x:=by unfold spV; simp
theorem TP (x:PG.Sp4):∀u ∈ spC x,u.oneCell'=true:=by
 intro u a;simp only [spC,List.mem_cons,List.not_mem_nil,or_false] at a;rcases a with rfl | rfl | rfl | rfl <;> rfl
theorem infoSpan:(Tryz.prog.info? 44).map (fun i=>(i.zero,i.size,i.bytes))=some (some (.agg #[.int .i64 0,.int .i64 0,.int .i64 0,.int .i64 0]),4,32):=by kernel_rfl
def LEnd (w0:World) (L:List Pr) (T:Except Nat (List UInt8 × List PG.Sp4)) (e:Ending) (w' : World):Prop :=
 match T with
 | .error c=>e=.returned (.tuple #[.slice none 0 0,.slice none 0 0,.int .i64 c])/\Sp w0 L w'
 | .ok r=>∃A ca S cs,e=.returned (.tuple #[.slice A r.1.length ca,.slice S r.2.length cs,.int .i64 0])/\Sp w0 (Row 5 1 (.slice A r.1.length ca) r.1.length (cells8 r.1)::Row 44 4 (.slice S r.2.length cs) r.2.length (spV r.2)::L) w'
theorem LEnd.no {w0:World} {T:Except Nat (List UInt8 × List PG.Sp4)} {c:Nat} (h:T=.error c) {w' : World} (H:Sp w0 L w'):LEnd w0 L T (.returned (.tuple #[.slice none 0 0,.slice none 0 0,.int .i64 c])) w':=by
 subst h; exact⟨rfl,H⟩
theorem LEnd.yes {w0:World} {T:Except Nat (List UInt8 × List PG.Sp4)} {out:List UInt8} {sp:List PG.Sp4} {A S:Option Addr} {on oc sn sc:Nat} (h:T=.ok (out,sp)) (ho:out.length=on) (hs:sp.length=sn) {w' : World} (H:Sp w0 (Row 5 1 (.slice A on oc) on (cells8 out)::Row 44 4 (.slice S sn sc) sn (spV sp)::L) w'):LEnd w0 L T (.returned (.tuple #[.slice A on oc,.slice S sn sc,.int .i64 0])) w':=by
 subst h ho hs; exact⟨A,oc,S,sc,rfl,H⟩
theorem UK (v:Value) (m:Int) (H:Sp w0 L w) (hm:m<0) :
  Calls Tryz.prog 13 #[v,.int .i64 m] w fun e w'=>e=.returned (.tuple #[.slice none 0 0,.slice none 0 0,.int .i64 1])/\Sp w0 L w':=by
 have a:=hid H;clear H;go_enter Tryz.func13,Tryz.ntmps13
 go_wp2_with fail
 go_ret3
 exact⟨rfl,a.out⟩
theorem X0 (BA:Option Addr) (n c:Nat) (B:List UInt8) (most:Nat) {TL TA:Option Addr} {cl ca:Nat} (H:Sp w0 L w) (hb:Ent L fun w=>Byt w (.slice BA n c) B) (hct:Ent L CrcTab) (hT:Ent L (Tabs TL TA cl ca)) (hn:B.length=n) (hnm:n<=100000000) (hm:most<=1000000000) (hcn:n<=c) (hcm:c<=maxLen) :
  Calls Tryz.prog 13 #[.slice BA n c,.int .i64 most] w (LEnd w0 L (PG.all B most)):=by
 obtain⟨i0,hi,a0,a1,a3⟩:=info_parts info8;obtain⟨j0,gi,a4,a5,a6⟩:=info_parts infoSpan;obtain⟨T,m⟩:=exq (PG.all B most);rw [m];have h0:PG.loop B most (n+2) 0 [] []=T:=by rw [<- m,<- hn]; rfl
 have F:=hid h0;have HB:=hid hb;have G:=hid hct;have I:=hid hT;have J:=hid hn;have K:=hid hcm;have HX:=hid ((H.rowNil 44 4).rowNil 5 1);clear m h0 hb hct hT hn hcm H;have k0:¬ (most:Int)<0:=by omega
 go_enter Tryz.func13,Tryz.ntmps13
 go_wp2_with fail
 clear k0;go_loopw [4,5,7] (fun ov sv av wr=>∃(a f on oc sn sc:Nat) (out:List UInt8) (sp:List PG.Sp4) (A S:Option Addr),av=.int .i64 a/\ov=.slice A on oc/\sv=.slice S sn sc/\out.length=on/\sp.length=sn/\a<=n/\on<=most/\sn<=a/\n<a+f/\PG.loop B most f a out sp=T/\Sp w0 (Row 5 1 (.slice A on oc) on (cells8 out)::Row 44 4 (.slice S sn sc) sn (spV sp)::L) wr) (fun _ _ av _=>n+1 - (intOf av).toNat)
 case atStart=>exact⟨0,n+2,0,0,0,0,[],[],none,none,rfl,rfl,rfl,rfl,rfl,Nat.zero_le _,Nat.zero_le _,Nat.le_refl _,by omega,F.out,HX.out⟩
 case round =>
  obtain⟨a,f,on,oc,sn,sc,out,sp,A,S,rfl,rfl,rfl,j,o,a7,b3,b4,hf,hT,C⟩:=hrel;clear HX F;obtain⟨f,rfl⟩:∃g,f=g+1:=⟨f - 1,by omega⟩;have M:=hid j;have N:=hid o;have HF:=hid hf;by_cases b:a<n∨a=0
  ·rw [PG.loop_go (by rw [J.out]; exact b),j] at hT;have D:=hid hT;have y1:(most:Int) - (on:Int)=((most - on:Nat):Int):=by omega
   have y2:¬ (on:Int) > (most:Int):=by omega
   have y3:(a:Int)<=(n:Int):=by omega
   have y4:(n:Int)<=(c:Int):=by omega
   clear hT j o hf;by_cases b5:a<n
   ·have k1:(a:Int)<(n:Int):=by omega
    have E:=hid (YN (subZ BA c a 1) (n - a) (c - a) (B.drop a) (most - on) C (fun _ _ q=>(HB.out _ _ q.tail2).dropZ a a7) (fun _ _ q=>G.out _ _ q.tail2) (fun _ _ q=>I.out _ _ q.tail2) (by rw [List.length_drop,J.out]) (by omega) (by omega) (by omega) (by have:=K.out; omega));have b2:¬ (c:Int)=(a:Int):=by omega
    have Z:Value.slice (subZ BA c a 1) (n - a) (c - a)=.slice (BA.map (·.add a)) (n - a) (c - a):=by unfold subZ; rw [if_neg (by omega),Nat.mul_one]
    rw [Z] at E;clear Z b C;go_wp2_with fail
    refine E.out.mono ?_;intro Z w1 p;clear E;cases hr:PG.get (B.drop a) (most - on) with
    | error z =>
     obtain⟨rfl,k⟩:=GEnd.bad hr p;have hz:=PG.get_err hr;have y9:¬ (z:Int)=0:=by omega
     have d:T=.error z:=by rw [<- D.out,hr]
     clear hr hz;have e:=hid (k.newBk [.int .u8 0,.int .u8 0,.int .u8 0,.int .u32 0,.slice none 0 0,.string ⟨#[]⟩,.string ⟨#[]⟩] 28);have s:=hid d;clear d p k;go_wp2_with fail
     go_ret3
     exact LEnd.no s.out (e.out.pick 3 [])
    | ok r =>
     obtain⟨t,h,u⟩:=r;obtain⟨PA,pe,OA,oe,rfl,k⟩:=GEnd.got hr p;obtain⟨a8,O,P⟩:=PG.get_used hr;rw [List.length_drop,J.out] at O;obtain⟨pn,v⟩:=exq h.length;have i:=D.out;rw [hr] at i;simp only [v] at k i P ⊢;obtain⟨a2,Q⟩:=exq (a+u);obtain⟨l,x⟩:=exq (on+pn);rw [Q,x] at i;have y5:(a:Int)+(u:Int)=(a2:Int):=by omega
     have y6:(on:Int)+(pn:Int)=(l:Int):=by omega
     have R:a2<=n:=by omega
     have U:l<=most:=by omega
     have b6:a<a2:=by omega
     have V:sn+1<=a2:=by omega
     have W:=hid v;have a9:=hid i;have y:=hid x;have b0:=hid (show n<a2+f by have:=HF.out; omega);have e:=k.newBk [.int .u8 t.flags.toNat,.int .u8 t.level.toNat,.int .u8 t.system.toNat,.int .u32 t.time,.slice PA t.extra.length pe,.string (strOf t.name),.string (strOf t.note)] 28;replace e:=hid (e.pick 5 [4,3,1]);clear hr p k D i v Q x a8 O P;go_upto_region 8 with (fail)
     replace e:=e.out;generalize World.alloc _ _=w2 at e ⊢;have b1:w2.heap.size=w2.heap.size:=rfl;have X:Rd (w2.alloc (.cells #[.int .i64 a,.int .i64 a2,.int .i64 on,.int .i64 l] 44)) (some ⟨w2.heap.size,0,none⟩) (spC (a,a2,on,l)):=Rd.of_blk (Blk.new w2 44 [.int .i64 a,.int .i64 a2,.int .i64 on,.int .i64 l]);have Y:=hid X;have H9:=hid (e.alloc (.cells #[.int .i64 a,.int .i64 a2,.int .i64 on,.int .i64 l] 44));clear X e b1;go_wp2_with (at_builtin; refine Za rfl _ _ 39 rfl 44 j0 (.agg #[.int .i64 0,.int .i64 0,.int .i64 0,.int .i64 0]) 4 32 Tryz.underlying39 gi a4 a5 a6 rfl (by decide) (.slice S sn sc) sn (spV sp) rfl H9.out (some ⟨w2.heap.size,0,none⟩) 1 1 (spC (a,a2,on,l)) rfl rfl Y.out (TP _) (by unfold maxLen; omega) (by omega) ?_)
     intro v5 w5 H5 _;obtain⟨S5,c5,rfl,_,_⟩:=Row.form H5 0 rfl;have H6:=hid (H5.pick 3 [1,0,2]);clear Y H9 H5;go_wp2_with (at_builtin; refine Za rfl _ _ 23 rfl 5 i0 (.int .u8 0) 1 1 Tryz.underlying23 hi a0 a1 a3 rfl (by decide) (.slice A on oc) on (cells8 out) rfl H6.out OA pn oe (cells8 h) rfl (by rw [Zp,W.out,Nat.mul_one]) (rowRd H6.out 2 rfl) (Zg _) (by unfold maxLen; omega) (by omega) ?_)
     intro v7 w7 H7 _;obtain⟨A7,c7,rfl,_,_⟩:=Row.form H7 0 rfl;have H8:=hid (H7.pick 3 [0,1]);clear H6 H7;go_wp2_with fail
     go_roundw
     case rel =>
      refine⟨a2,f,l,c7,sn+1,c5,out++h,sp++[(a,a2,on,l)],A7,S5,rfl,by rw [y.out],rfl,by rw [List.length_append,M.out,W.out,y.out],by rw [List.length_append,List.length_singleton,N.out],R,U,V,b0.out,a9.out,?_⟩;have:=H8.out;rw [y.out] at this;rw [TO,Zf];exact this
     case measure=>first | (simp [intOf]; omega) | simp [intOf]
   ·obtain⟨rfl,rfl⟩:a=0/\n=0:=by omega
    obtain rfl:B=[]:=List.length_eq_zero_iff.1 J.out;have k1:¬ ((0:Nat):Int)<((0:Nat):Int):=by omega
    have E:=hid (YN BA 0 c [] (most - on) C (fun _ _ q=>HB.out _ _ q.tail2) (fun _ _ q=>G.out _ _ q.tail2) (fun _ _ q=>I.out _ _ q.tail2) rfl (by omega) (by omega) (by omega) (by have:=K.out; omega));clear b C;go_wp2_with fail
    refine E.out.mono ?_;intro Z w1 p;clear E;obtain⟨rfl,k⟩:=GEnd.bad (PG.get_nil _) p;have d:T=.error 4:=D.out.symm;have e:=hid (k.newBk [.int .u8 0,.int .u8 0,.int .u8 0,.int .u32 0,.slice none 0 0,.string ⟨#[]⟩,.string ⟨#[]⟩] 28);have s:=hid d;clear d p k;go_wp2_with fail
    go_ret3
    exact LEnd.no s.out (e.out.pick 3 [])
  ·have k1:¬ (a:Int)<(n:Int):=by omega
   have k2:¬ (a:Int)=0:=by omega
   rw [PG.loop_end (by rw [J.out]; exact b)] at hT;have D:=hid hT;have HH:=hid C;clear hT C j o hf b;go_wp2_with fail
   go_ret3
   exact LEnd.yes D.out.symm M.out N.out HH.out
theorem Ws (v:Value) (m:Int) (H:Sp w0 L w) (hm:m<0) :
  Calls Tryz.prog 10 #[v,.int .i64 m] w fun e w'=>e=.returned (.tuple #[.agg #[.int .u8 0,.int .u8 0,.int .u8 0,.int .u32 0,.slice none 0 0,.string ⟨#[]⟩,.string ⟨#[]⟩],.slice none 0 0,.int .i64 0,.int .i64 1])/\Sp w0 L w':=by
 have b:=hid (H.newBk [.int .u8 0,.int .u8 0,.int .u8 0,.int .u32 0,.slice none 0 0,.string ⟨#[]⟩,.string ⟨#[]⟩] 28);clear H;go_enter Tryz.func10,Tryz.ntmps10
 go_upto_region 1 with (fail)
 replace b:=b.out;generalize World.alloc _ _=w1 at b ⊢;generalize w.heap.size=gr at b ⊢;have a:=b;clear b;have d:w1.cell? ⟨gr,0,none⟩=some (.int .u8 0):=a.cell 0 rfl 0;have f:w1.frozen? ⟨gr,0,none⟩=false:=a.frozen 0 rfl 0;have g:w1.cell? ⟨gr,1,none⟩=some (.int .u8 0):=a.cell 0 rfl 1;have h:w1.frozen? ⟨gr,1,none⟩=false:=a.frozen 0 rfl 1;have i:w1.cell? ⟨gr,2,none⟩=some (.int .u8 0):=a.cell 0 rfl 2;have j:w1.frozen? ⟨gr,2,none⟩=false:=a.frozen 0 rfl 2;have k:w1.cell? ⟨gr,3,none⟩=some (.int .u32 0):=a.cell 0 rfl 3;have l:w1.frozen? ⟨gr,3,none⟩=false:=a.frozen 0 rfl 3;have n:w1.cell? ⟨gr,4,none⟩=some (.slice none 0 0):=a.cell 0 rfl 4;have o:w1.frozen? ⟨gr,4,none⟩=false:=a.frozen 0 rfl 4;have p:w1.cell? ⟨gr,5,none⟩=some (.string ⟨#[]⟩):=a.cell 0 rfl 5;have q:w1.frozen? ⟨gr,5,none⟩=false:=a.frozen 0 rfl 5;have r:w1.cell? ⟨gr,6,none⟩=some (.string ⟨#[]⟩):=a.cell 0 rfl 6;have s:w1.frozen? ⟨gr,6,none⟩=false:=a.frozen 0 rfl 6;have c:=hid (((((((a.set 0 (.int .u8 0)).set 1 (.int .u8 0)).set 2 (.int .u8 0)).set 3 (.int .u32 0)).set 4 (.slice none 0 0)).set 5 (.string ⟨#[]⟩)).set 6 (.string ⟨#[]⟩));clear a;go_wp2_with fail
 refine bodyPost_ret (Zo rfl _ rfl (Zl c.out 0 rfl) Tryz.isAgg28 Tryz.sizeOf28) rfl ?_;exact⟨rfl,c.out.tail⟩
theorem TQ (BA:Option Addr) (n c:Nat) (a m:Int) (H:Sp w0 L w) (ha:a<0∨(n:Int)<a) :
  Calls Tryz.prog 15 #[.slice BA n c,.int .i64 a,.int .i64 m] w fun e w'=>e=.returned (.tuple #[.slice none 0 0,.int .i64 0,.int .i64 1])/\Sp w0 L w':=by
 have b:=hid H;clear H;go_enter Tryz.func15,Tryz.ntmps15
 by_cases d:a<0
 ·go_wp2_with fail
  go_ret3
  exact⟨rfl,b.out⟩
 ·have f:a > (n:Int):=by omega
  go_wp2_with fail
  go_ret3
  exact⟨rfl,b.out⟩
def TEnd (w0:World) (L:List Pr) (T:Except Nat (PG.Hd × List UInt8 × Nat)) (e:Ending) (w' : World):Prop :=
 match T with
 | .error c=>e=.returned (.tuple #[.slice none 0 0,.int .i64 0,.int .i64 c])/\Sp w0 L w'
 | .ok r=>∃A ca,e=.returned (.tuple #[.slice A r.2.1.length ca,.int .i64 r.2.2,.int .i64 0])/\Sp w0 (Row 5 1 (.slice A r.2.1.length ca) r.2.1.length (cells8 r.2.1)::L) w'
theorem TEnd.no {w0:World} {T:Except Nat (PG.Hd × List UInt8 × Nat)} {c:Nat} (h:T=.error c) {w' : World} (H:Sp w0 L w'):TEnd w0 L T (.returned (.tuple #[.slice none 0 0,.int .i64 0,.int .i64 c])) w':=by
 subst h; exact⟨rfl,H⟩
theorem TEnd.yes {w0:World} {T:Except Nat (PG.Hd × List UInt8 × Nat)} {hd:PG.Hd} {out:List UInt8} {u:Nat} {A:Option Addr} {ca:Nat} (h:T=.ok (hd,out,u)) {w' : World} (H:Sp w0 (Row 5 1 (.slice A out.length ca) out.length (cells8 out)::L) w'):TEnd w0 L T (.returned (.tuple #[.slice A out.length ca,.int .i64 u,.int .i64 0])) w':=by
 subst h; exact⟨A,ca,rfl,H⟩
theorem T4 (BA:Option Addr) (n c:Nat) (B:List UInt8) (a most:Nat) {TL TA:Option Addr} {cl ca:Nat} (H:Sp w0 L w) (hb:Ent L fun w=>Byt w (.slice BA n c) B) (hct:Ent L CrcTab) (hT:Ent L (Tabs TL TA cl ca)) (hn:B.length=n) (hnm:n<=100000000) (hm:most<=1000000000) (hcn:n<=c) (hcm:c<=maxLen) (han:a<=n) :
  Calls Tryz.prog 15 #[.slice BA n c,.int .i64 a,.int .i64 most] w (TEnd w0 L (PG.get (B.drop a) most)):=by
 have i:=hid (YN (subZ BA c a 1) (n - a) (c - a) (B.drop a) most H (fun _ _ q=>(hb _ _ q).dropZ a han) hct hT (by rw [List.length_drop,hn]) (by omega) hm (by omega) (by omega));have v:¬ (a:Int) > (n:Int):=by omega
 have x:(a:Int)<=(n:Int):=by omega
 have y:(n:Int)<=(c:Int):=by omega
 clear hb hct hT H;go_enter Tryz.func15,Tryz.ntmps15
 by_cases e:c=a
 ·have f:Value.slice (subZ BA c a 1) (n - a) (c - a)=.slice BA 0 0:=by unfold subZ; rw [if_pos e]; congr 1 <;> omega
  rw [f] at i;clear f;subst e;obtain rfl:n=c:=by omega
  go_wp2_with fail
  refine i.out.mono ?_;intro f l d;clear i;cases hr:PG.get (B.drop n) most with
  | error z =>
   obtain⟨rfl,b⟩:=GEnd.bad hr d;have g:=hid b;have h:=hid hr;clear d hr b;go_wp2_with fail
   go_ret3
   exact TEnd.no h.out g.out
  | ok r =>
   obtain⟨m,j,u⟩:=r;obtain⟨o,p,s,t,rfl,b⟩:=GEnd.got hr d;have g:=hid (b.pick 2 [0]);have h:=hid hr;clear d hr b;go_wp2_with fail
   go_ret3
   exact TEnd.yes h.out g.out
 ·have k:¬ (c:Int)=(a:Int):=by omega
  have f:Value.slice (subZ BA c a 1) (n - a) (c - a)=.slice (BA.map (·.add a)) (n - a) (c - a):=by unfold subZ; rw [if_neg e,Nat.mul_one]
  rw [f] at i;clear f;go_wp2_with fail
  refine i.out.mono ?_;intro f l d;clear i;cases hr:PG.get (B.drop a) most with
  | error z =>
   obtain⟨rfl,b⟩:=GEnd.bad hr d;have g:=hid b;have h:=hid hr;clear d hr b;go_wp2_with fail
   go_ret3
   exact TEnd.no h.out g.out
  | ok r =>
   obtain⟨m,j,u⟩:=r;obtain⟨o,p,s,t,rfl,b⟩:=GEnd.got hr d;have g:=hid (b.pick 2 [0]);have h:=hid hr;clear d hr b;go_wp2_with fail
   go_ret3
   exact TEnd.yes h.out g.out
namespace PG
theorem head_s (h:Hd) (hok:Ok h) (ht:h.time<4294967296) (s r:List UInt8) (hsl:s.length=if has h.flags 2=true then 2 else 0):head (lay0 h++(s++r))=if has h.flags 2=true/\num s≠PCrc.of (lay0 h) % 65536 then .error 21 else .ok (h,(lay0 h).length+s.length):=by
 obtain⟨Q,F,G,H,I⟩:=hok;obtain⟨B,t⟩:=exq (lay0 h++(s++r));have k:Lies B 0 (lay0 h++s):=⟨r,by rw [List.drop_zero,<- t,List.append_assoc],Nat.zero_le _⟩;have l:=k.left;have u:=k.right;unfold lay0 at l;have x:=l.left;have f:=l.right;rw [Nat.zero_add] at f u;have y:[31,139,8,h.flags].length=4:=rfl;rw [y] at f;have J:B.take 4=[31,139,8,h.flags]:=by
  obtain⟨q,d,_⟩:=x;rw [List.drop_zero] at d;rw [d]; rfl
 have m:=x.len;rw [y] at m;have g:∀i,i<4->B.getD i 0=[31,139,8,h.flags].getD i 0:=fun i hi=>by
  rw [<- J,List.getD_eq_getElem?_getD,List.getD_eq_getElem?_getD,List.getElem?_take_of_lt hi]
 have K:B.getD 0 0=31:=g 0 (by decide);have L:B.getD 1 0=139:=g 1 (by decide);have M:B.getD 2 0=8:=g 2 (by decide);have z:B.getD 3 0=h.flags:=g 3 (by decide);have N:begin_ B=0:=by
  unfold begin_;rw [if_neg (by omega),K,if_neg (by decide),if_neg (by omega),L,if_neg (by decide),if_neg (by omega),M,if_neg (by decide),if_neg (by omega),z,if_neg (by omega)]
 have A:=next_lies f.left;rw [low_len] at A;have b:=f.right;rw [low_len] at b;have e:=b.left;have C:=next_lies (Lies.left (w:=[h.level]) (v:=[h.system]) e);have n:=next_lies (Lies.right (w:=[h.level]) (v:=[h.system]) e);have c:=b.right;have O:=exR_lies F G c.left;have P:=txR_lies H c.right.left;have D:=txR_lies I c.right.right;have o:(lay0 h).length=4+4+[h.level,h.system].length+(exW h).length+(txW h.flags 8 h.name).length+(txW h.flags 16 h.note).length:=by
  unfold lay0;simp only [List.length_append,low_len,List.length_cons,List.length_nil];omega
 rw [<- o] at D;unfold head;rw [t,N,if_neg (by decide),z];simp only;rw [A];simp only;rw [show [h.level].length=1 from rfl] at C n;rw [C];simp only;rw [show [h.system].length=1 from rfl] at n;rw [n];simp only;rw [show 4+4+1+1=4+4+[h.level,h.system].length from rfl,O];simp only;rw [P];simp only;rw [D];simp only;have p:B.take (lay0 h).length=lay0 h:=by
  obtain⟨q,d,_⟩:=k.left;rw [List.drop_zero] at d;rw [d,List.take_left]
 rw [p,num_low,show h.time % 256 ^ 4=h.time by rw [Nat.mod_eq_of_lt]; exact ht];by_cases a:has h.flags 2=true
 ·rw [if_pos a] at hsl;have E:=next_lies u;rw [hsl] at E;rw [if_pos a,E];simp only;by_cases j:num s=PCrc.of (lay0 h) % 65536
  ·rw [if_neg (by rintro⟨_,q,_⟩; exact q j),if_neg (by decide),if_neg (by rintro⟨_,q⟩; exact q j),hsl];rfl
  ·rw [if_pos ⟨a,j,trivial⟩,if_pos ⟨a,j⟩]
 ·rw [if_neg a] at hsl;rw [if_neg a];simp only;rw [if_neg (by rintro⟨q,_⟩; exact a q),if_neg (by decide),if_neg (by rintro⟨q,_⟩; exact a q),hsl];rfl
theorem num_inj:∀(l m:List UInt8),l.length=m.length->num l=num m->l=m
 | [],[],_,_=>rfl
 | [],_::_,h,_=>by cases h
 | _::_,[],h,_=>by cases h
 | a::l,b::m,h,k=>by
  have e:a.toNat+256 * num l=b.toNat+256 * num m:=k;have f:=UInt8.toNat_lt a;have g:=UInt8.toNat_lt b;have c:a.toNat=b.toNat:=by omega
  have d:num l=num m:=by omega
  rw [UInt8.toNat_inj.1 c,num_inj l m (by simpa using h) d]
theorem put_s (h:Hd) (b:List UInt8):put h b=lay0 h++(suW h.flags (lay0 h)++(PD.defl b++tailW b)):=by
 unfold put lay;rw [List.append_assoc]
theorem suW_len (f:UInt8) (l:List UInt8):(suW f l).length=if has f 2=true then 2 else 0:=by
 unfold suW;split
 ·rw [low_len]
 ·rfl
end PG
namespace PG
def hK:Hd:=⟨31,2,3,16909060,[80,84,2,0,97,98],[110],[195,169]⟩
def bK:List UInt8:=[97,97,97,97,97,97,97,97,97,97]
def hdK:List UInt8:=[31,139,8,31,4,3,2,1,2,3,6,0,80,84,2,0,97,98,110,0,195,169,0]
theorem hK_ok:Ok hK:=by decide
theorem hK_lay:lay0 hK=hdK:=by decide +kernel
theorem kn_put:put hK bK=hdK++(suW hK.flags (lay0 hK)++(PD.defl bK++tailW bK)):=by rw [put_s,hK_lay]
theorem kn_su:∃a b:UInt8,suW hK.flags (lay0 hK)=[a,b]:=by
 have h:=suW_len hK.flags (lay0 hK);rw [if_pos (by decide)] at h
 match suW hK.flags (lay0 hK),h with
 | [a,b],_=>exact⟨a,b,rfl⟩
theorem kn_take:(put hK bK).take 23=hdK:=by rw [kn_put]; exact List.take_left' rfl
theorem kn_len:33<=(put hK bK).length:=by
 obtain⟨a,b,e⟩:=kn_su;rw [kn_put,e];simp only [List.length_append,tailW_len];show 33<=23+(2+(_+8));omega
theorem kn_spoilt:get ((put hK bK).set 23 ((put hK bK).getD 23 0 ^^^ 1)) 10=.error 21:=by
 obtain⟨a,b,e⟩:=kn_su;have g:(put hK bK).getD 23 0=a:=by
  rw [kn_put,e]; rfl
 have h:(put hK bK).set 23 (a ^^^ 1)=lay0 hK++([a ^^^ 1,b]++(PD.defl bK++tailW bK)):=by
  rw [kn_put,e,hK_lay]; rfl
 rw [g,h];unfold get;rw [head_s hK hK_ok (by decide) [a ^^^ 1,b] _ (by rw [if_pos (by decide)]; rfl),if_pos];refine⟨by decide,?_⟩;intro q;have d:suW hK.flags (lay0 hK)=low (PCrc.of (lay0 hK)) 2:=by unfold suW; rw [if_pos (by decide)]
 rw [e] at d;have f:=congrArg num d;rw [num_low] at f;have i:num [a ^^^ 1,b]=num [a,b]:=by rw [q,f]
 have c:=num_inj [a ^^^ 1,b] [a,b] rfl i;injection c with c
 have j:=congrArg UInt8.toBitVec c;have:∀v:BitVec 8,v ^^^ 1#8≠v:=by decide
 exact this a.toBitVec j
theorem kn_more (c:UInt8) (e:Nat) (he:∀m,get [c] m=.error e):all (put hK bK++[c]) 100=.error e:=by
 obtain⟨n,a⟩:=exq ((put hK bK).length);have b:=kn_len;rw [a] at b;unfold all;rw [List.length_append,List.length_singleton,a];have d:get ((put hK bK++[c]).drop 0) (100 - ([]:List UInt8).length)=.ok (hK,bK,n):=by
  rw [List.drop_zero,<- a]; exact get_put hK hK_ok (by decide) bK [c] 100 (by decide) (by decide)
 show(if 0<(put hK bK++[c]).length∨(0:Nat)=0 then _ else _)=_;rw [if_pos (.inr rfl),d];show(if 0+n<(put hK bK++[c]).length∨0+n=0 then _ else _)=_;rw [Nat.zero_add,if_pos (.inl (by rw [List.length_append,List.length_singleton,a]; omega))];have f:(put hK bK++[c]).drop n=[c]:=by rw [<- a]; exact List.drop_left
 rw [f,he]
theorem kn_31 (m:Nat):get [31] m=.error 4:=by unfold get; rw [show head [31]=.error 4 from by unfold head; rw [if_pos (by decide)]; rfl]
theorem kn_0 (m:Nat):get [0] m=.error 5:=by unfold get; rw [show head [0]=.error 5 from by unfold head; rw [if_pos (by decide)]; rfl]
theorem kn_a (m:Nat):get [31,139,9] m=.error 5:=by unfold get; rw [show head [31,139,9]=.error 5 from by unfold head; rw [if_pos (by decide)]; rfl]
theorem kn_b (m:Nat):get [31,139,8,32] m=.error 5:=by unfold get; rw [show head [31,139,8,32]=.error 5 from by unfold head; rw [if_pos (by decide)]; rfl]
theorem kn_c:get [31,139,8,8,0,0,0,0,0,0,110] 1=.error 4:=by rfl
theorem kn_d:get [31,139,8,0,0,0,0,0,0,0,7] 1=.error 20:=by
 have a:head [31,139,8,0,0,0,0,0,0,0,7]=.ok (⟨0,0,0,0,[],[],[]⟩,10):=by rfl
 unfold get;rw [a];simp only;rw [show PI.all (PBits.ofB (([31,139,8,0,0,0,0,0,0,0,7]:List UInt8).drop 10)) 1=.error 20 from by rfl]
theorem kn_e (m:Nat):get [] m=.error 4:=rfl
theorem kn_ok:get (put hK bK) 10=.ok (hK,bK,(put hK bK).length):=by
 have:=get_put hK hK_ok (by decide) bK [] 10 (by decide) (by decide);rw [List.append_nil] at this;exact this
theorem kn_cap:get (put hK bK) 9=.error 22:=by
 have:=get_cap hK hK_ok (by decide) bK [] 9 (by decide);rw [List.append_nil] at this;exact this
end PG
namespace PG
theorem all_nil (m:Nat):all [] m=.error 4:=rfl
end PG
theorem LEnd.bad {w0:World} {T:Except Nat (List UInt8 × List PG.Sp4)} {c:Nat} (h:T=.error c) {e:Ending} {w' : World} (k:LEnd w0 L T e w'):e=.returned (.tuple #[.slice none 0 0,.slice none 0 0,.int .i64 c])/\Sp w0 L w':=by
 subst h; exact k
theorem Wt {M:List Pr} {g:Nat} {t:TypeId} (H:Sp w0 M w) (k:Nat) (l:List UInt8) (hk:M[k]?=some (Bk g t (cells8 l))) (hm:l.length<=maxLen):Byt w (.slice (some ⟨g,0,none⟩) l.length l.length) l :=
 ⟨_,_,rfl,fun _=>⟨_,rfl,fun j u hu=>Zl H k hk j u hu⟩,Nat.le_refl _,hm⟩
end Go.Proofs.YtnjpnmpemhldcaaGreatDoor

