/- A pack. -/
import Derived.ShutString
import Derived.Test.YtnjpnmpemhldcaaGreatDoorCards
import Derived.Test.YtnjpnmpemhldcaaGreatDoorTie
import Derived.Test.YtnjpnmpemhldcaaGreatDoorPk51
set_option linter.all false
set_option maxRecDepth 100000
set_option maxHeartbeats 8000000
namespace Go.Proofs.YtnjpnmpemhldcaaGreatDoor
open Go.ChangeShapes Go.WideShapes Go.ChangeAt Go.RowKit Go.Deep
structure OneV where
 h:PG.Hd
 B:Option Addr
 n:Nat
 c:Nat
 X:Option Addr
 m:Nat
 d:Nat
 b:List UInt8
instance:Inhabited OneV:=⟨⟨⟨0,0,0,0,[],[],[]⟩,none,0,0,none,0,0,[]⟩⟩
def OneV.cells (x:OneV):List Value:=[.int .u8 x.h.flags.toNat,.int .u8 x.h.level.toNat,.int .u8 x.h.system.toNat,.int .u32 x.h.time,.slice x.B x.n x.c,.string (strOf x.h.name),.string (strOf x.h.note),.slice x.X x.m x.d]
structure OneV.Ok (w:World) (x:OneV):Prop where
 e:x.h.extra.length=x.n
 eb:Byt w (.slice x.B x.n x.c) x.h.extra
 e1:x.n<=x.c
 e2:x.c<=maxLen
 m1:x.h.name.length<=maxLen
 m2:x.h.note.length<=maxLen
 t:x.h.time<4294967296
 b:x.b.length=x.m
 bb:Byt w (.slice x.X x.m x.d) x.b
 b1:x.m<=x.d
 b2:x.d<=maxLen
section
variable {H:Type} {enc:TypeId × Value->H} {P:Program} {w:World} {base:Nat} {held:Bool}
theorem Y8 {t e:TypeId} {n:Nat} {c:Value} {y:DataW H × List MemPlace} (h1:P.underlying t=some (.slice e)) (h1b:P.underlying e=some (.int .u8)) (h1c:P.cellsOf e=1) (h:DataW.trod enc P w base (fun _=>true) held n t [c]=some y):∃A l k bs,c=.slice A l k/\bs.length=l/\Byt w (.slice A l k) bs/\l<=k/\k<=maxLen:=by
 obtain⟨B,o,f,rfl⟩:=cells1 h1 h;obtain⟨a,j,d,g,i,b⟩:=V9 (fun p:Nat=>Value.int .u8 p) (fun p=>p<256) h1 h1c (fun n c y h=>by
  obtain⟨k,d,_,m⟩:=DataW.trod_int h1b h;have b:=bounds_u8 m;obtain⟨q,rfl⟩:=Int.eq_ofNat_of_zero_le b.1;exact⟨q,by simpa using d,by have:=b.2; omega⟩) h
 subst d;refine⟨B,a.length,f,a.map UInt8.ofNat,rfl,by simp,⟨B,f,by simp,?_,by simpa using g,i⟩,g,i⟩;have:cells8 (a.map UInt8.ofNat)=a.map fun p:Nat=>Value.int .u8 p:=by
  unfold cells8;rw [List.map_map];refine List.map_congr_left fun p hp=>?_;have:=b p hp;show Value.int .u8 (((UInt8.ofNat p).toNat:Nat):Int)=_;rw [UInt8.toNat_ofNat',Nat.mod_eq_of_lt (by omega)]
 rw [this];exact j
theorem X6 {t:TypeId} {n:Nat} {c:Value} {y:DataW H × List MemPlace} (h0:P.underlying t=some (.int .u8)) (h:DataW.trod enc P w base (fun _=>true) held n t [c]=some y):∃u:UInt8,c=.int .u8 u.toNat:=by
 obtain⟨a,b,_,e⟩:=DataW.trod_int h0 h;replace b:c=.int .u8 a:=by simpa using b
 subst b;have d:=bounds_u8 e;obtain⟨f,rfl⟩:=Int.eq_ofNat_of_zero_le d.1;have:=d.2;exact⟨UInt8.ofNat f,by rw [UInt8.toNat_ofNat',Nat.mod_eq_of_lt (by omega)]⟩
theorem UP {t:TypeId} {n:Nat} {c:Value} {y:DataW H × List MemPlace} (h0:P.underlying t=some (.int .u32)) (h:DataW.trod enc P w base (fun _=>true) held n t [c]=some y):∃u:Nat,c=.int .u32 u/\u<4294967296:=by
 obtain⟨a,b,_,e⟩:=DataW.trod_int h0 h;replace b:c=.int .u32 a:=by simpa using b
 subst b;have d:=bounds_u32 e;obtain⟨f,rfl⟩:=Int.eq_ofNat_of_zero_le d.1;exact⟨f,rfl,by have:=d.2; omega⟩
theorem Wx {t:TypeId} {n:Nat} {c:Value} {y:DataW H × List MemPlace} (h0:P.underlying t=some .string) (h:DataW.trod enc P w base (fun _=>true) held n t [c]=some y):∃s:List UInt8,c=.string (strOf s)/\s.length<=maxLen:=by
 obtain⟨s,a,_,b⟩:=DataW.trod_string h0 h;replace a:c=.string s:=by simpa using a
 exact⟨s.data.toList,a,b⟩
theorem TS {e eb:TypeId} {f0 f1 f2 f3 f4 f5 f6:Field} (he:P.underlying e=some (.struct #[f0,f1,f2,f3,f4,f5,f6])) (hone:oneCellFields P #[f0,f1,f2,f3,f4,f5,f6]=true) (h0:P.underlying f0.type=some (.int .u8)) (h1:P.underlying f1.type=some (.int .u8)) (h2:P.underlying f2.type=some (.int .u8)) (h3:P.underlying f3.type=some (.int .u32))
  (h4:P.underlying f4.type=some (.slice eb)) (h4b:P.underlying eb=some (.int .u8)) (h4c:P.cellsOf eb=1) (h5:P.underlying f5.type=some .string) (h6:P.underlying f6.type=some .string)
  (n:Nat) (cs:List Value) (y:DataW H × List MemPlace) (hl:cs.length=7) (h:DataW.trod enc P w base (fun _=>true) held n e cs=some y):∃(hd:PG.Hd) (B:Option Addr) (l k:Nat),cs=[.int .u8 hd.flags.toNat,.int .u8 hd.level.toNat,.int .u8 hd.system.toNat,.int .u32 hd.time,.slice B l k,.string (strOf hd.name),.string (strOf hd.note)]/\hd.extra.length=l/\Byt w (.slice B l k) hd.extra/\l<=k/\k<=maxLen/\hd.name.length<=maxLen/\hd.note.length<=maxLen/\hd.time<4294967296:=by
 obtain⟨q,m,_,rfl,_,b,a⟩:=DataW.trod_struct he h
 match cs,hl,q,b with
 | [c0,c1,c2,c3,c4,c5,c6],_,[y0,y1,y2,y3,y4,y5,y6],_ =>
  have d:=a 0 f0 rfl;have f:=a 1 f1 rfl;have g:=a 2 f2 rfl;have i:=a 3 f3 rfl;have j:=a 4 f4 rfl;have o:=a 5 f5 rfl;have p:=a 6 f6 rfl;obtain⟨r,s⟩:=hone_of hone 0 f0 rfl;obtain⟨t,u⟩:=hone_of hone 1 f1 rfl;obtain⟨v,x⟩:=hone_of hone 2 f2 rfl;obtain⟨z,A⟩:=hone_of hone 3 f3 rfl;obtain⟨C,D⟩:=hone_of hone 4 f4 rfl;obtain⟨E,F⟩:=hone_of hone 5 f5 rfl;obtain⟨G,I⟩:=hone_of hone 6 f6 rfl;rw [r,s] at d;rw [t,u] at f;rw [v,x] at g;rw [z,A] at i;rw [C,D] at j;rw [E,F] at o;rw [G,I] at p;obtain⟨J,rfl⟩:=X6 (c:=c0) h0 d;obtain⟨K,rfl⟩:=X6 (c:=c1) h1 f;obtain⟨L,rfl⟩:=X6 (c:=c2) h2 g;obtain⟨M,rfl,N⟩:=UP (c:=c3) h3 i;obtain⟨B,l,k,O,rfl,Q,R,S,T⟩:=Y8 (c:=c4) h4 h4b h4c j;obtain⟨U,rfl,V⟩:=Wx (c:=c5) h5 o;obtain⟨W,rfl,X⟩:=Wx (c:=c6) h6 p;exact⟨⟨J,K,L,M,O,U,W⟩,B,l,k,rfl,Q,R,S,T,V,X,N⟩
theorem T7 {e eb:TypeId} {f0 f1 f2 f3 f4 f5 f6 g0 g1:Field} (hE:P.underlying e=some (.struct #[g0,g1])) (o0:g0.offset=0) (k0:P.cellsOf g0.type=7) (o1:g1.offset=7) (k1:P.cellsOf g1.type=1) (he:P.underlying g0.type=some (.struct #[f0,f1,f2,f3,f4,f5,f6])) (hone:oneCellFields P #[f0,f1,f2,f3,f4,f5,f6]=true) (h0:P.underlying f0.type=some (.int .u8)) (h1:P.underlying f1.type=some (.int .u8)) (h2:P.underlying f2.type=some (.int .u8)) (h3:P.underlying f3.type=some (.int .u32))
  (h4:P.underlying f4.type=some (.slice eb)) (h4b:P.underlying eb=some (.int .u8)) (h4c:P.cellsOf eb=1) (h5:P.underlying f5.type=some .string) (h6:P.underlying f6.type=some .string) (h7:P.underlying g1.type=some (.slice eb))
  (n:Nat) (cs:List Value) (y:DataW H × List MemPlace) (hl:cs.length=8) (h:DataW.trod enc P w base (fun _=>true) held n e cs=some y):∃x:OneV,cs=x.cells/\x.Ok w:=by
 obtain⟨o,m,_,rfl,_,a,d⟩:=DataW.trod_struct hE h
 match cs,hl,o,a with
 | [c0,c1,c2,c3,c4,c5,c6,c7],_,[y0,y1],_ =>
  have f:=d 0 g0 rfl;have g:=d 1 g1 rfl;rw [o0,k0] at f;rw [o1,k1] at g;obtain⟨p,B,l,k,b,q,r,s,t,u,v,A⟩:=TS he hone h0 h1 h2 h3 h4 h4b h4c h5 h6 m [c0,c1,c2,c3,c4,c5,c6] y0 rfl f;obtain⟨X,i,j,C,D,E,F,G,I⟩:=Y8 (c:=c7) h7 h4b h4c g;refine⟨⟨p,B,l,k,X,i,j,C⟩,?_,⟨q,r,s,t,u,v,A,E,F,G,I⟩⟩;subst D;have:=congrArg (fun z=>z++[Value.slice X i j]) b;exact this
end
theorem OneV.Ok.keep {w w' : World} {x:OneV} (h:x.Ok w) (hs:∀b,b<w.heap.size->w'.heap[b]?=w.heap[b]?):x.Ok w' :=
 { h with eb:=h.eb.keep fun p _ hp=>World.cell?_of_block (hs p.block (Zt hp)),bb:=h.bb.keep fun p _ hp=>World.cell?_of_block (hs p.block (Zt hp)) }
open Go.RowKit
theorem UQ {W:World} (h:CrcTab W):Ent [Same W] CrcTab:=Ent.of_same 0 rfl fun w hs i hi=>by
 rw [<- h i hi]; exact World.cell?_of_block (hs _ (Zt (h i hi)))
theorem W7 {W:World} {DL DF:Option Addr} {dl df:Nat} (h:DTabs DL DF dl df W):Ent [Same W] (DTabs DL DF dl df):=Ent.of_same 0 rfl fun _ hs=>h.heap hs
theorem Wy {W:World} {v:Value} {l:List UInt8} (h:Byt W v l):Ent [Same W] fun w=>Byt w v l:=Ent.of_same 0 rfl fun _ hs=>h.keep fun p _ hp=>World.cell?_of_block (hs p.block (Zt hp))
theorem UR (x:OneV) (at_:Nat) (b0 b1 b2 b3:UInt8) {W:World} (hT:CrcTab W/\(∃TL TA cl ca,Tabs TL TA cl ca W)/\∃DL DF dl df,DTabs DL DF dl df W) (h:x.Ok W) (hat:at_<65536) :
  Calls Tryz.prog 7 #[.agg x.cells.toArray,.int .u16 at_,.agg #[.int .u8 b0.toNat,.int .u8 b1.toNat,.int .u8 b2.toNat,.int .u8 b3.toNat]] W fun e w'=>e=.returned (.bool true)/\Sp W [Same W] w':=by
 obtain⟨a,⟨TL,TA,cl,ca,hT⟩,DL,DF,dl,df,b⟩:=hT;exact UO x.h x.B x.n x.c x.X x.m x.d x.b at_ b0 b1 b2 b3 (Sp.start W) (UQ a) (Ua hT) (W7 b) h.e (Wy h.eb) h.e1 h.e2 h.m1 h.m2 h.t h.b (Wy h.bb) h.b1 h.b2 hat
open Go.ChangeShapes Go.WideShapes Go.ChangeAt Go.RowKit Go.Lib
theorem laid7 {W : World} (h : laidMetH Tryz.prog [("portolan/crc.table", Rows.laid_portolan_crc_table), ("portolan/deflate.order", Rows.laid_portolan_deflate_order), ("portolan/deflate.longs", Rows.laid_portolan_deflate_longs), ("portolan/deflate.fars", Rows.laid_portolan_deflate_fars), ("portolan/inflate.order", Rows.laid_portolan_inflate_order), ("portolan/inflate.lengths", Rows.laid_portolan_inflate_lengths), ("portolan/inflate.away", Rows.laid_portolan_inflate_away)] W) : CrcTab W /\ (∃ TL TA cl ca, Tabs TL TA cl ca W) /\ ∃ DL DF dl df, DTabs DL DF dl df W := by
 rw [MakeChecks.laidMetH_plain _ _ _ (by kernel_rfl)] at h;have hc:=W6 h;have h0 : VarReads Tryz.prog W "portolan/deflate.order" (Lib.tabData .i64 ordZ) := laidMet.reads h (by simp only [List.mem_cons]; exact .inr (.inl rfl))
 have h1 : VarReads Tryz.prog W "portolan/deflate.longs" (pairData PD.longT) := laidMet.reads h (by simp only [List.mem_cons]; exact .inr (.inr (.inl rfl)))
 have h2 : VarReads Tryz.prog W "portolan/deflate.fars" (pairData PI.awayT) := laidMet.reads h (by simp only [List.mem_cons]; exact .inr (.inr (.inr (.inl rfl))))
 have h3 : VarReads Tryz.prog W "portolan/inflate.order" (Lib.tabData .i64 ordZ) := laidMet.reads h (by simp only [List.mem_cons]; exact .inr (.inr (.inr (.inr (.inl rfl)))))
 have h4 : VarReads Tryz.prog W "portolan/inflate.lengths" (pairData PI.lengthsT) := laidMet.reads h (by simp only [List.mem_cons]; exact .inr (.inr (.inr (.inr (.inr (.inl rfl))))))
 have h5 : VarReads Tryz.prog W "portolan/inflate.away" (pairData PI.awayT) := laidMet.reads h (by simp only [List.mem_cons]; exact .inr (.inr (.inr (.inr (.inr (.inr (.inl rfl)))))))
 exact⟨hc,YV h3 h4 h5,YU h0 h1 h2⟩
end Go.Proofs.YtnjpnmpemhldcaaGreatDoor

namespace Go.Proofs.YtnjpnmpemhldcaaGreatDoor.gzipChanged
open Go.ChangeShapes Go.WideShapes Go.ChangeAt Go.RowKit Go.WideMaps Go.WideElems
open Go.ChangeMaps (open_string shut_string)

theorem own:ownKnob Tryz.prog.godebug=none:=by kernel_rfl
theorem laidOut:laidOutB Tryz.prog=true:=by kernel_rfl
def laidL : List (String × DataW Unit) := [("portolan/crc.table", Rows.laid_portolan_crc_table), ("portolan/deflate.order", Rows.laid_portolan_deflate_order), ("portolan/deflate.longs", Rows.laid_portolan_deflate_longs), ("portolan/deflate.fars", Rows.laid_portolan_deflate_fars), ("portolan/inflate.order", Rows.laid_portolan_inflate_order), ("portolan/inflate.lengths", Rows.laid_portolan_inflate_lengths), ("portolan/inflate.away", Rows.laid_portolan_inflate_away)]
theorem door_met (os:Os) (args:Array Value):laidMetH Tryz.prog laidL ((World.doorLaid Tryz.prog 4000 os).forCall (fun _ _=>0) ⟨#[],args,[]⟩).memory :=
 laidMetH_of_parts3 (fuel:=10) (laidMet_of_run' 10 (by kernel_rfl) (by kernel_rfl)) (by kernel_rfl) (by kernel_rfl)
theorem lifted (os:Os) (started:os.Started) (H:Type) (enc:TypeId × Value->H) :
  ReturnsInHanded {} Tryz.checked os 7 .any (fun w args=>(Rows.gzipChangedSpec.pre enc Tryz.prog Tryz.f7 [] false w args/\laidMetH Tryz.prog laidL w)/\sizedMet enc Tryz.prog Tryz.f7 (OpenSpec.ofChange Rows.gzipChangedSpec) false w args)
   (Rows.gzipChangedSpec.post enc Tryz.prog Tryz.f7 false true false false):=by
 refine returnsInHanded_of_change_and (C:=Tryz.checked) (X:=fun w _=>laidMetH Tryz.prog laidL w) (fun _ _ _ hh h=>h.of_heap hh) own started (by kernel_rfl) Tryz.func7
  (ChangeSpec.witness_shaped (enc:=enc) (C:=Tryz.checked) (os:=os) (X:=fun w _=>laidMetH Tryz.prog laidL w) false (World.doorLaid Tryz.prog 4000 os) #[.agg #[.int .u8 0,.int .u8 0,.int .u8 0,.int .u32 0,.slice none 0 0,.string ⟨#[]⟩,.string ⟨#[]⟩,.slice none 0 0],.int .u16 0,.agg #[.int .u8 0,.int .u8 0,.int .u8 0,.int .u8 0]] 8 rfl (World.shaped_of_RefB (by kernel_rfl) (by kernel_rfl)) (by kernel_rfl) (by kernel_rfl) (by kernel_rfl) (door_met os _)) ?_
 intro W base args O gs k b D _ _ P _;have a:∀(j:Nat) t v,Tryz.f7.params[j]?=some t->args[j]?=some v->Value.okWide Tryz.prog W .any base t v:=b;have l:=D;obtain⟨p,q,f,Q,rfl,R,S⟩:=D;have E:DataW.TrodAll enc Tryz.prog W 0 (fun _=>true) true Tryz.f7.params.toList args.toList O p:=f;rw [Tryz.params7] at E a;obtain⟨F,T,d0,U,V,q0,n,rfl,rfl,G,Y⟩:=trodAll_cons E;obtain⟨I,Z,d1,a0,p1,q1,rfl,rfl,rfl,h1,r1⟩:=trodAll_cons Y;obtain⟨J,a1,d2,a2,p2,q2,rfl,rfl,rfl,K,r2⟩:=trodAll_cons r1;obtain⟨rfl,rfl,rfl⟩:=trodAll_nil r2;obtain rfl:args=#[F,I,J]:=by cases args; simp_all
 obtain⟨rfl,rfl⟩:=trodVars_none Q;obtain⟨c,rfl,g⟩:=okWide_struct Tryz.underlying30 (a 0 30 F rfl rfl);have L:=G;have o:∀x ∈ V,x.block<W.heap.size:=by obtain⟨m,r⟩:=L; exact DataW.trod_lt m _ _ _ r
 obtain⟨M,s,w0⟩:∃x:OneV,c.toList=x.cells/\x.Ok W:=by
  obtain⟨i,hf⟩:=G;exact T7 Tryz.underlying30 rfl (by kernel_rfl) rfl (by kernel_rfl) Tryz.underlying28 (by kernel_rfl) Tryz.underlying5 Tryz.underlying5 Tryz.underlying5 Tryz.underlying26 Tryz.underlying23 Tryz.underlying5 (by kernel_rfl) Tryz.underlying9 Tryz.underlying9 Tryz.underlying23 i c.toList _ (by rw [Array.length_toList,g]; kernel_rfl) hf
 obtain rfl:c=M.cells.toArray:=by rw [<- s]
 obtain⟨x1,rfl,rfl,rfl,d⟩:=open_int Tryz.underlying24 (a 1 24 I rfl rfl) h1;obtain⟨n1,rfl⟩:=Int.eq_ofNat_of_zero_le (bounds_u16 d).1;have a3:=(bounds_u16 d).2;have N:=K;have u:∀x ∈ p2,x.block<W.heap.size:=by obtain⟨m,r⟩:=N; exact DataW.trod_lt m _ _ _ r
 obtain⟨y,z,A,B,rfl⟩:=W8 Tryz.underlying71 Tryz.underlying5 (by kernel_rfl) (by kernel_rfl) (a 2 71 J rfl rfl) K;clear f b;refine(U6 (UR M n1 y z A B (laid7 P) w0 (by omega))).mono fun e W' ⟨he,bel⟩=>?_;subst he;exact⟨_,rfl,_,_,_,[],_,[],l,trodAll_mk1 (shut_bool Tryz.underlying4 _),(trodAll_cons_mk (Below.trod laidOut (by kernel_rfl) (of_decide_eq_true (by kernel_rfl)) L bel o) (trodAll_cons_mk (shut_int Tryz.underlying24 d) (trodAll_cons_mk (Below.trod laidOut (by kernel_rfl) (of_decide_eq_true (by kernel_rfl)) N bel u) trodAll_mk0))),rfl,bel.frame _,fun h=>by cases h⟩

theorem over:Rows.gzipChangedRow.holds Tryz.pinned (OpenSpec.ofChange Rows.gzipChangedSpec) :=
 OpenClaim.holds_of_wide 7 Tryz.f7 rfl rfl rfl rfl rfl rfl rfl ⟨rfl,rfl,rfl,rfl,rfl⟩ rfl rfl rfl rfl rfl (by kernel_rfl) Tryz.func7 (by kernel_rfl)
  (of_decide_eq_true (by kernel_rfl)) (by unfold Func.isWrapper; first | (rw [if_pos (by decide +kernel)]; kernel_rfl) | (rw [if_neg (by decide +kernel)]; exact⟨rfl,rfl⟩))
  (fun os started H enc _=>lifted os started H enc)
theorem row_proved:Rows.GzipChangedSaid:=over
theorem proved:Rows.GzipChangedCardSaid :=
  Claim7.holds_tied_plain_at .later [] [.data, .widerDeep, .widerDeep, .widerDeep, .widerDeep, .widerDeep, .widerDeep] true (true, "9ad7281e7110ef5d2c0524746f9211e8c6f525f031413f5546ca3d79be6bd6a8") true
    row_proved (fun _ h=>by cases h) (by kernel_rfl) (fun _ h=>by cases h) gzipChanged_row_tie rfl ⟨rfl,rfl⟩ (by kernel_rfl) rfl
    (fun f fn hf hfn=>by
      obtain rfl : f = 7 := Option.some.inj ((show Tryz.prog.funcNamed "portolan/portolanlaw08.GzipChanged" = some 7 by kernel_rfl).symm.trans hf) |>.symm
      obtain rfl:fn=Tryz.f7:=(Option.some.inj (Tryz.func7.symm.trans hfn)).symm
      exact⟨by kernel_rfl,fun j t ht=>by
        rw [Tryz.params7] at ht
        have hm:t ∈ [30,24,71]:=by simpa using Array.mem_of_getElem? ht
        have hall:([30,24,71].all fun u=>!Tryz.prog.wantsStandIn u)=true:=by kernel_rfl
        exact(show Tryz.prog.wantsStandIn t=false by simpa using List.all_eq_true.1 hall t hm)⟩)
    (by kernel_rfl)
#print axioms proved
end Go.Proofs.YtnjpnmpemhldcaaGreatDoor.gzipChanged

