/- A pack. -/
import Derived.ShutString
import Derived.Test.YteajimobgkempaaGreatDoorCards
import Derived.Test.YteajimobgkempaaGreatDoorTie
import Derived.Test.YteajimobgkempaaGreatDoorPk49
set_option linter.all false
set_option maxRecDepth 100000
set_option maxHeartbeats 8000000
namespace Go.Proofs.YteajimobgkempaaGreatDoor
open Go.ChangeShapes Go.WideShapes Go.ChangeAt Go.RowKit Go.Deep
structure OneV where
 h:PG.Hd
 B:Option Addr
 n:Nat
 c:Nat
 X:Option Addr
 m:Nat
 d:Nat
 b:List UInt8
instance:Inhabited OneV:=⟨⟨⟨0,0,0,0,[],[],[]⟩,none,0,0,none,0,0,[]⟩⟩
def OneV.cells (x:OneV):List Value:=[.int .u8 x.h.flags.toNat,.int .u8 x.h.level.toNat,.int .u8 x.h.system.toNat,.int .u32 x.h.time,.slice x.B x.n x.c,.string (strOf x.h.name),.string (strOf x.h.note),.slice x.X x.m x.d]
structure OneV.Ok (w:World) (x:OneV):Prop where
 e:x.h.extra.length=x.n
 eb:Byt w (.slice x.B x.n x.c) x.h.extra
 e1:x.n<=x.c
 e2:x.c<=maxLen
 m1:x.h.name.length<=maxLen
 m2:x.h.note.length<=maxLen
 t:x.h.time<4294967296
 b:x.b.length=x.m
 bb:Byt w (.slice x.X x.m x.d) x.b
 b1:x.m<=x.d
 b2:x.d<=maxLen
section
variable {H:Type} {enc:TypeId × Value->H} {P:Program} {w:World} {base:Nat} {held:Bool}
theorem W7 {t e:TypeId} {n:Nat} {c:Value} {y:DataW H × List MemPlace} (h1:P.underlying t=some (.slice e)) (h1b:P.underlying e=some (.int .u8)) (h1c:P.cellsOf e=1) (h:DataW.trod enc P w base (fun _=>true) held n t [c]=some y):∃A l k bs,c=.slice A l k/\bs.length=l/\Byt w (.slice A l k) bs/\l<=k/\k<=maxLen:=by
 obtain⟨B,o,f,rfl⟩:=cells1 h1 h;obtain⟨a,j,d,g,i,b⟩:=VZ (fun p:Nat=>Value.int .u8 p) (fun p=>p<256) h1 h1c (fun n c y h=>by
  obtain⟨k,d,_,m⟩:=DataW.trod_int h1b h;have b:=bounds_u8 m;obtain⟨q,rfl⟩:=Int.eq_ofNat_of_zero_le b.1;exact⟨q,by simpa using d,by have:=b.2; omega⟩) h
 subst d;refine⟨B,a.length,f,a.map UInt8.ofNat,rfl,by simp,⟨B,f,by simp,?_,by simpa using g,i⟩,g,i⟩;have:cells8 (a.map UInt8.ofNat)=a.map fun p:Nat=>Value.int .u8 p:=by
  unfold cells8;rw [List.map_map];refine List.map_congr_left fun p hp=>?_;have:=b p hp;show Value.int .u8 (((UInt8.ofNat p).toNat:Nat):Int)=_;rw [UInt8.toNat_ofNat',Nat.mod_eq_of_lt (by omega)]
 rw [this];exact j
theorem X5 {t:TypeId} {n:Nat} {c:Value} {y:DataW H × List MemPlace} (h0:P.underlying t=some (.int .u8)) (h:DataW.trod enc P w base (fun _=>true) held n t [c]=some y):∃u:UInt8,c=.int .u8 u.toNat:=by
 obtain⟨a,b,_,e⟩:=DataW.trod_int h0 h;replace b:c=.int .u8 a:=by simpa using b
 subst b;have d:=bounds_u8 e;obtain⟨f,rfl⟩:=Int.eq_ofNat_of_zero_le d.1;have:=d.2;exact⟨UInt8.ofNat f,by rw [UInt8.toNat_ofNat',Nat.mod_eq_of_lt (by omega)]⟩
theorem UU {t:TypeId} {n:Nat} {c:Value} {y:DataW H × List MemPlace} (h0:P.underlying t=some (.int .u32)) (h:DataW.trod enc P w base (fun _=>true) held n t [c]=some y):∃u:Nat,c=.int .u32 u/\u<4294967296:=by
 obtain⟨a,b,_,e⟩:=DataW.trod_int h0 h;replace b:c=.int .u32 a:=by simpa using b
 subst b;have d:=bounds_u32 e;obtain⟨f,rfl⟩:=Int.eq_ofNat_of_zero_le d.1;exact⟨f,rfl,by have:=d.2; omega⟩
theorem Wz {t:TypeId} {n:Nat} {c:Value} {y:DataW H × List MemPlace} (h0:P.underlying t=some .string) (h:DataW.trod enc P w base (fun _=>true) held n t [c]=some y):∃s:List UInt8,c=.string (strOf s)/\s.length<=maxLen:=by
 obtain⟨s,a,_,b⟩:=DataW.trod_string h0 h;replace a:c=.string s:=by simpa using a
 exact⟨s.data.toList,a,b⟩
theorem TH {e eb:TypeId} {f0 f1 f2 f3 f4 f5 f6:Field} (he:P.underlying e=some (.struct #[f0,f1,f2,f3,f4,f5,f6])) (hone:oneCellFields P #[f0,f1,f2,f3,f4,f5,f6]=true) (h0:P.underlying f0.type=some (.int .u8)) (h1:P.underlying f1.type=some (.int .u8)) (h2:P.underlying f2.type=some (.int .u8)) (h3:P.underlying f3.type=some (.int .u32))
  (h4:P.underlying f4.type=some (.slice eb)) (h4b:P.underlying eb=some (.int .u8)) (h4c:P.cellsOf eb=1) (h5:P.underlying f5.type=some .string) (h6:P.underlying f6.type=some .string)
  (n:Nat) (cs:List Value) (y:DataW H × List MemPlace) (hl:cs.length=7) (h:DataW.trod enc P w base (fun _=>true) held n e cs=some y):∃(hd:PG.Hd) (B:Option Addr) (l k:Nat),cs=[.int .u8 hd.flags.toNat,.int .u8 hd.level.toNat,.int .u8 hd.system.toNat,.int .u32 hd.time,.slice B l k,.string (strOf hd.name),.string (strOf hd.note)]/\hd.extra.length=l/\Byt w (.slice B l k) hd.extra/\l<=k/\k<=maxLen/\hd.name.length<=maxLen/\hd.note.length<=maxLen/\hd.time<4294967296:=by
 obtain⟨q,m,_,rfl,_,b,a⟩:=DataW.trod_struct he h
 match cs,hl,q,b with
 | [c0,c1,c2,c3,c4,c5,c6],_,[y0,y1,y2,y3,y4,y5,y6],_ =>
  have d:=a 0 f0 rfl;have f:=a 1 f1 rfl;have g:=a 2 f2 rfl;have i:=a 3 f3 rfl;have j:=a 4 f4 rfl;have o:=a 5 f5 rfl;have p:=a 6 f6 rfl;obtain⟨r,s⟩:=hone_of hone 0 f0 rfl;obtain⟨t,u⟩:=hone_of hone 1 f1 rfl;obtain⟨v,x⟩:=hone_of hone 2 f2 rfl;obtain⟨z,A⟩:=hone_of hone 3 f3 rfl;obtain⟨C,D⟩:=hone_of hone 4 f4 rfl;obtain⟨E,F⟩:=hone_of hone 5 f5 rfl;obtain⟨G,I⟩:=hone_of hone 6 f6 rfl;rw [r,s] at d;rw [t,u] at f;rw [v,x] at g;rw [z,A] at i;rw [C,D] at j;rw [E,F] at o;rw [G,I] at p;obtain⟨J,rfl⟩:=X5 (c:=c0) h0 d;obtain⟨K,rfl⟩:=X5 (c:=c1) h1 f;obtain⟨L,rfl⟩:=X5 (c:=c2) h2 g;obtain⟨M,rfl,N⟩:=UU (c:=c3) h3 i;obtain⟨B,l,k,O,rfl,Q,R,S,T⟩:=W7 (c:=c4) h4 h4b h4c j;obtain⟨U,rfl,V⟩:=Wz (c:=c5) h5 o;obtain⟨W,rfl,X⟩:=Wz (c:=c6) h6 p;exact⟨⟨J,K,L,M,O,U,W⟩,B,l,k,rfl,Q,R,S,T,V,X,N⟩
end
theorem OneV.Ok.keep {w w' : World} {x:OneV} (h:x.Ok w) (hs:∀b,b<w.heap.size->w'.heap[b]?=w.heap[b]?):x.Ok w' :=
 { h with eb:=h.eb.keep fun p _ hp=>World.cell?_of_block (hs p.block (Zr hp)),bb:=h.bb.keep fun p _ hp=>World.cell?_of_block (hs p.block (Zr hp)) }
open Go.ChangeShapes Go.WideShapes Go.ChangeAt Go.RowKit Go.Lib
theorem laid7 {W : World} (h : laidMetH Tryz.prog [("portolan/crc.table", Rows.laid_portolan_crc_table), ("portolan/deflate.order", Rows.laid_portolan_deflate_order), ("portolan/deflate.longs", Rows.laid_portolan_deflate_longs), ("portolan/deflate.fars", Rows.laid_portolan_deflate_fars), ("portolan/inflate.order", Rows.laid_portolan_inflate_order), ("portolan/inflate.lengths", Rows.laid_portolan_inflate_lengths), ("portolan/inflate.away", Rows.laid_portolan_inflate_away)] W) : CrcTab W /\ (∃ TL TA cl ca, Tabs TL TA cl ca W) /\ ∃ DL DF dl df, DTabs DL DF dl df W := by
 rw [MakeChecks.laidMetH_plain _ _ _ (by kernel_rfl)] at h;have hc:=W5 h;have h0 : VarReads Tryz.prog W "portolan/deflate.order" (Lib.tabData .i64 ordZ) := laidMet.reads h (by simp only [List.mem_cons]; exact .inr (.inl rfl))
 have h1 : VarReads Tryz.prog W "portolan/deflate.longs" (pairData PD.longT) := laidMet.reads h (by simp only [List.mem_cons]; exact .inr (.inr (.inl rfl)))
 have h2 : VarReads Tryz.prog W "portolan/deflate.fars" (pairData PI.awayT) := laidMet.reads h (by simp only [List.mem_cons]; exact .inr (.inr (.inr (.inl rfl))))
 have h3 : VarReads Tryz.prog W "portolan/inflate.order" (Lib.tabData .i64 ordZ) := laidMet.reads h (by simp only [List.mem_cons]; exact .inr (.inr (.inr (.inr (.inl rfl)))))
 have h4 : VarReads Tryz.prog W "portolan/inflate.lengths" (pairData PI.lengthsT) := laidMet.reads h (by simp only [List.mem_cons]; exact .inr (.inr (.inr (.inr (.inr (.inl rfl))))))
 have h5 : VarReads Tryz.prog W "portolan/inflate.away" (pairData PI.awayT) := laidMet.reads h (by simp only [List.mem_cons]; exact .inr (.inr (.inr (.inr (.inr (.inr (.inl rfl)))))))
 exact⟨hc,Y0 h3 h4 h5,YZ h0 h1 h2⟩
end Go.Proofs.YteajimobgkempaaGreatDoor

namespace Go.Proofs.YteajimobgkempaaGreatDoor.gzipPuts
open Go.ChangeShapes Go.WideShapes Go.ChangeAt Go.RowKit Go.WideMaps Go.WideElems
open Go.ChangeMaps (open_string shut_string)

theorem own:ownKnob Tryz.prog.godebug=none:=by kernel_rfl
theorem laidOut:laidOutB Tryz.prog=true:=by kernel_rfl
def laidL : List (String × DataW Unit) := [("portolan/crc.table", Rows.laid_portolan_crc_table), ("portolan/deflate.order", Rows.laid_portolan_deflate_order), ("portolan/deflate.longs", Rows.laid_portolan_deflate_longs), ("portolan/deflate.fars", Rows.laid_portolan_deflate_fars), ("portolan/inflate.order", Rows.laid_portolan_inflate_order), ("portolan/inflate.lengths", Rows.laid_portolan_inflate_lengths), ("portolan/inflate.away", Rows.laid_portolan_inflate_away)]
theorem door_met (os:Os) (args:Array Value):laidMetH Tryz.prog laidL ((World.doorLaid Tryz.prog 4000 os).forCall (fun _ _=>0) ⟨#[],args,[]⟩).memory :=
 laidMetH_of_parts3 (fuel:=10) (laidMet_of_run' 10 (by kernel_rfl) (by kernel_rfl)) (by kernel_rfl) (by kernel_rfl)
theorem lifted (os:Os) (started:os.Started) (H:Type) (enc:TypeId × Value->H) :
  ReturnsInHanded {} Tryz.checked os 4 .any (fun w args=>(Rows.gzipPutsSpec.pre enc Tryz.prog Tryz.f4 [] false w args/\laidMetH Tryz.prog laidL w)/\sizedMet enc Tryz.prog Tryz.f4 (OpenSpec.ofChange Rows.gzipPutsSpec) false w args)
   (Rows.gzipPutsSpec.post enc Tryz.prog Tryz.f4 false true false false):=by
 refine returnsInHanded_of_change_and (C:=Tryz.checked) (X:=fun w _=>laidMetH Tryz.prog laidL w) (fun _ _ _ hh h=>h.of_heap hh) own started (by kernel_rfl) Tryz.func4
  (ChangeSpec.witness_shaped (enc:=enc) (C:=Tryz.checked) (os:=os) (X:=fun w _=>laidMetH Tryz.prog laidL w) false (World.doorLaid Tryz.prog 4000 os) #[.agg #[.int .u8 0,.int .u8 0,.int .u8 0,.int .u32 0,.slice none 0 0,.string ⟨#[]⟩,.string ⟨#[]⟩],.slice none 0 0] 8 rfl (World.shaped_of_RefB (by kernel_rfl) (by kernel_rfl)) (by kernel_rfl) (by kernel_rfl) (by kernel_rfl) (door_met os _)) ?_
 intro W base args T gs z a J _ _ U _;have b:∀(j:Nat) t v,Tryz.f4.params[j]?=some t->args[j]?=some v->Value.okWide Tryz.prog W .any base t v:=a;have A:=J;obtain⟨p,q,n,V,rfl,Y,Z⟩:=J;have K:DataW.TrodAll enc Tryz.prog W 0 (fun _=>true) true Tryz.f4.params.toList args.toList T p:=n;rw [Tryz.params4] at K b;obtain⟨L,a0,d0,a2,p0,q0,D,rfl,rfl,M,r0⟩:=trodAll_cons K;obtain⟨N,a3,d1,a4,p1,q1,rfl,rfl,rfl,O,r1⟩:=trodAll_cons r0;obtain⟨rfl,rfl,rfl⟩:=trodAll_nil r1;obtain rfl:args=#[L,N]:=by cases args; simp_all
 obtain⟨rfl,rfl⟩:=trodVars_none V;obtain⟨g,rfl,o⟩:=okWide_struct Tryz.underlying45 (b 0 45 L rfl rfl);have P:=M;have E:∀x ∈ p0,x.block<W.heap.size:=by obtain⟨m,r⟩:=P; exact DataW.trod_lt m _ _ _ r
 obtain⟨i,Q,s,u,F,w0⟩:∃(hd:PG.Hd) (B:Option Addr) (l k:Nat),g.toList=[.int .u8 hd.flags.toNat,.int .u8 hd.level.toNat,.int .u8 hd.system.toNat,.int .u32 hd.time,.slice B l k,.string (strOf hd.name),.string (strOf hd.note)]/\(hd.extra.length=l/\Byt W (.slice B l k) hd.extra/\l<=k/\k<=maxLen/\hd.name.length<=maxLen/\hd.note.length<=maxLen/\hd.time<4294967296):=by
  obtain⟨d,G⟩:=M;exact TH Tryz.underlying45 (by kernel_rfl) Tryz.underlying5 Tryz.underlying5 Tryz.underlying5 Tryz.underlying43 Tryz.underlying24 Tryz.underlying5 (by kernel_rfl) Tryz.underlying9 Tryz.underlying9 d g.toList _ (by rw [Array.length_toList,o]; kernel_rfl) G
 obtain rfl:g=([.int .u8 i.flags.toNat,.int .u8 i.level.toNat,.int .u8 i.system.toNat,.int .u32 i.time,.slice Q s u,.string (strOf i.name),.string (strOf i.note)]:List Value).toArray:=by rw [<- F]
 obtain⟨R,y,f,rfl⟩:=okWide_slice Tryz.underlying24 (b 1 24 N rfl rfl);have S:=O;have I:∀x ∈ p1,x.block<W.heap.size:=by obtain⟨m,r⟩:=S; exact DataW.trod_lt m _ _ _ r
 obtain⟨z1,w1⟩:∃zs,IsRow .u8 W R y f zs:=by
  obtain⟨d,G⟩:=O;rcases open_ints Tryz.underlying24 Tryz.underlying5 (by kernel_rfl) G with ⟨hcs,_⟩ | ⟨x,l,c,zs,hcs,_,hl,r,hz,_,hcell,hwz⟩
  ·simp [Value.cells] at hcs;obtain⟨rfl,rfl,rfl⟩:=hcs;exact⟨[],.inl ⟨rfl,rfl,rfl,rfl⟩⟩
  ·simp [Value.cells] at hcs;obtain⟨rfl,rfl,rfl⟩:=hcs;exact⟨zs,.inr ⟨_,rfl,hl,r,by simpa using hz,hcell,hwz⟩⟩
 obtain⟨l1,rfl,b1⟩:=w1.byt;clear n a;refine(U4 (Uf i Q s u R f l1 (laid7 U) w0 b1)).mono fun e W' ⟨he,bel⟩=>?_;subst he;exact⟨_,rfl,_,_,_,[],_,[],A,trodAll_mk1 (shut_bool Tryz.underlying4 _),(trodAll_cons_mk (Below.trod laidOut (by kernel_rfl) (of_decide_eq_true (by kernel_rfl)) P bel E) (trodAll_cons_mk (Below.trod laidOut (by kernel_rfl) (of_decide_eq_true (by kernel_rfl)) S bel I) trodAll_mk0)),rfl,bel.frame _,fun h=>by cases h⟩

theorem over:Rows.gzipPutsRow.holds Tryz.pinned (OpenSpec.ofChange Rows.gzipPutsSpec) :=
 OpenClaim.holds_of_wide 4 Tryz.f4 rfl rfl rfl rfl rfl rfl rfl ⟨rfl,rfl,rfl,rfl,rfl⟩ rfl rfl rfl rfl rfl (by kernel_rfl) Tryz.func4 (by kernel_rfl)
  (of_decide_eq_true (by kernel_rfl)) (by unfold Func.isWrapper; first | (rw [if_pos (by decide +kernel)]; kernel_rfl) | (rw [if_neg (by decide +kernel)]; exact⟨rfl,rfl⟩))
  (fun os started H enc _=>lifted os started H enc)
theorem row_proved:Rows.GzipPutsSaid:=over
theorem proved:Rows.GzipPutsCardSaid :=
  Claim7.holds_tied_plain_at .later [] [.data, .widerDeep, .widerDeep, .widerDeep, .widerDeep, .widerDeep, .widerDeep] true (true, "27d53ff23e47aaac682ee40bd73e2114f13cbc7bd62e7df6e02bbdd7d79aa937") true
    row_proved (fun _ h=>by cases h) (by kernel_rfl) (fun _ h=>by cases h) gzipPuts_row_tie rfl ⟨rfl,rfl⟩ (by kernel_rfl) rfl
    (fun f fn hf hfn=>by
      obtain rfl : f = 4 := Option.some.inj ((show Tryz.prog.funcNamed "portolan/portolanlaw08.GzipPuts" = some 4 by kernel_rfl).symm.trans hf) |>.symm
      obtain rfl:fn=Tryz.f4:=(Option.some.inj (Tryz.func4.symm.trans hfn)).symm
      exact⟨by kernel_rfl,fun j t ht=>by
        rw [Tryz.params4] at ht
        have hm:t ∈ [45,24]:=by simpa using Array.mem_of_getElem? ht
        have hall:([45,24].all fun u=>!Tryz.prog.wantsStandIn u)=true:=by kernel_rfl
        exact(show Tryz.prog.wantsStandIn t=false by simpa using List.all_eq_true.1 hall t hm)⟩)
    (by kernel_rfl)
#print axioms proved
end Go.Proofs.YteajimobgkempaaGreatDoor.gzipPuts

