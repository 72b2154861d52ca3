/- A pack. -/
import Derived.Stop.BytesEq
import Derived.Test.YtnjpnmpemhldcaaGreatDoorPk50
set_option linter.all false
set_option maxRecDepth 100000
set_option maxHeartbeats 8000000
namespace Go.Proofs.YtnjpnmpemhldcaaGreatDoor
variable {w0 w:World} {L:List Pr}
open Go.RowKit
theorem ZY (k:Nat) (h:k<=1000000000):IntKind.i64.wrap (k:Int)=(k:Int):=by
 simp [IntKind.wrap,IntKind.bits,IntKind.signed];omega
theorem TR {α:Type} {l m:List α} {j:Nat} {v:α} (h:l[j]?=some v):(l++m)[j]?=some v:=by rw [List.getElem?_append_left (List.getElem?_eq_some_iff.1 h).1]; exact h
theorem GEnd.got {w0:World} {T:Except Nat (PG.Hd × List UInt8 × Nat)} {hd:PG.Hd} {out:List UInt8} {a:Nat} (h:T=.ok (hd,out,a)) {e:Ending} {w' : World} (k:GEnd w0 L T e w'):∃A ce OA oc,e=.returned (.tuple #[.agg #[.int .u8 hd.flags.toNat,.int .u8 hd.level.toNat,.int .u8 hd.system.toNat,.int .u32 hd.time,.slice A hd.extra.length ce,.string (strOf hd.name),.string (strOf hd.note)],.slice OA out.length oc,.int .i64 a,.int .i64 0])/\Sp w0 (Row 5 1 (.slice OA out.length oc) out.length (cells8 out)::Row 5 1 (.slice A hd.extra.length ce) hd.extra.length (cells8 hd.extra)::L) w':=by
 subst h; exact k
theorem GEnd.bad {w0:World} {T:Except Nat (PG.Hd × List UInt8 × Nat)} {c:Nat} (h:T=.error c) {e:Ending} {w' : World} (k:GEnd w0 L T e w'):e=.returned (.tuple #[.agg #[.int .u8 0,.int .u8 0,.int .u8 0,.int .u32 0,.slice none 0 0,.string ⟨#[]⟩,.string ⟨#[]⟩],.slice none 0 0,.int .i64 0,.int .i64 c])/\Sp w0 L w':=by
 subst h; exact k
def exV:Value->Value
 | .agg a=>a.getD 4 undef
 | _=>undef
theorem UO (h:PG.Hd) (B0:Option Addr) (n c:Nat) (BX:Option Addr) (nx cx:Nat) (xb:List UInt8) (at_:Nat) (b0 b1 b2 b3:UInt8) {TL TA:Option Addr} {cl ca:Nat} {DL DF:Option Addr} {dl df:Nat} (H:Sp w0 L w) (hct:Ent L CrcTab) (hT:Ent L (Tabs TL TA cl ca)) (hD:Ent L (DTabs DL DF dl df))
  (hn:h.extra.length=n) (hb:Ent L fun w=>Byt w (.slice B0 n c) h.extra) (hnc:n<=c) (hcm:c<=maxLen) (hm1:h.name.length<=maxLen) (hm2:h.note.length<=maxLen) (ht:h.time<4294967296)
  (hnx:xb.length=nx) (hbx:Ent L fun w=>Byt w (.slice BX nx cx) xb) (hnxc:nx<=cx) (hcxm:cx<=maxLen) (hat:at_<65536) :
  Calls Tryz.prog 7 #[.agg #[.int .u8 h.flags.toNat,.int .u8 h.level.toNat,.int .u8 h.system.toNat,.int .u32 h.time,.slice B0 n c,.string (strOf h.name),.string (strOf h.note),.slice BX nx cx],.int .u16 at_,.agg #[.int .u8 b0.toNat,.int .u8 b1.toNat,.int .u8 b2.toNat,.int .u8 b3.toNat]] w fun e w'=>e=.returned (.bool true)/\Sp w0 L w':=by
 obtain⟨hm,a9⟩:∃q,PG.made h=q:=⟨_,rfl⟩;have e6:PG.Ok hm:=by rw [<- a9]; exact PG.made_ok h
 have e8:hm.time<4294967296:=by rw [<- a9]; exact ht
 obtain⟨y,f0⟩:∃q,hm.extra.length=q:=⟨_,rfl⟩;obtain⟨nb,g6⟩:∃q,min nx 600=q:=⟨_,rfl⟩;have i8:min (nx:Int) 600=(nb:Int):=by omega
 have i9:nb<=600:=by omega
 have f1:nb<=nx:=by omega
 have j4:(nb:Int)<=(cx:Int):=by omega
 obtain⟨b,b9⟩:∃q,xb.take nb=q:=⟨_,rfl⟩;have a0:b.length=nb:=by rw [<- b9,List.length_take]; omega
 have HN:=hid hn;have g7:=hid hcm;have g8:=hid hm1;have g9:=hid hm2;have h0:=hid a9;have c7:=hid f0;have a1:=hid e6;have b4:=hid e8;have a:=hid a0;have f2:=hid hcxm;have D:=hid hct;have HT:=hid hT;have HD:=hid hD;have HB:Hid (Ent L fun w=>Byt w (.slice BX nb cx) b):=hid fun _ _ q=>by
  have:=(hbx _ _ q).take nb (by rw [hnx]; exact f1);rw [b9] at this;exact this
 have H1:=(H.newBk [.int .u8 h.flags.toNat,.int .u8 h.level.toNat,.int .u8 h.system.toNat,.int .u32 h.time,.slice B0 n c,.string (strOf h.name),.string (strOf h.note),.slice BX nx cx] 30).newBk [.int .u8 b0.toNat,.int .u8 b1.toNat,.int .u8 b2.toNat,.int .u8 b3.toNat] 71;have es:(w.alloc (.cells #[.int .u8 h.flags.toNat,.int .u8 h.level.toNat,.int .u8 h.system.toNat,.int .u32 h.time,.slice B0 n c,.string (strOf h.name),.string (strOf h.note),.slice BX nx cx] 30)).heap.size=w.heap.size+1:=Array.size_push _;rw [es] at H1;have KK:=hid H1;have h3:=hid hb;clear a9 e6 e8 f0 g6 b9 a0 hn hcm hm1 hm2 hct hT hD hbx hnx hcxm ht H1 es H hb;go_enter Tryz.func7,Tryz.ntmps7
 go_wp2_with fail
 obtain⟨u,f3⟩:∃g,w.heap.size+1=g:=⟨_,rfl⟩;rw [f3] at KK ⊢;clear f3;generalize World.alloc _ _=wq at KK ⊢;generalize w.heap.size=g1 at KK ⊢;have LH:Hid (Ent (Bk u 71 [.int .u8 b0.toNat,.int .u8 b1.toNat,.int .u8 b2.toNat,.int .u8 b3.toNat]::Bk g1 30 [.int .u8 h.flags.toNat,.int .u8 h.level.toNat,.int .u8 h.system.toNat,.int .u32 h.time,.slice B0 n c,.string (strOf h.name),.string (strOf h.note),.slice BX nx cx]::L) fun w=>∀j v,([.int .u8 h.flags.toNat,.int .u8 h.level.toNat,.int .u8 h.system.toNat,.int .u32 h.time,.slice B0 n c,.string (strOf h.name),.string (strOf h.note)]:List Value)[j]?=some v->w.cell? ((⟨g1,0,none⟩:Addr).add j)=some v):=hid fun _ _ q j v hj=>by
  have k:([.int .u8 h.flags.toNat,.int .u8 h.level.toNat,.int .u8 h.system.toNat,.int .u32 h.time,.slice B0 n c,.string (strOf h.name),.string (strOf h.note)]++[(.slice BX nx cx:Value)])[j]?=some v:=TR hj;exact Zl q 1 rfl j v k
 have L7:Hid (Ent (Bk u 71 [.int .u8 b0.toNat,.int .u8 b1.toNat,.int .u8 b2.toNat,.int .u8 b3.toNat]::Bk g1 30 [.int .u8 h.flags.toNat,.int .u8 h.level.toNat,.int .u8 h.system.toNat,.int .u32 h.time,.slice B0 n c,.string (strOf h.name),.string (strOf h.note),.slice BX nx cx]::L) fun w=>w.cell? ⟨g1,7,none⟩=some (.slice BX nx cx)):=hid fun _ _ q=>q.cell 1 rfl 7;have LX:Hid (Ent (Bk u 71 [.int .u8 b0.toNat,.int .u8 b1.toNat,.int .u8 b2.toNat,.int .u8 b3.toNat]::Bk g1 30 [.int .u8 h.flags.toNat,.int .u8 h.level.toNat,.int .u8 h.system.toNat,.int .u32 h.time,.slice B0 n c,.string (strOf h.name),.string (strOf h.note),.slice BX nx cx]::L) fun w=>Byt w (.slice B0 n c) h.extra):=hid fun _ _ q=>h3.out _ _ q.tail2;refine Zn (L:=Bk u 71 [.int .u8 b0.toNat,.int .u8 b1.toNat,.int .u8 b2.toNat,.int .u8 b3.toNat]::Bk g1 30 [.int .u8 h.flags.toNat,.int .u8 h.level.toNat,.int .u8 h.system.toNat,.int .u32 h.time,.slice B0 n c,.string (strOf h.name),.string (strOf h.note),.slice BX nx cx]::L) [some (.pointer (some ⟨g1,0,none⟩)),some (.agg #[.int .u8 h.flags.toNat,.int .u8 h.level.toNat,.int .u8 h.system.toNat,.int .u32 h.time,.slice B0 n c,.string (strOf h.name),.string (strOf h.note)]),none,some (.pointer (some ⟨g1,7,none⟩)),some (.slice BX nx cx),some (.pointer (some ⟨g1,7,none⟩)),some (.slice BX nx cx),some (.int .i64 nx),some (.int .i64 nb),some (.slice BX nb cx),none,some (undef),some (.slice BX nb cx)] (fun ix ux vx=>match ix with | 2=>(fun vv=>vv=.agg #[.int .u8 hm.flags.toNat,.int .u8 hm.level.toNat,.int .u8 hm.system.toNat,.int .u32 hm.time,(exV vv),.string (strOf hm.name),.string (strOf hm.note)]) vx | 10=>(fun vv=>vv=.pointer (some ⟨ptrB vv,0,none⟩)) vx | _=>True) (fun ix ux vx=>match ix with | 2=>(fun vv=>[Row 5 1 (exV vv) y (cells8 hm.extra)]) vx | 10=>(fun vv=>[Bk (ptrB vv) 28 [.int .u8 0,.int .u8 0,.int .u8 0,.int .u32 0,.slice none 0 0,.string ⟨#[]⟩,.string ⟨#[]⟩]]) vx | 11=>(fun _=>[Ex fun ve=>Star (Bk (ptrB ux) 28 [.int .u8 hm.flags.toNat,.int .u8 hm.level.toNat,.int .u8 hm.system.toNat,.int .u32 hm.time,ve,.string (strOf hm.name),.string (strOf hm.note)]) (Row 5 1 ve y (cells8 hm.extra))]) vx | _=>[]) (fun _=>[]) 13 145
  [some 21,some 22,some 23,some 24,some 25,some 26,some 27,some 28,some 29,some 30,some 7,none,some 8]
  [[],[0],[1],[],[3],[],[5],[6],[7],[4,8],[],[10,2,2,0,1,2,10],[9,11,0,1,2,3,4,5,6,7,8,9,10,11]]
  [[],[0],[0,1],[],[3],[],[5],[5,6],[5,6,7],[3,4,5,6,7,8],[],[0,1,2,10],[0,1,2,3,4,5,6,7,8,9,10,11]]
  [[],[],[],[],[],[],[],[],[],[],[],[10,2],[]] [[],[],[],[],[],[],[],[],[],[],[],[],[]] [none,none,none,none,none,none,none,none,none,none,none,some 10,none] [(3,.pointer (some ⟨g1,0,none⟩)),(5,.pointer (some ⟨u,0,none⟩))]
  (by kernel_rfl) rfl (by decide) (by rfl) (by decide +kernel) rfl (by simp) (by rfl) (KK.out) ?hstep ?hend
 case hstep =>
  refine⟨?p0,⟨?p1,⟨?p2,⟨?p3,⟨?p4,⟨?p5,⟨?p6,⟨?p7,⟨?p8,⟨?p9,⟨?p10,⟨?p11,⟨?p12,trivial⟩⟩⟩⟩⟩⟩⟩⟩⟩⟩⟩⟩⟩
  case p0 | p3 | p5 | p7 | p8 | p9 | p12 =>
   intro x wx A p Q s U H K I;replace I:=hid I;clear s U;repeat (obtain⟨_,Q⟩:=Q)
   refine so ?_;go_step;exact I.out _ _ rfl H
  case p1 =>
   intro x wx A p Q s U H K d;have h4:A.tmps[21]?.getD undef=.pointer (some ⟨g1,0,none⟩):=tq s 0;have I:=hid d;clear d Q s;have hc:=U _ LH.out _ _ H;refine so ?_;exact Ze 28 _ rfl _ [.int .u8 h.flags.toNat,.int .u8 h.level.toNat,.int .u8 h.system.toNat,.int .u32 h.time,.slice B0 n c,.string (strOf h.name),.string (strOf h.note)] (ev h4) hc Tryz.isAgg28 Tryz.sizeOf28 (I.out _ _ rfl H)
  case p2 =>
   intro x wx A p Q s U H K d;have j5:A.tmps[22]?.getD undef=.agg #[.int .u8 h.flags.toNat,.int .u8 h.level.toNat,.int .u8 h.system.toNat,.int .u32 h.time,.slice B0 n c,.string (strOf h.name),.string (strOf h.note)]:=tq s 1;have I:=hid d;clear d Q s;have HW:=hid (UN h B0 n c H HN.out (U _ LX.out) hnc g7.out g8.out g9.out);rw [h0.out] at HW;refine so ?_;go_wp2_with fail
   refine HW.out.mono ?_;rintro _ w9 ⟨V,j7,W,rfl,b8,H9⟩;rw [c7.out] at b8;subst b8;exact I.out _ _ rfl H9
  case p4 =>
   intro x wx A p Q s U H K d;have j8:A.tmps[24]?.getD undef=.pointer (some ⟨g1,7,none⟩):=tq s 3;have I:=hid d;clear d Q s;have cc:=U _ L7.out _ _ H;refine so ?_;go_step;exact I.out _ _ rfl H
  case p6 =>
   intro x wx A p Q s U H K d;have j9:A.tmps[26]?.getD undef=.pointer (some ⟨g1,7,none⟩):=tq s 5;have I:=hid d;clear d Q s;have cc:=U _ L7.out _ _ H;refine so ?_;go_step;exact I.out _ _ rfl H
  case p10 =>
   intro x wx A p Q s U H K d;have I:=hid d;clear d Q s U;refine so ?_;go_step;exact I.out _ _ rfl (H.newBk _ _)
  case p11 =>
   intro x wx A p Q s U H K d;have q7:(x 10)=.pointer (some ⟨ptrB (x 10),0,none⟩):=(s 10 (by decide)).1;have e7:A.tmps[7]?.getD undef=x 10:=(s 10 (by decide)).2 7 rfl;have f4:(x 2)=.agg #[.int .u8 hm.flags.toNat,.int .u8 hm.level.toNat,.int .u8 hm.system.toNat,.int .u32 hm.time,(exV (x 2)),.string (strOf hm.name),.string (strOf hm.note)]:=(s 2 (by decide)).1;have h5:A.tmps[23]?.getD undef=x 2:=(s 2 (by decide)).2 23 rfl;replace H:Sp w0 ((Bk (ptrB (x 10)) 28 [.int .u8 0,.int .u8 0,.int .u8 0,.int .u32 0,.slice none 0 0,.string ⟨#[]⟩,.string ⟨#[]⟩])::(Row 5 1 (exV (x 2)) y (cells8 hm.extra))::p) wx:=H;have I:Hid (∀(v:Value) (w' : World),(v=undef)->Sp w0 ((Ex fun ve=>Star (Bk (ptrB (x 10)) 28 [.int .u8 hm.flags.toNat,.int .u8 hm.level.toNat,.int .u8 hm.system.toNat,.int .u32 hm.time,ve,.string (strOf hm.name),.string (strOf hm.note)]) (Row 5 1 ve y (cells8 hm.extra)))::p) w'->K (A.put none v) w'):=hid d;clear d Q s U;obtain⟨V,W,h6,_,_⟩:=Row.form H 1 rfl;rw [h6] at H f4;obtain⟨w9,h7,H9⟩:=Yv (P:=Tryz.prog) [.int .u8 hm.flags.toNat,.int .u8 hm.level.toNat,.int .u8 hm.system.toNat,.int .u32 hm.time,.slice V y W,.string (strOf hm.name),.string (strOf hm.note)] 0 _ wx H (by show 0+7<=7; omega) (VX _ _ _ _ _ _ _ _ _);refine so ?_;exact Zm 28 _ _ rfl _ [.int .u8 hm.flags.toNat,.int .u8 hm.level.toNat,.int .u8 hm.system.toNat,.int .u32 hm.time,.slice V y W,.string (strOf hm.name),.string (strOf hm.note)] (ev (e7.trans q7)) (ev (h5.trans f4)) h7 Tryz.sizeOf28 (I.out undef _ rfl (Sp.ex (A:=fun ve=>Star (Bk (ptrB (x 10)) 28 [.int .u8 hm.flags.toNat,.int .u8 hm.level.toNat,.int .u8 hm.system.toNat,.int .u32 hm.time,ve,.string (strOf hm.name),.string (strOf hm.note)]) (Row 5 1 ve y (cells8 hm.extra))) (.slice V y W) H9.star))
 case hend =>
  intro x wx A hA s H;replace H:Sp w0 ((Ex fun ve=>Star (Bk (ptrB (x 10)) 28 [.int .u8 hm.flags.toNat,.int .u8 hm.level.toNat,.int .u8 hm.system.toNat,.int .u32 hm.time,ve,.string (strOf hm.name),.string (strOf hm.note)]) (Row 5 1 ve y (cells8 hm.extra)))::Bk u 71 [.int .u8 b0.toNat,.int .u8 b1.toNat,.int .u8 b2.toNat,.int .u8 b3.toNat]::Bk g1 30 [.int .u8 h.flags.toNat,.int .u8 h.level.toNat,.int .u8 h.system.toNat,.int .u32 h.time,.slice B0 n c,.string (strOf h.name),.string (strOf h.note),.slice BX nx cx]::L) wx:=H;have d0:(x 10)=.pointer (some ⟨ptrB (x 10),0,none⟩):=s 10 (by decide);have f5:x 12=.slice BX nb cx:=s 12 (by decide);clear s;simp only [putAll,Act.put,List.setIfInBounds_toArray,List.set_cons_succ,List.set_cons_zero,Nat.reduceAdd] at hA;subst hA;obtain⟨X,f6⟩:∃g,ptrB (x 10)=g:=⟨_,rfl⟩;rw [f6] at d0 H;rw [d0,f5];clear d0 f5 f6 KK LH L7;obtain⟨ve,H⟩:=H.unex;replace H:=H.unstar;obtain⟨V,W,rfl,j0,j1⟩:=Row.form H 1 rfl;have K5:=H;clear H;have c0:wx.cell? ⟨X,0,none⟩=some (.int .u8 hm.flags.toNat):=K5.cell 0 rfl 0;have c1:wx.cell? ⟨X,1,none⟩=some (.int .u8 hm.level.toNat):=K5.cell 0 rfl 1;have c2:wx.cell? ⟨X,2,none⟩=some (.int .u8 hm.system.toNat):=K5.cell 0 rfl 2;have c3:wx.cell? ⟨X,3,none⟩=some (.int .u32 hm.time):=K5.cell 0 rfl 3;have c4:wx.cell? ⟨X,4,none⟩=some (.slice V y W):=K5.cell 0 rfl 4;have c5:wx.cell? ⟨X,5,none⟩=some (.string (strOf hm.name)):=K5.cell 0 rfl 5;have c6:wx.cell? ⟨X,6,none⟩=some (.string (strOf hm.note)):=K5.cell 0 rfl 6;have HP:=hid (VU hm V y W BX nb cx K5 c7.out.symm a1.out b4.out (fun _ _ q=>ZS q 1 rfl c7.out.symm) (fun _ _ q=>D.out _ _ (q.pick 4 [])) (fun _ _ q=>HD.out _ _ (q.pick 4 [])) b a.out.symm (by omega) (by omega) f2.out (fun _ _ q=>HB.out _ _ (q.pick 4 [])));unfold hdV at HP;have f7:=PG.put_ge hm b;have f8:(PG.put hm b).length<=300000:=by
   have h1:=Wq hm a1.out;have h2:=PD.defl_le2 b (by rw [a.out]; omega);rw [PG.put_len];omega
  obtain⟨M,hM⟩:∃q,PG.put hm b=q:=⟨_,rfl⟩;rw [hM] at HP f7 f8;obtain⟨nm,d1⟩:∃q,M.length=q:=⟨_,rfl⟩;rw [d1] at HP f7 f8;have b5:=hid hM;have m:=hid d1;clear hM d1;go_wp2_with fail
  refine HP.out.mono ?_;rintro _ w2 ⟨v2,rfl,K6⟩;clear HP c0 c1 c2 c3 c4 c5 c6 K5;obtain⟨A2,d2,rfl,k0,j2⟩:=Row.form K6 0 rfl;obtain⟨i0,hi,d4,d5,d7⟩:=info_parts info8;have k1:¬ (nm:Int)<18:=by omega
  go_wp2_with (at_builtin; refine Za rfl _ _ 23 rfl 5 i0 (.int .u8 0) 1 1 Tryz.underlying23 hi d4 d5 d7 rfl (by decide) (.slice none 0 0) 0 [] rfl (K6.rowNil _ _) A2 nm d2 (cells8 M) rfl (by rw [Zo,m.out]) (rowRd K6 0 rfl) (Zh _) (by unfold maxLen; omega) (by omega) ?_)
  intro v3 w3 K7 _;obtain⟨A3,d3,rfl,h8,f9⟩:=Row.form K7 0 rfl;clear K6;obtain⟨j,hj⟩:∃q,at_ % 5=q:=⟨_,rfl⟩;have i1:j<=4:=by omega
  obtain⟨p0,i2⟩:∃q,nm - 8=q:=⟨_,rfl⟩;obtain⟨J,i3⟩:∃q,p0+j=q:=⟨_,rfl⟩;have ya:(nm:Int) - 8=(p0:Int):=by omega
  have yb:(at_:Int) % 5=(j:Int):=by omega
  have yc:(p0:Int)+(j:Int)=(J:Int):=by omega
  have k2:J+4<=nm:=by omega
  have HJ:=hid hj;have i4:Hid (J=(PG.put hm b).length - 8+j):=hid (by rw [b5.out,m.out]; omega);have KL:=hid K7;obtain⟨Y,a0⟩:∃q,[b0,b1,b2,b3]=q:=⟨_,rfl⟩;have R:=hid a0;clear hj i2 i3 K7 a0;go_wp2_with fail
  clear ya yb yc;go_loopw [53] (fun iv wr=>∃i:Nat,iv=.int .i64 i/\i<=4/\Sp w0 (Row 5 1 (.slice A3 nm d3) nm (cells8 (PG.tl M J Y i))::Row 5 1 (.slice A2 nm d2) nm (cells8 M)::Bk X 28 [.int .u8 hm.flags.toNat,.int .u8 hm.level.toNat,.int .u8 hm.system.toNat,.int .u32 hm.time,.slice V y W,.string (strOf hm.name),.string (strOf hm.note)]::Row 5 1 (.slice V y W) y (cells8 hm.extra)::Bk u 71 [.int .u8 b0.toNat,.int .u8 b1.toNat,.int .u8 b2.toNat,.int .u8 b3.toNat]::Bk g1 30 [.int .u8 h.flags.toNat,.int .u8 h.level.toNat,.int .u8 h.system.toNat,.int .u32 h.time,.slice B0 n c,.string (strOf h.name),.string (strOf h.note),.slice BX nx cx]::L) wr) (fun iv _=>4 - (intOf iv).toNat)
  case atStart=>exact⟨0,rfl,by decide,KL.out⟩
  case round =>
   clear KL;obtain⟨i,rfl,i5,K8⟩:=hrel;by_cases i6:i<4
   ·have yi:(i:Int)<4:=by omega
    obtain⟨ki,g0⟩:∃q,J+i=q:=⟨_,rfl⟩;have ya:(J:Int)+(i:Int)=(ki:Int):=by omega
    have yb:(ki:Int)<(nm:Int):=by omega
    have j3:ki<=300000:=by omega
    have yw:IntKind.i64.wrap (ki:Int)=(ki:Int):=ZY ki (by omega);obtain⟨Z,c9,a2,_,hc,hz,r⟩:=K8.rowSet (i:=ki) (by omega);injection a2 with ea eb ec
    subst ea ec;clear eb;obtain⟨S,z⟩:∃q,(PG.tl M J Y i).getD ki 0=q:=⟨_,rfl⟩;obtain⟨yv,d8⟩:∃q,Y.getD i 0=q:=⟨_,rfl⟩;have b6:wr.cell? (Z.add ki)=some (.int .u8 S.toNat):=by rw [hc,Yj _ _ (by rw [PG.tl_len,m.out]; omega),z]
    have b7:wr.cell? ⟨u,i,none⟩=some (.int .u8 yv.toNat):=by
     rw [K8.cell 4 rfl i,<- d8,<- R.out];have:i=0∨i=1∨i=2∨i=3:=by omega
     rcases this with rfl | rfl | rfl | rfl <;> rfl
    have yx:bits .xor .u8 (S.toNat:Int) (yv.toNat:Int)=((S ^^^ yv).toNat:Int):=by
     rw [u8_xor_nat _ _ (UInt8.toNat_lt _) (UInt8.toNat_lt _),UInt8.toNat_xor]
    obtain⟨N,B⟩:∃q,S ^^^ yv=q:=⟨_,rfl⟩;rw [B] at yx;have l:Sp w0 (Row 5 1 (.slice (some Z) nm d3) nm (cells8 (PG.tl M J Y (i+1)))::Row 5 1 (.slice A2 nm d2) nm (cells8 M)::Bk X 28 [.int .u8 hm.flags.toNat,.int .u8 hm.level.toNat,.int .u8 hm.system.toNat,.int .u32 hm.time,.slice V y W,.string (strOf hm.name),.string (strOf hm.note)]::Row 5 1 (.slice V y W) y (cells8 hm.extra)::Bk u 71 [.int .u8 b0.toNat,.int .u8 b1.toNat,.int .u8 b2.toNat,.int .u8 b3.toNat]::Bk g1 30 [.int .u8 h.flags.toNat,.int .u8 h.level.toNat,.int .u8 h.system.toNat,.int .u32 h.time,.slice B0 n c,.string (strOf h.name),.string (strOf h.note),.slice BX nx cx]::L) (wr.setCell (Z.add ki) (.int .u8 N.toNat)):=by
     have k:=r (.int .u8 N.toNat);have e9:cells8 (PG.tl M J Y (i+1))=(cells8 (PG.tl M J Y i)).set ki (.int .u8 N.toNat):=by
      show cells8 ((PG.tl M J Y i).set (J+i) ((PG.tl M J Y i).getD (J+i) 0 ^^^ Y.getD i 0))=_;rw [g0,z,d8,B];unfold cells8;rw [List.map_set]
     rw [e9];exact k
    replace l:=hid l;clear hc r g0 z d8 B K8;go_wp2_with fail
    go_still_tail 11,(by kernel_rfl)
    change wpList _ _ _ _ _ wr.drew;go_wp2_with fail
    go_roundw
    case rel=>exact⟨i+1,by go_num,by omega,l.out.drew⟩
    case measure=>first | (simp [intOf]; omega) | simp [intOf]
   ·obtain rfl:i=4:=by omega
    clear i6 i5;have g4:Y.length=4:=by rw [<- R.out]; rfl
    have T:=PG.get_tl hm a1.out b4.out b j i1 Y g4 1000 (by rw [a.out]; omega) (by rw [a.out]; omega);rw [<- i4.out,b5.out,m.out] at T;obtain⟨tt,d9⟩:∃q,PG.tl M J Y 4=q:=⟨_,rfl⟩;rw [d9] at T K8;have e0:tt.length=nm:=by rw [<- d9,PG.tl_len,m.out]
    have HG:=hid (Xy A3 nm d3 tt 1000 K8 (fun _ _ q=>ZS q 0 rfl e0.symm) (fun _ _ q=>D.out _ _ (q.pick 6 [])) (fun _ _ q=>HT.out _ _ (q.pick 6 [])) e0 (by omega) (by decide) h8 f9);rw [T] at HG;clear T d9 e0 g4 K8;go_wp2_with fail
    refine HG.out.mono ?_;intro e9 w4 k;clear HG;by_cases hz:Y=[0,0,0,0]
    ·obtain⟨A5,c5,A6,c6,rfl,l⟩:=GEnd.got (if_pos hz) k;clear k;replace l:=l.pick 8 [0,3,4,6];rw [a.out] at l;simp only [a.out];have o:=l.newBk [.int .u8 hm.flags.toNat,.int .u8 hm.level.toNat,.int .u8 hm.system.toNat,.int .u32 hm.time,.slice A5 hm.extra.length c5,.string (strOf hm.name),.string (strOf hm.note)] 28;have c0:(w4.alloc (.cells #[.int .u8 hm.flags.toNat,.int .u8 hm.level.toNat,.int .u8 hm.system.toNat,.int .u32 hm.time,.slice A5 hm.extra.length c5,.string (strOf hm.name),.string (strOf hm.note)] 28)).cell? ⟨u,0,none⟩=some (.int .u8 b0.toNat):=o.cell 4 rfl 0;have c1:(w4.alloc (.cells #[.int .u8 hm.flags.toNat,.int .u8 hm.level.toNat,.int .u8 hm.system.toNat,.int .u32 hm.time,.slice A5 hm.extra.length c5,.string (strOf hm.name),.string (strOf hm.note)] 28)).cell? ⟨u,1,none⟩=some (.int .u8 b1.toNat):=o.cell 4 rfl 1;have c2:(w4.alloc (.cells #[.int .u8 hm.flags.toNat,.int .u8 hm.level.toNat,.int .u8 hm.system.toNat,.int .u32 hm.time,.slice A5 hm.extra.length c5,.string (strOf hm.name),.string (strOf hm.note)] 28)).cell? ⟨u,2,none⟩=some (.int .u8 b2.toNat):=o.cell 4 rfl 2;have c3:(w4.alloc (.cells #[.int .u8 hm.flags.toNat,.int .u8 hm.level.toNat,.int .u8 hm.system.toNat,.int .u32 hm.time,.slice A5 hm.extra.length c5,.string (strOf hm.name),.string (strOf hm.note)] 28)).cell? ⟨u,3,none⟩=some (.int .u8 b3.toNat):=o.cell 4 rfl 3;have E:Byt (w4.alloc (.cells #[.int .u8 hm.flags.toNat,.int .u8 hm.level.toNat,.int .u8 hm.system.toNat,.int .u32 hm.time,.slice A5 hm.extra.length c5,.string (strOf hm.name),.string (strOf hm.note)] 28)) (.slice A6 nb c6) b:=ZS o 1 rfl a.out.symm;have F:Byt (w4.alloc (.cells #[.int .u8 hm.flags.toNat,.int .u8 hm.level.toNat,.int .u8 hm.system.toNat,.int .u32 hm.time,.slice A5 hm.extra.length c5,.string (strOf hm.name),.string (strOf hm.note)] 28)) (.slice BX nb cx) b:=HB.out _ _ (o.pick 5 []);have e1:=run_str (P:=Tryz.prog) _ 23 9 5 _ _ Tryz.underlying23 Tryz.underlying5 Tryz.underlying9 E;have e2:=run_str (P:=Tryz.prog) _ 23 9 5 _ _ Tryz.underlying23 Tryz.underlying5 Tryz.underlying9 F;clear E F;have e3:Sem.run Tryz.prog (Op.equalIn 10000 71 (.agg #[.int .u8 b0.toNat,.int .u8 b1.toNat,.int .u8 b2.toNat,.int .u8 b3.toNat]) (.agg #[.int .u8 0,.int .u8 0,.int .u8 0,.int .u8 0])) (w4.alloc (.cells #[.int .u8 hm.flags.toNat,.int .u8 hm.level.toNat,.int .u8 hm.system.toNat,.int .u32 hm.time,.slice A5 hm.extra.length c5,.string (strOf hm.name),.string (strOf hm.note)] 28))=.ok true (w4.alloc (.cells #[.int .u8 hm.flags.toNat,.int .u8 hm.level.toNat,.int .u8 hm.system.toNat,.int .u32 hm.time,.slice A5 hm.extra.length c5,.string (strOf hm.name),.string (strOf hm.note)] 28)):=by
      have k:=run_equalIn_bytes (P:=Tryz.prog) (w4.alloc (.cells #[.int .u8 hm.flags.toNat,.int .u8 hm.level.toNat,.int .u8 hm.system.toNat,.int .u32 hm.time,.slice A5 hm.extra.length c5,.string (strOf hm.name),.string (strOf hm.note)] 28)) 9998 71 5 4 Tryz.underlying71 Tryz.underlying5 Tryz.sizeOf5 [b0,b1,b2,b3] [0,0,0,0] rfl rfl;have e9:(([b0,b1,b2,b3]:List UInt8) == [0,0,0,0])=true:=by rw [R.out]; rw [beq_iff_eq]; exact hz
      rw [e9] at k;exact k
     clear hz;replace o:=hid o;clear l;go_upto_region 15 with (fail)
     replace o:=o.out.pick 5 [2,3,4];clear e1 e2 e3 c0 c1 c2 c3;generalize World.alloc _ _=w5 at o ⊢;go_wp2_with (at_builtin; refine Za rfl _ _ 23 rfl 5 i0 (.int .u8 0) 1 1 Tryz.underlying23 hi d4 d5 d7 rfl (by decide) (.slice none 0 0) 0 [] rfl (o.rowNil _ _) A2 nm d2 (cells8 M) rfl (by rw [Zo,m.out]) (rowRd o 0 rfl) (Zh _) (by unfold maxLen; omega) (by omega) ?_)
     intro v6 w6 KB _;obtain⟨A6,d6,rfl,a3,a4⟩:=Row.form KB 0 rfl;clear o;obtain⟨j6,e4⟩:∃q,at_ % 6=q:=⟨_,rfl⟩;have a5:j6<6:=by omega
     obtain⟨t,a6⟩:∃q,4+j6=q:=⟨_,rfl⟩;have ya:(at_:Int) % 6=(j6:Int):=by omega
     have yb:(4:Int)+(j6:Int)=(t:Int):=by omega
     have g5:t<=9:=by omega
     have yc:(t:Int)<(nm:Int):=by omega
     have yw:IntKind.i64.wrap (t:Int)=(t:Int):=ZY t (by omega);have yd:IntKind.i64.wrap (at_:Int)=(at_:Int):=ZY at_ (by omega);have ye:(at_:Int).tmod 6=(j6:Int):=by rw [Int.tmod_eq_emod_of_nonneg (by omega)]; omega
     obtain⟨Z,c9,a2,_,hc,hz,r⟩:=KB.rowSet (i:=t) (by omega);injection a2 with ea eb ec
     subst ea ec;clear eb;obtain⟨S,z⟩:∃q,M.getD t 0=q:=⟨_,rfl⟩;have b6:w6.cell? (Z.add t)=some (.int .u8 S.toNat):=by rw [hc,Yj _ _ (by rw [m.out]; omega),z]
     have b7:w6.cell? ⟨u,0,none⟩=some (.int .u8 b0.toNat):=KB.cell 3 rfl 0;have yx:bits .xor .u8 (S.toNat:Int) (b0.toNat:Int)=((S ^^^ b0).toNat:Int):=by
      rw [u8_xor_nat _ _ (UInt8.toNat_lt _) (UInt8.toNat_lt _),UInt8.toNat_xor]
     obtain⟨N,B⟩:∃q,S ^^^ b0=q:=⟨_,rfl⟩;rw [B] at yx;obtain⟨oo,C⟩:∃q,M.set t N=q:=⟨_,rfl⟩;have a7:oo.length=nm:=by rw [<- C,List.length_set,m.out]
     have KC:Sp w0 (Row 5 1 (.slice (some Z) nm d6) nm (cells8 oo)::Row 5 1 (.slice A2 nm d2) nm (cells8 M)::Bk X 28 [.int .u8 hm.flags.toNat,.int .u8 hm.level.toNat,.int .u8 hm.system.toNat,.int .u32 hm.time,.slice V y W,.string (strOf hm.name),.string (strOf hm.note)]::Bk u 71 [.int .u8 b0.toNat,.int .u8 b1.toNat,.int .u8 b2.toNat,.int .u8 b3.toNat]::L) (w6.setCell (Z.add t) (.int .u8 N.toNat)):=by
      have k:=r (.int .u8 N.toNat);have e9:cells8 oo=(cells8 M).set t (.int .u8 N.toNat):=by
       rw [<- C];unfold cells8;rw [List.map_set]
      rw [e9];exact k
     have f:=PG.get_turned hm a1.out b4.out b j6 N.toNat a5 1000 (by rw [a.out]; omega) (by rw [a.out]; omega);rw [UInt8.ofNat_toNat,a6,b5.out,C,m.out] at f;have KD:=hid KC.drew;have e5:=hid f;have a8:=hid a7;clear hc r z B C KB KC f a7 a6 e4;go_wp2_with fail
     go_still_tail 11,(by kernel_rfl)
     change wpList _ _ _ _ _ w6.drew;go_upto_region 17 with (fail)
     clear ya yb yc yw yd ye yx b6 b7 hz;replace KD:=KD.out;generalize World.setCell _ _ _=w7 at KD ⊢;generalize World.drew w7=wd at KD ⊢;have HG:=hid (Xy (some Z) nm d6 oo 1000 KD (fun _ _ q=>ZS q 0 rfl a8.out.symm) (fun _ _ q=>D.out _ _ (q.pick 4 [])) (fun _ _ q=>HT.out _ _ (q.pick 4 [])) a8.out (by omega) (by decide) a3 a4);have i7:=hid a3;clear KD;go_wp2_with fail
     refine HG.out.mono ?_;intro e9 w8 k;clear HG;rcases e5.out with ⟨hg,hgt⟩ | ⟨hgt,hfl⟩
     ·obtain⟨A8,c8,A9,c9,rfl,l⟩:=GEnd.got hgt k;clear k hgt;rw [a.out] at l;simp only [a.out];have G:=l.newBk [.int .u8 hg.flags.toNat,.int .u8 hg.level.toNat,.int .u8 hg.system.toNat,.int .u32 hg.time,.slice A8 hg.extra.length c8,.string (strOf hg.name),.string (strOf hg.note)] 28;have E:Byt (w8.alloc (.cells #[.int .u8 hg.flags.toNat,.int .u8 hg.level.toNat,.int .u8 hg.system.toNat,.int .u32 hg.time,.slice A8 hg.extra.length c8,.string (strOf hg.name),.string (strOf hg.note)] 28)) (.slice A9 nb c9) b:=ZS G 1 rfl a.out.symm;have F:Byt (w8.alloc (.cells #[.int .u8 hg.flags.toNat,.int .u8 hg.level.toNat,.int .u8 hg.system.toNat,.int .u32 hg.time,.slice A8 hg.extra.length c8,.string (strOf hg.name),.string (strOf hg.note)] 28)) (.slice BX nb cx) b:=HB.out _ _ (G.pick 7 []);have e1:=run_str (P:=Tryz.prog) _ 23 9 5 _ _ Tryz.underlying23 Tryz.underlying5 Tryz.underlying9 E;have e2:=run_str (P:=Tryz.prog) _ 23 9 5 _ _ Tryz.underlying23 Tryz.underlying5 Tryz.underlying9 F;have HL:=hid (Yi (G.pick 7 []) D.out HT.out HD.out);clear E F l G;go_wp2_with fail
      refine HL.out.mono ?_;rintro _ wz ⟨rfl,O⟩;have O:=hid O;clear HL;go_wp2_with fail
      go_ret;exact⟨rfl,O.out⟩
     ·obtain⟨rfl,l⟩:=GEnd.bad hgt k;clear k hgt;have G:=l.newBk [.int .u8 0,.int .u8 0,.int .u8 0,.int .u32 0,.slice none 0 0,.string ⟨#[]⟩,.string ⟨#[]⟩] 28;have c0:(w8.alloc (.cells #[.int .u8 0,.int .u8 0,.int .u8 0,.int .u32 0,.slice none 0 0,.string ⟨#[]⟩,.string ⟨#[]⟩] 28)).cell? ⟨X,0,none⟩=some (.int .u8 hm.flags.toNat):=G.cell 3 rfl 0;have yz:bits .and .u8 (hm.flags.toNat:Int) 2=2:=by
       have h1:=Wa hm.flags 2 (Or.inl rfl);have h2:hm.flags.toNat / 2 % 2=1:=by unfold PG.has at hfl; simpa using hfl
       rw [h2] at h1;exact h1
      have HL:=hid (Yi (G.pick 5 []) D.out HT.out HD.out);clear l G hfl;go_wp2_with fail
      refine HL.out.mono ?_;rintro _ wz ⟨rfl,O⟩;have O:=hid O;clear HL;go_wp2_with fail
      go_ret;exact⟨rfl,O.out⟩
    ·obtain⟨rfl,l⟩:=GEnd.bad (if_neg hz) k;clear k;replace l:=l.pick 6 [1,2,4];have o:=l.newBk [.int .u8 0,.int .u8 0,.int .u8 0,.int .u32 0,.slice none 0 0,.string ⟨#[]⟩,.string ⟨#[]⟩] 28;have c0:(w4.alloc (.cells #[.int .u8 0,.int .u8 0,.int .u8 0,.int .u32 0,.slice none 0 0,.string ⟨#[]⟩,.string ⟨#[]⟩] 28)).cell? ⟨u,0,none⟩=some (.int .u8 b0.toNat):=o.cell 3 rfl 0;have c1:(w4.alloc (.cells #[.int .u8 0,.int .u8 0,.int .u8 0,.int .u32 0,.slice none 0 0,.string ⟨#[]⟩,.string ⟨#[]⟩] 28)).cell? ⟨u,1,none⟩=some (.int .u8 b1.toNat):=o.cell 3 rfl 1;have c2:(w4.alloc (.cells #[.int .u8 0,.int .u8 0,.int .u8 0,.int .u32 0,.slice none 0 0,.string ⟨#[]⟩,.string ⟨#[]⟩] 28)).cell? ⟨u,2,none⟩=some (.int .u8 b2.toNat):=o.cell 3 rfl 2;have c3:(w4.alloc (.cells #[.int .u8 0,.int .u8 0,.int .u8 0,.int .u32 0,.slice none 0 0,.string ⟨#[]⟩,.string ⟨#[]⟩] 28)).cell? ⟨u,3,none⟩=some (.int .u8 b3.toNat):=o.cell 3 rfl 3;have e3:Sem.run Tryz.prog (Op.equalIn 10000 71 (.agg #[.int .u8 b0.toNat,.int .u8 b1.toNat,.int .u8 b2.toNat,.int .u8 b3.toNat]) (.agg #[.int .u8 0,.int .u8 0,.int .u8 0,.int .u8 0])) (w4.alloc (.cells #[.int .u8 0,.int .u8 0,.int .u8 0,.int .u32 0,.slice none 0 0,.string ⟨#[]⟩,.string ⟨#[]⟩] 28))=.ok false (w4.alloc (.cells #[.int .u8 0,.int .u8 0,.int .u8 0,.int .u32 0,.slice none 0 0,.string ⟨#[]⟩,.string ⟨#[]⟩] 28)):=by
      have k:=run_equalIn_bytes (P:=Tryz.prog) (w4.alloc (.cells #[.int .u8 0,.int .u8 0,.int .u8 0,.int .u32 0,.slice none 0 0,.string ⟨#[]⟩,.string ⟨#[]⟩] 28)) 9998 71 5 4 Tryz.underlying71 Tryz.underlying5 Tryz.sizeOf5 [b0,b1,b2,b3] [0,0,0,0] rfl rfl;have e9:(([b0,b1,b2,b3]:List UInt8) == [0,0,0,0])=false:=by rw [R.out]; rw [beq_eq_false_iff_ne]; exact hz
      rw [e9] at k;exact k
     clear hz;replace o:=hid o;clear l;go_upto_region 15 with (fail)
     replace o:=o.out.pick 4 [1,2,3];clear e3 c0 c1 c2 c3;generalize World.alloc _ _=w5 at o ⊢;go_wp2_with (at_builtin; refine Za rfl _ _ 23 rfl 5 i0 (.int .u8 0) 1 1 Tryz.underlying23 hi d4 d5 d7 rfl (by decide) (.slice none 0 0) 0 [] rfl (o.rowNil _ _) A2 nm d2 (cells8 M) rfl (by rw [Zo,m.out]) (rowRd o 0 rfl) (Zh _) (by unfold maxLen; omega) (by omega) ?_)
     intro v6 w6 KB _;obtain⟨A6,d6,rfl,a3,a4⟩:=Row.form KB 0 rfl;clear o;obtain⟨j6,e4⟩:∃q,at_ % 6=q:=⟨_,rfl⟩;have a5:j6<6:=by omega
     obtain⟨t,a6⟩:∃q,4+j6=q:=⟨_,rfl⟩;have ya:(at_:Int) % 6=(j6:Int):=by omega
     have yb:(4:Int)+(j6:Int)=(t:Int):=by omega
     have g5:t<=9:=by omega
     have yc:(t:Int)<(nm:Int):=by omega
     have yw:IntKind.i64.wrap (t:Int)=(t:Int):=ZY t (by omega);have yd:IntKind.i64.wrap (at_:Int)=(at_:Int):=ZY at_ (by omega);have ye:(at_:Int).tmod 6=(j6:Int):=by rw [Int.tmod_eq_emod_of_nonneg (by omega)]; omega
     obtain⟨Z,c9,a2,_,hc,hz,r⟩:=KB.rowSet (i:=t) (by omega);injection a2 with ea eb ec
     subst ea ec;clear eb;obtain⟨S,z⟩:∃q,M.getD t 0=q:=⟨_,rfl⟩;have b6:w6.cell? (Z.add t)=some (.int .u8 S.toNat):=by rw [hc,Yj _ _ (by rw [m.out]; omega),z]
     have b7:w6.cell? ⟨u,0,none⟩=some (.int .u8 b0.toNat):=KB.cell 3 rfl 0;have yx:bits .xor .u8 (S.toNat:Int) (b0.toNat:Int)=((S ^^^ b0).toNat:Int):=by
      rw [u8_xor_nat _ _ (UInt8.toNat_lt _) (UInt8.toNat_lt _),UInt8.toNat_xor]
     obtain⟨N,B⟩:∃q,S ^^^ b0=q:=⟨_,rfl⟩;rw [B] at yx;obtain⟨oo,C⟩:∃q,M.set t N=q:=⟨_,rfl⟩;have a7:oo.length=nm:=by rw [<- C,List.length_set,m.out]
     have KC:Sp w0 (Row 5 1 (.slice (some Z) nm d6) nm (cells8 oo)::Row 5 1 (.slice A2 nm d2) nm (cells8 M)::Bk X 28 [.int .u8 hm.flags.toNat,.int .u8 hm.level.toNat,.int .u8 hm.system.toNat,.int .u32 hm.time,.slice V y W,.string (strOf hm.name),.string (strOf hm.note)]::Bk u 71 [.int .u8 b0.toNat,.int .u8 b1.toNat,.int .u8 b2.toNat,.int .u8 b3.toNat]::L) (w6.setCell (Z.add t) (.int .u8 N.toNat)):=by
      have k:=r (.int .u8 N.toNat);have e9:cells8 oo=(cells8 M).set t (.int .u8 N.toNat):=by
       rw [<- C];unfold cells8;rw [List.map_set]
      rw [e9];exact k
     have f:=PG.get_turned hm a1.out b4.out b j6 N.toNat a5 1000 (by rw [a.out]; omega) (by rw [a.out]; omega);rw [UInt8.ofNat_toNat,a6,b5.out,C,m.out] at f;have KD:=hid KC.drew;have e5:=hid f;have a8:=hid a7;clear hc r z B C KB KC f a7 a6 e4;go_wp2_with fail
     go_still_tail 11,(by kernel_rfl)
     change wpList _ _ _ _ _ w6.drew;go_upto_region 17 with (fail)
     clear ya yb yc yw yd ye yx b6 b7 hz;replace KD:=KD.out;generalize World.setCell _ _ _=w7 at KD ⊢;generalize World.drew w7=wd at KD ⊢;have HG:=hid (Xy (some Z) nm d6 oo 1000 KD (fun _ _ q=>ZS q 0 rfl a8.out.symm) (fun _ _ q=>D.out _ _ (q.pick 4 [])) (fun _ _ q=>HT.out _ _ (q.pick 4 [])) a8.out (by omega) (by decide) a3 a4);have i7:=hid a3;clear KD;go_wp2_with fail
     refine HG.out.mono ?_;intro e9 w8 k;clear HG;rcases e5.out with ⟨hg,hgt⟩ | ⟨hgt,hfl⟩
     ·obtain⟨A8,c8,A9,c9,rfl,l⟩:=GEnd.got hgt k;clear k hgt;rw [a.out] at l;simp only [a.out];have G:=l.newBk [.int .u8 hg.flags.toNat,.int .u8 hg.level.toNat,.int .u8 hg.system.toNat,.int .u32 hg.time,.slice A8 hg.extra.length c8,.string (strOf hg.name),.string (strOf hg.note)] 28;have E:Byt (w8.alloc (.cells #[.int .u8 hg.flags.toNat,.int .u8 hg.level.toNat,.int .u8 hg.system.toNat,.int .u32 hg.time,.slice A8 hg.extra.length c8,.string (strOf hg.name),.string (strOf hg.note)] 28)) (.slice A9 nb c9) b:=ZS G 1 rfl a.out.symm;have F:Byt (w8.alloc (.cells #[.int .u8 hg.flags.toNat,.int .u8 hg.level.toNat,.int .u8 hg.system.toNat,.int .u32 hg.time,.slice A8 hg.extra.length c8,.string (strOf hg.name),.string (strOf hg.note)] 28)) (.slice BX nb cx) b:=HB.out _ _ (G.pick 7 []);have e1:=run_str (P:=Tryz.prog) _ 23 9 5 _ _ Tryz.underlying23 Tryz.underlying5 Tryz.underlying9 E;have e2:=run_str (P:=Tryz.prog) _ 23 9 5 _ _ Tryz.underlying23 Tryz.underlying5 Tryz.underlying9 F;have HL:=hid (Yi (G.pick 7 []) D.out HT.out HD.out);clear E F l G;go_wp2_with fail
      refine HL.out.mono ?_;rintro _ wz ⟨rfl,O⟩;have O:=hid O;clear HL;go_wp2_with fail
      go_ret;exact⟨rfl,O.out⟩
     ·obtain⟨rfl,l⟩:=GEnd.bad hgt k;clear k hgt;have G:=l.newBk [.int .u8 0,.int .u8 0,.int .u8 0,.int .u32 0,.slice none 0 0,.string ⟨#[]⟩,.string ⟨#[]⟩] 28;have c0:(w8.alloc (.cells #[.int .u8 0,.int .u8 0,.int .u8 0,.int .u32 0,.slice none 0 0,.string ⟨#[]⟩,.string ⟨#[]⟩] 28)).cell? ⟨X,0,none⟩=some (.int .u8 hm.flags.toNat):=G.cell 3 rfl 0;have yz:bits .and .u8 (hm.flags.toNat:Int) 2=2:=by
       have h1:=Wa hm.flags 2 (Or.inl rfl);have h2:hm.flags.toNat / 2 % 2=1:=by unfold PG.has at hfl; simpa using hfl
       rw [h2] at h1;exact h1
      have HL:=hid (Yi (G.pick 5 []) D.out HT.out HD.out);clear l G hfl;go_wp2_with fail
      refine HL.out.mono ?_;rintro _ wz ⟨rfl,O⟩;have O:=hid O;clear HL;go_wp2_with fail
      go_ret;exact⟨rfl,O.out⟩
end Go.Proofs.YtnjpnmpemhldcaaGreatDoor

