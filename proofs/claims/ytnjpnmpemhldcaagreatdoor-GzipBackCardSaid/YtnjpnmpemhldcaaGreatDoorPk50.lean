/- A pack. -/
import Derived.Test.YtnjpnmpemhldcaaGreatDoorPk49
set_option linter.all false
set_option maxRecDepth 100000
set_option maxHeartbeats 8000000
namespace Go.Proofs.YtnjpnmpemhldcaaGreatDoor
variable {w0 w:World} {L:List Pr}
open Go.RowKit
theorem UR (h:PG.Hd) (B0:Option Addr) (n c:Nat) (H:Sp w0 L w) (hn:h.extra.length=n) (hb:Ent L fun w=>Byt w (.slice B0 n c) h.extra) (hnc:n<=c) (hcm:c<=maxLen) (hm1:h.name.length<=maxLen) (hm2:h.note.length<=maxLen) :
  Calls Tryz.prog 8 #[.agg (hdV h (.slice B0 n c)).toArray] w fun e w'=>∃A0 ne ce,e=.returned (.agg (hdV (PG.made h) (.slice A0 ne ce)).toArray)/\(PG.made h).extra.length=ne/\Sp w0 (Row 5 1 (.slice A0 ne ce) ne (cells8 (PG.made h).extra)::L) w':=by
 have l:=(H.newBk [.int .u8 h.flags.toNat,.int .u8 h.level.toNat,.int .u8 h.system.toNat,.int .u32 h.time,.slice B0 n c,.string (strOf h.name),.string (strOf h.note)] 28).newBk [.int .u8 0,.int .u8 0,.int .u8 0,.int .u32 0,.slice none 0 0,.string ⟨#[]⟩,.string ⟨#[]⟩] 28;have es:(w.alloc (.cells #[.int .u8 h.flags.toNat,.int .u8 h.level.toNat,.int .u8 h.system.toNat,.int .u32 h.time,.slice B0 n c,.string (strOf h.name),.string (strOf h.note)] 28)).heap.size=w.heap.size+1:=Array.size_push _;rw [es] at l;have E:((w.alloc (.cells #[.int .u8 h.flags.toNat,.int .u8 h.level.toNat,.int .u8 h.system.toNat,.int .u32 h.time,.slice B0 n c,.string (strOf h.name),.string (strOf h.note)] 28)).alloc (.cells #[.int .u8 0,.int .u8 0,.int .u8 0,.int .u32 0,.slice none 0 0,.string ⟨#[]⟩,.string ⟨#[]⟩] 28)).cell? ⟨w.heap.size,0,none⟩=some (.int .u8 h.flags.toNat):=l.cell 1 rfl 0;have N:((w.alloc (.cells #[.int .u8 h.flags.toNat,.int .u8 h.level.toNat,.int .u8 h.system.toNat,.int .u32 h.time,.slice B0 n c,.string (strOf h.name),.string (strOf h.note)] 28)).alloc (.cells #[.int .u8 0,.int .u8 0,.int .u8 0,.int .u32 0,.slice none 0 0,.string ⟨#[]⟩,.string ⟨#[]⟩] 28)).frozen? ⟨w.heap.size,0,none⟩=false:=l.frozen 1 rfl 0;have O:((w.alloc (.cells #[.int .u8 h.flags.toNat,.int .u8 h.level.toNat,.int .u8 h.system.toNat,.int .u32 h.time,.slice B0 n c,.string (strOf h.name),.string (strOf h.note)] 28)).alloc (.cells #[.int .u8 0,.int .u8 0,.int .u8 0,.int .u32 0,.slice none 0 0,.string ⟨#[]⟩,.string ⟨#[]⟩] 28)).cell? ⟨w.heap.size,1,none⟩=some (.int .u8 h.level.toNat):=l.cell 1 rfl 1;have q1:((w.alloc (.cells #[.int .u8 h.flags.toNat,.int .u8 h.level.toNat,.int .u8 h.system.toNat,.int .u32 h.time,.slice B0 n c,.string (strOf h.name),.string (strOf h.note)] 28)).alloc (.cells #[.int .u8 0,.int .u8 0,.int .u8 0,.int .u32 0,.slice none 0 0,.string ⟨#[]⟩,.string ⟨#[]⟩] 28)).frozen? ⟨w.heap.size,1,none⟩=false:=l.frozen 1 rfl 1;have P:((w.alloc (.cells #[.int .u8 h.flags.toNat,.int .u8 h.level.toNat,.int .u8 h.system.toNat,.int .u32 h.time,.slice B0 n c,.string (strOf h.name),.string (strOf h.note)] 28)).alloc (.cells #[.int .u8 0,.int .u8 0,.int .u8 0,.int .u32 0,.slice none 0 0,.string ⟨#[]⟩,.string ⟨#[]⟩] 28)).cell? ⟨w.heap.size,2,none⟩=some (.int .u8 h.system.toNat):=l.cell 1 rfl 2;have q2:((w.alloc (.cells #[.int .u8 h.flags.toNat,.int .u8 h.level.toNat,.int .u8 h.system.toNat,.int .u32 h.time,.slice B0 n c,.string (strOf h.name),.string (strOf h.note)] 28)).alloc (.cells #[.int .u8 0,.int .u8 0,.int .u8 0,.int .u32 0,.slice none 0 0,.string ⟨#[]⟩,.string ⟨#[]⟩] 28)).frozen? ⟨w.heap.size,2,none⟩=false:=l.frozen 1 rfl 2;have Q:((w.alloc (.cells #[.int .u8 h.flags.toNat,.int .u8 h.level.toNat,.int .u8 h.system.toNat,.int .u32 h.time,.slice B0 n c,.string (strOf h.name),.string (strOf h.note)] 28)).alloc (.cells #[.int .u8 0,.int .u8 0,.int .u8 0,.int .u32 0,.slice none 0 0,.string ⟨#[]⟩,.string ⟨#[]⟩] 28)).cell? ⟨w.heap.size,3,none⟩=some (.int .u32 h.time):=l.cell 1 rfl 3;have q3:((w.alloc (.cells #[.int .u8 h.flags.toNat,.int .u8 h.level.toNat,.int .u8 h.system.toNat,.int .u32 h.time,.slice B0 n c,.string (strOf h.name),.string (strOf h.note)] 28)).alloc (.cells #[.int .u8 0,.int .u8 0,.int .u8 0,.int .u32 0,.slice none 0 0,.string ⟨#[]⟩,.string ⟨#[]⟩] 28)).frozen? ⟨w.heap.size,3,none⟩=false:=l.frozen 1 rfl 3;have R:((w.alloc (.cells #[.int .u8 h.flags.toNat,.int .u8 h.level.toNat,.int .u8 h.system.toNat,.int .u32 h.time,.slice B0 n c,.string (strOf h.name),.string (strOf h.note)] 28)).alloc (.cells #[.int .u8 0,.int .u8 0,.int .u8 0,.int .u32 0,.slice none 0 0,.string ⟨#[]⟩,.string ⟨#[]⟩] 28)).cell? ⟨w.heap.size,4,none⟩=some (.slice B0 n c):=l.cell 1 rfl 4;have q4:((w.alloc (.cells #[.int .u8 h.flags.toNat,.int .u8 h.level.toNat,.int .u8 h.system.toNat,.int .u32 h.time,.slice B0 n c,.string (strOf h.name),.string (strOf h.note)] 28)).alloc (.cells #[.int .u8 0,.int .u8 0,.int .u8 0,.int .u32 0,.slice none 0 0,.string ⟨#[]⟩,.string ⟨#[]⟩] 28)).frozen? ⟨w.heap.size,4,none⟩=false:=l.frozen 1 rfl 4;have S:((w.alloc (.cells #[.int .u8 h.flags.toNat,.int .u8 h.level.toNat,.int .u8 h.system.toNat,.int .u32 h.time,.slice B0 n c,.string (strOf h.name),.string (strOf h.note)] 28)).alloc (.cells #[.int .u8 0,.int .u8 0,.int .u8 0,.int .u32 0,.slice none 0 0,.string ⟨#[]⟩,.string ⟨#[]⟩] 28)).cell? ⟨w.heap.size,5,none⟩=some (.string (strOf h.name)):=l.cell 1 rfl 5;have q5:((w.alloc (.cells #[.int .u8 h.flags.toNat,.int .u8 h.level.toNat,.int .u8 h.system.toNat,.int .u32 h.time,.slice B0 n c,.string (strOf h.name),.string (strOf h.note)] 28)).alloc (.cells #[.int .u8 0,.int .u8 0,.int .u8 0,.int .u32 0,.slice none 0 0,.string ⟨#[]⟩,.string ⟨#[]⟩] 28)).frozen? ⟨w.heap.size,5,none⟩=false:=l.frozen 1 rfl 5;have T:((w.alloc (.cells #[.int .u8 h.flags.toNat,.int .u8 h.level.toNat,.int .u8 h.system.toNat,.int .u32 h.time,.slice B0 n c,.string (strOf h.name),.string (strOf h.note)] 28)).alloc (.cells #[.int .u8 0,.int .u8 0,.int .u8 0,.int .u32 0,.slice none 0 0,.string ⟨#[]⟩,.string ⟨#[]⟩] 28)).cell? ⟨w.heap.size,6,none⟩=some (.string (strOf h.note)):=l.cell 1 rfl 6;have q6:((w.alloc (.cells #[.int .u8 h.flags.toNat,.int .u8 h.level.toNat,.int .u8 h.system.toNat,.int .u32 h.time,.slice B0 n c,.string (strOf h.name),.string (strOf h.note)] 28)).alloc (.cells #[.int .u8 0,.int .u8 0,.int .u8 0,.int .u32 0,.slice none 0 0,.string ⟨#[]⟩,.string ⟨#[]⟩] 28)).frozen? ⟨w.heap.size,6,none⟩=false:=l.frozen 1 rfl 6;have F:=hid (TW h B0 n c l hn (fun _ _ q=>hb _ _ q.tail2) hnc hcm hm1 hm2);obtain⟨i,D⟩:=exq (UInt8.ofNat (h.flags.toNat % 32));have a1:i.toNat=h.flags.toNat % 32:=by rw [<- D,UInt8.toNat_ofNat']; omega
 have yf:(h.flags.toNat:Int) % 32=(i.toNat:Int):=by omega
 obtain⟨v,G⟩:=exq (PG.txM i 8 h.name);obtain⟨y,I⟩:=exq (PG.txM i 16 h.note);have a2:Hid ((if PG.has i 8=true then (h.name.take 300).map PG.z0 else [])=v):=hid G;have a3:Hid ((if PG.has i 16=true then (h.note.take 300).map PG.z0 else [])=y):=hid I;have U:=hid D;have V:Hid (PG.made h=⟨i,h.level,h.system,h.time,(PG.made h).extra,v,y⟩):=by
  rw [<- G,<- I,<- D]; exact hid rfl
 obtain⟨m,hm⟩:=exq (min n 300);have a4:Hid ((h.extra.take 300).length=m):=hid (by rw [List.length_take,hn]; omega);rw [hm] at F;clear hn hb hcm hm1 hm2 D a1 G I hm l H es;unfold hdV;go_enter Tryz.func8,Tryz.ntmps8
 go_wp2_with fail
 refine F.out.mono ?_;rintro _ r ⟨A0,ce,rfl,k⟩;clear F E O P Q R S T N q1 q2 q3 q4 q5 q6;obtain⟨f,W⟩:=exq (w.heap.size+1);rw [W] at k ⊢;clear W;generalize w.heap.size=g1 at k ⊢;have E:r.cell? ⟨g1,0,none⟩=some (.int .u8 h.flags.toNat):=k.cell 2 rfl 0;have N:r.frozen? ⟨g1,0,none⟩=false:=k.frozen 2 rfl 0;have O:r.cell? ⟨g1,1,none⟩=some (.int .u8 h.level.toNat):=k.cell 2 rfl 1;have q1:r.frozen? ⟨g1,1,none⟩=false:=k.frozen 2 rfl 1;have P:r.cell? ⟨g1,2,none⟩=some (.int .u8 h.system.toNat):=k.cell 2 rfl 2;have q2:r.frozen? ⟨g1,2,none⟩=false:=k.frozen 2 rfl 2;have Q:r.cell? ⟨g1,3,none⟩=some (.int .u32 h.time):=k.cell 2 rfl 3;have q3:r.frozen? ⟨g1,3,none⟩=false:=k.frozen 2 rfl 3;have R:r.cell? ⟨g1,4,none⟩=some (.slice B0 n c):=k.cell 2 rfl 4;have q4:r.frozen? ⟨g1,4,none⟩=false:=k.frozen 2 rfl 4;have S:r.cell? ⟨g1,5,none⟩=some (.string (strOf h.name)):=k.cell 2 rfl 5;have q5:r.frozen? ⟨g1,5,none⟩=false:=k.frozen 2 rfl 5;have T:r.cell? ⟨g1,6,none⟩=some (.string (strOf h.note)):=k.cell 2 rfl 6;have q6:r.frozen? ⟨g1,6,none⟩=false:=k.frozen 2 rfl 6;go_upto_region 2 with (fail)
 have X:=((((((((k.pick 3 [2,0,1]).set 0 (.int .u8 h.flags.toNat)).set 1 (.int .u8 h.level.toNat)).set 2 (.int .u8 h.system.toNat)).set 3 (.int .u32 h.time)).set 4 (.slice A0 m ce)).set 5 (.string (strOf (h.name.take 300)))).set 6 (.string (strOf (h.note.take 300))));clear E O P Q R S T N q1 q2 q3 q4 q5 q6 k;generalize World.setCell _ _ _=w2 at X ⊢;have E:w2.cell? ⟨g1,0,none⟩=some (.int .u8 h.flags.toNat):=X.cell 0 rfl 0;have N:w2.frozen? ⟨g1,0,none⟩=false:=X.frozen 0 rfl 0;have K3:=X.set 0 (.int .u8 i.toNat);clear X;go_upto_region 4 with (fail)
 clear E N yf;generalize World.setCell _ _ _=w3 at K3 ⊢;have K4:Hid (Sp w0 (Bk g1 28 [.int .u8 i.toNat,.int .u8 h.level.toNat,.int .u8 h.system.toNat,.int .u32 h.time,.slice A0 m ce,.string (strOf (h.name.take 300)),.string (strOf (h.note.take 300))]::Row 5 1 (.slice A0 m ce) m (cells8 (h.extra.take 300))::Bk f 28 [.int .u8 0,.int .u8 0,.int .u8 0,.int .u32 0,.slice none 0 0,.string ⟨#[]⟩,.string ⟨#[]⟩]::L) w3):=hid K3;clear K3;refine Zb (L:=Row 5 1 (.slice A0 m ce) m (cells8 (h.extra.take 300))::Bk f 28 [.int .u8 0,.int .u8 0,.int .u8 0,.int .u32 0,.slice none 0 0,.string ⟨#[]⟩,.string ⟨#[]⟩]::L) [some (.func (.func 32) #[] #[.pointer (some ⟨g1,0,none⟩)]),some (.pointer (some ⟨g1,5,none⟩)),some (.string (strOf (h.name.take 300))),some (.string (strOf v)),some (.func (.func 32) #[] #[.pointer (some ⟨g1,0,none⟩)]),some (.pointer (some ⟨g1,6,none⟩)),some (.string (strOf (h.note.take 300))),some (.string (strOf y)),some (.pointer (some ⟨g1,5,none⟩)),some (undef),some (.pointer (some ⟨g1,6,none⟩)),some (undef)] (fun _ _=>True) (fun ix vx=>match ix with | 9=>(fun _=>[Bk g1 28 [.int .u8 i.toNat,.int .u8 h.level.toNat,.int .u8 h.system.toNat,.int .u32 h.time,.slice A0 m ce,.string (strOf v),.string (strOf (h.note.take 300))]]) vx | 11=>(fun _=>[Bk g1 28 [.int .u8 i.toNat,.int .u8 h.level.toNat,.int .u8 h.system.toNat,.int .u32 h.time,.slice A0 m ce,.string (strOf v),.string (strOf y)]]) vx | _=>[]) (fun ix=>match ix with | 9=>[Bk g1 28 [.int .u8 i.toNat,.int .u8 h.level.toNat,.int .u8 h.system.toNat,.int .u32 h.time,.slice A0 m ce,.string (strOf (h.name.take 300)),.string (strOf (h.note.take 300))]] | _=>[]) 12 27
  [some 11,some 12,some 13,some 14,some 15,some 16,some 17,some 18,some 19,none,some 20,none]
  [[],[],[1],[0,2],[],[],[5],[4,6,3],[0,1,2,3,5,6],[8,3,7,0,1,2,3,5,6],[0,1,2,3,4,5,6,7,8,9],[10,7,9,0,1,2,3,4,5,6,7,8,9]]
  [[],[],[1],[0,1,2],[],[],[5],[0,1,2,3,4,5,6],[0,1,2,3,5,6],[0,1,2,3,4,5,6,7,8],[0,1,2,3,4,5,6,7,8,9],[0,1,2,3,4,5,6,7,8,9,10]]
  [[],[],[],[],[],[],[],[],[],[],[],[9]] [[],[],[9],[9],[],[],[9],[9],[],[],[],[]] [(1,.pointer (some ⟨g1,0,none⟩)),(3,.func (.func 32) #[] #[.pointer (some ⟨g1,0,none⟩)])]
  (by kernel_rfl) rfl (by decide) (by rfl) (by decide +kernel) rfl rfl (by simp) (K4.out) ?hstep ?hend
 case hstep =>
  refine⟨?p0,⟨?p1,⟨?p2,⟨?p3,⟨?p4,⟨?p5,⟨?p6,⟨?p7,⟨?p8,⟨?p9,⟨?p10,⟨?p11,trivial⟩⟩⟩⟩⟩⟩⟩⟩⟩⟩⟩⟩
  case p0 | p1 | p4 | p5 | p8 | p10 =>
   intro x wx A b g s j u H K o;replace o:=hid o;clear j u g;repeat (obtain⟨_,s⟩:=s)
   refine so ?_;go_step;exact o.out _ _ rfl H
  case p2 =>
   intro x wx A b g s j u H K d;have a5:=tq j 1;replace H:Sp w0 (_::b) wx:=H;have o:=hid d;clear d s j u g;have cc:=H.cell 0 rfl 5;refine so ?_;go_step;exact o.out _ _ rfl H
  case p3 =>
   intro x wx A b g s j u H K d;have a6:=tq j 0;have a7:=tq j 2;replace H:Sp w0 (_::b) wx:=H;have o:=hid d;clear d s j u g;have Y:=hid (U7 g1 ⟨i,h.level,h.system,h.time,h.extra.take 300,h.name.take 300,h.note.take 300⟩ (.slice A0 m ce) (h.name.take 300) 8 (by omega) H (by rw [List.length_take]; omega));rw [a2.out] at Y;refine so ?_;go_wp2_with fail
   refine Y.out.mono ?_;rintro _ w9 ⟨rfl,H9⟩;exact o.out _ _ rfl H9
  case p6 =>
   intro x wx A b g s j u H K d;have a8:=tq j 5;replace H:Sp w0 (_::b) wx:=H;have o:=hid d;clear d s j u g;have cc:=H.cell 0 rfl 6;refine so ?_;go_step;exact o.out _ _ rfl H
  case p7 =>
   intro x wx A b g s j u H K d;have a9:=tq j 4;have b0:=tq j 6;replace H:Sp w0 (_::b) wx:=H;have o:=hid d;clear d s j u g;have Y:=hid (U7 g1 ⟨i,h.level,h.system,h.time,h.extra.take 300,h.name.take 300,h.note.take 300⟩ (.slice A0 m ce) (h.note.take 300) 16 (by omega) H (by rw [List.length_take]; omega));rw [a3.out] at Y;refine so ?_;go_wp2_with fail
   refine Y.out.mono ?_;rintro _ w9 ⟨rfl,H9⟩;exact o.out _ _ rfl H9
  case p9 =>
   intro x wx A b g s j u H K d;have b1:=tq j 8;have b2:=tq j 3;replace H:Sp w0 (_::b) wx:=H;have o:=hid d;clear d s j u g;have z:=H.frozen 0 rfl 5;have t:=H.cell 0 rfl 5;refine so ?_;go_step;exact o.out _ _ rfl (H.set 5 (.string (strOf v)))
  case p11 =>
   intro x wx A b g s j u H K d;have b3:=tq j 10;have b4:=tq j 7;replace H:Sp w0 (_::b) wx:=H;have o:=hid d;clear d s j u g;have z:=H.frozen 0 rfl 6;have t:=H.cell 0 rfl 6;refine so ?_;go_step;exact o.out _ _ rfl (H.set 6 (.string (strOf y)))
 case hend =>
  intro x wx A hA j H;replace H:Sp w0 (_::_::_::L) wx:=H;clear j;simp only [putAll,Act.put,List.setIfInBounds_toArray,List.set_cons_succ,List.set_cons_zero,Nat.reduceAdd] at hA;subst hA;have J:=hid H;clear H K4;have e5:wx.cell? ⟨g1,0,none⟩=some (.int .u8 i.toNat):=J.out.cell 0 rfl 0;cases hq:PG.has i 4 with
  | false =>
   have e8:(bits .and .u8 (i.toNat:Int) 4 == 0)=true:=by
    have:=Xb i 4 (by omega);rw [hq] at this;simpa using this
   have B:(PG.made h).extra=[]:=by show(if PG.has (UInt8.ofNat (h.flags.toNat % 32)) 4=true then h.extra.take 300 else [])=[]; rw [U.out,hq]; rfl
   have C:PG.made h=⟨i,h.level,h.system,h.time,[],v,y⟩:=by rw [V.out,B]
   have p:=hid C;have z4:wx.frozen? ⟨g1,4,none⟩=false:=J.out.frozen 0 rfl 4;have t4:wx.cell? ⟨g1,4,none⟩=some (.slice A0 m ce):=J.out.cell 0 rfl 4;have M:=J.out.set 4 (.slice none 0 0);clear hq B C J;go_upto_region 7 with (fail)
   clear z4 t4 e5 e8;generalize World.setCell _ _ _=wz at M ⊢;have a:=M;have E:wz.cell? ⟨g1,0,none⟩=some (.int .u8 i.toNat):=a.cell 0 rfl 0;have O:wz.cell? ⟨g1,1,none⟩=some (.int .u8 h.level.toNat):=a.cell 0 rfl 1;have P:wz.cell? ⟨g1,2,none⟩=some (.int .u8 h.system.toNat):=a.cell 0 rfl 2;have Q:wz.cell? ⟨g1,3,none⟩=some (.int .u32 h.time):=a.cell 0 rfl 3;have R:wz.cell? ⟨g1,4,none⟩=some (.slice none 0 0):=a.cell 0 rfl 4;have S:wz.cell? ⟨g1,5,none⟩=some (.string (strOf v)):=a.cell 0 rfl 5;have T:wz.cell? ⟨g1,6,none⟩=some (.string (strOf y)):=a.cell 0 rfl 6;have s0:wz.cell? ⟨f,0,none⟩=some (.int .u8 0):=a.cell 2 rfl 0;have u0:wz.frozen? ⟨f,0,none⟩=false:=a.frozen 2 rfl 0;have s1:wz.cell? ⟨f,1,none⟩=some (.int .u8 0):=a.cell 2 rfl 1;have u1:wz.frozen? ⟨f,1,none⟩=false:=a.frozen 2 rfl 1;have s2:wz.cell? ⟨f,2,none⟩=some (.int .u8 0):=a.cell 2 rfl 2;have u2:wz.frozen? ⟨f,2,none⟩=false:=a.frozen 2 rfl 2;have s3:wz.cell? ⟨f,3,none⟩=some (.int .u32 0):=a.cell 2 rfl 3;have u3:wz.frozen? ⟨f,3,none⟩=false:=a.frozen 2 rfl 3;have s4:wz.cell? ⟨f,4,none⟩=some (.slice none 0 0):=a.cell 2 rfl 4;have u4:wz.frozen? ⟨f,4,none⟩=false:=a.frozen 2 rfl 4;have s5:wz.cell? ⟨f,5,none⟩=some (.string ⟨#[]⟩):=a.cell 2 rfl 5;have u5:wz.frozen? ⟨f,5,none⟩=false:=a.frozen 2 rfl 5;have s6:wz.cell? ⟨f,6,none⟩=some (.string ⟨#[]⟩):=a.cell 2 rfl 6;have u6:wz.frozen? ⟨f,6,none⟩=false:=a.frozen 2 rfl 6;clear M;go_wp2_with fail
   have Z:=((((((((a.pick 3 [2,0,1]).set 0 (.int .u8 i.toNat)).set 1 (.int .u8 h.level.toNat)).set 2 (.int .u8 h.system.toNat)).set 3 (.int .u32 h.time)).set 4 (.slice none 0 0)).set 5 (.string (strOf v))).set 6 (.string (strOf y)));refine bodyPost_ret (Yl rfl _ rfl (Zl Z 0 rfl) Tryz.isAgg28 Tryz.sizeOf28) rfl ?_;exact⟨none,0,0,by rw [p.out]; rfl,by rw [p.out]; rfl,by rw [p.out]; exact(Z.pick 3 []).rowNil _ _⟩
  | true =>
   have e8:(bits .and .u8 (i.toNat:Int) 4 == 0)=false:=by
    have:=Xb i 4 (by omega);rw [hq] at this;simpa using this
   have B:(PG.made h).extra=h.extra.take 300:=by show(if PG.has (UInt8.ofNat (h.flags.toNat % 32)) 4=true then h.extra.take 300 else [])=_; rw [U.out,hq]; rfl
   have C:PG.made h=⟨i,h.level,h.system,h.time,h.extra.take 300,v,y⟩:=by rw [V.out,B]
   have p:=hid C;have M:=J.out;clear hq B C J;go_upto_region 7 with (fail)
   clear e5 e8;have a:=M;obtain⟨wz,a0⟩:=exq wx;rw [a0] at M a ⊢;clear a0;have E:wz.cell? ⟨g1,0,none⟩=some (.int .u8 i.toNat):=a.cell 0 rfl 0;have O:wz.cell? ⟨g1,1,none⟩=some (.int .u8 h.level.toNat):=a.cell 0 rfl 1;have P:wz.cell? ⟨g1,2,none⟩=some (.int .u8 h.system.toNat):=a.cell 0 rfl 2;have Q:wz.cell? ⟨g1,3,none⟩=some (.int .u32 h.time):=a.cell 0 rfl 3;have R:wz.cell? ⟨g1,4,none⟩=some (.slice A0 m ce):=a.cell 0 rfl 4;have S:wz.cell? ⟨g1,5,none⟩=some (.string (strOf v)):=a.cell 0 rfl 5;have T:wz.cell? ⟨g1,6,none⟩=some (.string (strOf y)):=a.cell 0 rfl 6;have s0:wz.cell? ⟨f,0,none⟩=some (.int .u8 0):=a.cell 2 rfl 0;have u0:wz.frozen? ⟨f,0,none⟩=false:=a.frozen 2 rfl 0;have s1:wz.cell? ⟨f,1,none⟩=some (.int .u8 0):=a.cell 2 rfl 1;have u1:wz.frozen? ⟨f,1,none⟩=false:=a.frozen 2 rfl 1;have s2:wz.cell? ⟨f,2,none⟩=some (.int .u8 0):=a.cell 2 rfl 2;have u2:wz.frozen? ⟨f,2,none⟩=false:=a.frozen 2 rfl 2;have s3:wz.cell? ⟨f,3,none⟩=some (.int .u32 0):=a.cell 2 rfl 3;have u3:wz.frozen? ⟨f,3,none⟩=false:=a.frozen 2 rfl 3;have s4:wz.cell? ⟨f,4,none⟩=some (.slice none 0 0):=a.cell 2 rfl 4;have u4:wz.frozen? ⟨f,4,none⟩=false:=a.frozen 2 rfl 4;have s5:wz.cell? ⟨f,5,none⟩=some (.string ⟨#[]⟩):=a.cell 2 rfl 5;have u5:wz.frozen? ⟨f,5,none⟩=false:=a.frozen 2 rfl 5;have s6:wz.cell? ⟨f,6,none⟩=some (.string ⟨#[]⟩):=a.cell 2 rfl 6;have u6:wz.frozen? ⟨f,6,none⟩=false:=a.frozen 2 rfl 6;clear M;go_wp2_with fail
   have Z:=((((((((a.pick 3 [2,0,1]).set 0 (.int .u8 i.toNat)).set 1 (.int .u8 h.level.toNat)).set 2 (.int .u8 h.system.toNat)).set 3 (.int .u32 h.time)).set 4 (.slice A0 m ce)).set 5 (.string (strOf v))).set 6 (.string (strOf y)));refine bodyPost_ret (Yl rfl _ rfl (Zl Z 0 rfl) Tryz.isAgg28 Tryz.sizeOf28) rfl ?_;exact⟨A0,m,ce,by rw [p.out]; rfl,by rw [p.out]; exact a4.out,by rw [p.out]; exact Z.pick 3 [2]⟩
theorem Yh (k:Nat) (h:k<=1000000000):IntKind.i64.wrap (k:Int)=(k:Int):=by
 simp [IntKind.wrap,IntKind.bits,IntKind.signed];omega
theorem TX {α:Type} {l m:List α} {j:Nat} {v:α} (h:l[j]?=some v):(l++m)[j]?=some v:=by rw [List.getElem?_append_left (List.getElem?_eq_some_iff.1 h).1]; exact h
theorem GEnd.got {w0:World} {T:Except Nat (PG.Hd × List UInt8 × Nat)} {hd:PG.Hd} {out:List UInt8} {a:Nat} (h:T=.ok (hd,out,a)) {e:Ending} {w' : World} (k:GEnd w0 L T e w'):∃A ce OA oc,e=.returned (.tuple #[.agg #[.int .u8 hd.flags.toNat,.int .u8 hd.level.toNat,.int .u8 hd.system.toNat,.int .u32 hd.time,.slice A hd.extra.length ce,.string (strOf hd.name),.string (strOf hd.note)],.slice OA out.length oc,.int .i64 a,.int .i64 0])/\Sp w0 (Row 5 1 (.slice OA out.length oc) out.length (cells8 out)::Row 5 1 (.slice A hd.extra.length ce) hd.extra.length (cells8 hd.extra)::L) w':=by
 subst h; exact k
theorem GEnd.bad {w0:World} {T:Except Nat (PG.Hd × List UInt8 × Nat)} {c:Nat} (h:T=.error c) {e:Ending} {w' : World} (k:GEnd w0 L T e w'):e=.returned (.tuple #[.agg #[.int .u8 0,.int .u8 0,.int .u8 0,.int .u32 0,.slice none 0 0,.string ⟨#[]⟩,.string ⟨#[]⟩],.slice none 0 0,.int .i64 0,.int .i64 c])/\Sp w0 L w':=by
 subst h; exact k
def exV:Value->Value
 | .agg a=>a.getD 4 undef
 | _=>undef
namespace PG
theorem get_used {B:List UInt8} {most:Nat} {hd:Hd} {out:List UInt8} {u:Nat} (h:get B most=.ok (hd,out,u)):8<=u/\u<=B.length/\out.length<=most:=by
 unfold get at h;cases h1:head B with
 | error e=>rw [h1] at h; cases h
 | ok r =>
  rw [h1] at h;simp only at h;cases h2:PI.all (PBits.ofB (B.drop r.2)) most with
  | error e=>rw [h2] at h; cases h
  | ok a =>
   rw [h2] at h;simp only at h;split at h
   ·cases h
   ·rename_i h3
    injection h with h
    injection h with _ h
    injection h with ho hu
    have c:=PI.all_pos h2;have b:8<=(B.drop (r.2+(a.1+7) / 8)).length:=by
     unfold ends at h3;rw [<- Nat.not_lt];intro q;rw [if_pos q] at h3;exact h3 (by decide)
    rw [List.length_drop] at b;rw [<- ho,<- hu];omega
theorem get_err {B:List UInt8} {most e:Nat} (h:get B most=.error e):e≠0:=by
 unfold get at h;cases h1:head B with
 | error c=>rw [h1] at h; injection h with h; rw [<- h]; exact Wv B c h1
 | ok r =>
  rw [h1] at h;simp only at h;cases h2:PI.all (PBits.ofB (B.drop r.2)) most with
  | error c=>rw [h2] at h; injection h with h; have:=PI.all_err h2; omega
  | ok a =>
   rw [h2] at h;simp only at h;split at h
   ·rename_i h3
    injection h with h
    rw [<- h]; exact h3
   ·cases h
theorem get_nil (most:Nat):get [] most=.error 4:=rfl
end PG
theorem Ue (h:PG.Hd) (A B:Option Addr) (n c d:Nat) (H:Sp w0 L w) (ha:Ent L fun w=>Byt w (.slice A n c) h.extra) (hb:Ent L fun w=>Byt w (.slice B n d) h.extra) :
  Calls Tryz.prog 12 #[.agg (hdV h (.slice A n c)).toArray,.agg (hdV h (.slice B n d)).toArray] w fun e w'=>e=.returned (.bool true)/\Sp w0 L w':=by
 have a:=(H.newBk [.int .u8 h.flags.toNat,.int .u8 h.level.toNat,.int .u8 h.system.toNat,.int .u32 h.time,.slice A n c,.string (strOf h.name),.string (strOf h.note)] 28).newBk [.int .u8 h.flags.toNat,.int .u8 h.level.toNat,.int .u8 h.system.toNat,.int .u32 h.time,.slice B n d,.string (strOf h.name),.string (strOf h.note)] 28;have g:(w.alloc (.cells #[.int .u8 h.flags.toNat,.int .u8 h.level.toNat,.int .u8 h.system.toNat,.int .u32 h.time,.slice A n c,.string (strOf h.name),.string (strOf h.note)] 28)).heap.size=w.heap.size+1:=Array.size_push _;rw [g] at a;replace a:=hid a;have i:=hid ha;have j:=hid hb;clear H g ha hb;unfold hdV;go_enter Tryz.func12,Tryz.ntmps12
 go_upto_region 1 with (fail)
 replace a:=a.out;obtain⟨b,f⟩:=exq (w.heap.size+1);rw [f] at a ⊢;clear f;generalize World.alloc _ _=w1 at a ⊢;generalize w.heap.size=g1 at a ⊢;have m:w1.cell? ⟨g1,0,none⟩=some (.int .u8 h.flags.toNat):=a.cell 1 rfl 0;have o:w1.cell? ⟨g1,1,none⟩=some (.int .u8 h.level.toNat):=a.cell 1 rfl 1;have p:w1.cell? ⟨g1,2,none⟩=some (.int .u8 h.system.toNat):=a.cell 1 rfl 2;have q:w1.cell? ⟨g1,3,none⟩=some (.int .u32 h.time):=a.cell 1 rfl 3;have r:w1.cell? ⟨g1,4,none⟩=some (.slice A n c):=a.cell 1 rfl 4;have s:w1.cell? ⟨g1,5,none⟩=some (.string (strOf h.name)):=a.cell 1 rfl 5;have t:w1.cell? ⟨g1,6,none⟩=some (.string (strOf h.note)):=a.cell 1 rfl 6;have u:w1.cell? ⟨b,0,none⟩=some (.int .u8 h.flags.toNat):=a.cell 0 rfl 0;have v:w1.cell? ⟨b,1,none⟩=some (.int .u8 h.level.toNat):=a.cell 0 rfl 1;have x:w1.cell? ⟨b,2,none⟩=some (.int .u8 h.system.toNat):=a.cell 0 rfl 2;have y:w1.cell? ⟨b,3,none⟩=some (.int .u32 h.time):=a.cell 0 rfl 3;have z:w1.cell? ⟨b,4,none⟩=some (.slice B n d):=a.cell 0 rfl 4;have C:w1.cell? ⟨b,5,none⟩=some (.string (strOf h.name)):=a.cell 0 rfl 5;have D:w1.cell? ⟨b,6,none⟩=some (.string (strOf h.note)):=a.cell 0 rfl 6;have k:=run_str (P:=Tryz.prog) _ 23 9 5 _ _ Tryz.underlying23 Tryz.underlying5 Tryz.underlying9 (i.out _ _ a.tail2);have l:=run_str (P:=Tryz.prog) _ 23 9 5 _ _ Tryz.underlying23 Tryz.underlying5 Tryz.underlying9 (j.out _ _ a.tail2);replace a:=hid a;go_wp2_with fail
 go_ret;exact⟨rfl,a.out.tail2⟩
namespace PG
abbrev Sp4:=Nat × Nat × Nat × Nat
def loop (B:List UInt8) (most:Nat):Nat->Nat->List UInt8->List Sp4->Except Nat (List UInt8 × List Sp4)
 | 0,_,_,_=>.error 0
 | f+1,a,out,sp=>if a<B.length∨a=0 then
   match get (B.drop a) (most - out.length) with
   | .error e=>.error e
   | .ok r=>loop B most f (a+r.2.2) (out++r.2.1) (sp++[(a,a+r.2.2,out.length,out.length+r.2.1.length)])
  else .ok (out,sp)
def all (B:List UInt8) (most:Nat):Except Nat (List UInt8 × List Sp4):=loop B most (B.length+2) 0 [] []
abbrev Mem:=Hd × List UInt8
def W (l:List Mem):List UInt8:=l.flatMap fun x=>put x.1 x.2
def O (l:List Mem):List UInt8:=l.flatMap fun x=>x.2
def Good (x:Mem):Prop:=Ok x.1/\x.1.time<4294967296/\x.2.length<4294967296
def spans:List Mem->Nat->Nat->List Sp4
 | [],_,_=>[]
 | x::l,a,o=>(a,a+(put x.1 x.2).length,o,o+x.2.length)::spans l (a+(put x.1 x.2).length) (o+x.2.length)
theorem put_pos (h:Hd) (b:List UInt8):0<(put h b).length:=by rw [put_len]; omega
theorem W_cons (x:Mem) (l:List Mem):W (x::l)=put x.1 x.2++W l:=List.flatMap_cons
theorem O_cons (x:Mem) (l:List Mem):O (x::l)=x.2++O l:=List.flatMap_cons
theorem loop_ok (most:Nat):∀(l:List Mem) (P:List UInt8) (f:Nat) (out:List UInt8) (sp:List Sp4),(∀x ∈ l,Good x)->(P=[]->l≠[])->out.length+(O l).length<=most->l.length<f ->
  loop (P++W l) most f P.length out sp=.ok (out++O l,sp++spans l P.length out.length):=by
 intro l;induction l with
 | nil =>
  intro P f out sp _ d _ b;obtain⟨f,rfl⟩:∃g,f=g+1:=⟨f - 1,by rw [List.length_nil] at b; omega⟩;have c:P≠[]:=fun q=>d q rfl;have:P.length≠0:=fun q=>c (List.length_eq_zero_iff.1 q);unfold loop;have e:P++W []=P:=by show P++[]=P; rw [List.append_nil]
  rw [e,if_neg (by omega)];show _=Except.ok (out++[],sp++[]);rw [List.append_nil,List.append_nil]
 | cons x l ih =>
  intro P f out sp h d j b;obtain⟨f,rfl⟩:∃g,f=g+1:=⟨f - 1,by rw [List.length_cons] at b; omega⟩;obtain⟨k,m,n⟩:=h x List.mem_cons_self;have o:=put_pos x.1 x.2;rw [O_cons,List.length_append] at j;have a:=get_put x.1 k m x.2 (W l) (most - out.length) (by omega) n;unfold loop;rw [if_pos (.inl (by rw [List.length_append,W_cons,List.length_append]; omega)),List.drop_left,W_cons,a];simp only;have i:=ih (P++put x.1 x.2) f (out++x.2) (sp++[(P.length,P.length+(put x.1 x.2).length,out.length,out.length+x.2.length)]) (fun y hy=>h y (List.mem_cons_of_mem _ hy)) (fun q=>by
   have:=congrArg List.length q;rw [List.length_append,List.length_nil] at this;omega) (by rw [List.length_append]; omega) (by rw [List.length_cons] at b; omega)
  rw [List.append_assoc,List.length_append,List.length_append] at i;rw [i,O_cons,List.append_assoc,List.append_assoc];rfl
theorem all_puts (l:List Mem) (hg:∀x ∈ l,Good x) (hl:l≠[]) (most:Nat) (hm:(O l).length<=most):all (W l) most=.ok (O l,spans l 0 0):=by
 have a:l.length<=(W l).length:=by
  clear hm hl;induction l with
  | nil=>exact Nat.zero_le _
  | cons x l ih =>
   have:=put_pos x.1 x.2;have:=ih fun y hy=>hg y (List.mem_cons_of_mem _ hy);rw [W_cons,List.length_append,List.length_cons]; omega
 have h:=loop_ok most l [] ((W l).length+2) [] [] hg (fun _=>hl) (by rw [List.length_nil]; omega) (by omega);exact h
theorem loop_cap (most:Nat):∀(l:List Mem) (P:List UInt8) (f:Nat) (out:List UInt8) (sp:List Sp4),(∀x ∈ l,Good x)->out.length<=most->most<out.length+(O l).length->l.length<f ->
  loop (P++W l) most f P.length out sp=.error 22:=by
 intro l;induction l with
 | nil =>
  intro P f out sp _ h a _;have:(O []).length=0:=rfl;omega
 | cons x l ih =>
  intro P f out sp b h i c;obtain⟨f,rfl⟩:∃g,f=g+1:=⟨f - 1,by rw [List.length_cons] at c; omega⟩;obtain⟨d,e,j⟩:=b x List.mem_cons_self;have m:=put_pos x.1 x.2;rw [O_cons,List.length_append] at i;unfold loop;rw [if_pos (.inl (by rw [List.length_append,W_cons,List.length_append]; omega)),List.drop_left,W_cons];by_cases k:x.2.length<=most - out.length
  ·rw [get_put x.1 d e x.2 (W l) (most - out.length) k j];simp only;have a:=ih (P++put x.1 x.2) f (out++x.2) (sp++[(P.length,P.length+(put x.1 x.2).length,out.length,out.length+x.2.length)]) (fun y hy=>b y (List.mem_cons_of_mem _ hy)) (by rw [List.length_append]; omega) (by rw [List.length_append]; omega) (by rw [List.length_cons] at c; omega);rw [List.append_assoc,List.length_append] at a;exact a
  ·rw [get_cap x.1 d e x.2 (W l) (most - out.length) (by omega)]
theorem all_cap (l:List Mem) (hg:∀x ∈ l,Good x) (most:Nat) (hm:most<(O l).length):all (W l) most=.error 22:=by
 have a:l.length<=(W l).length:=by
  clear hm;induction l with
  | nil=>exact Nat.zero_le _
  | cons x l ih =>
   have:=put_pos x.1 x.2;have:=ih fun y hy=>hg y (List.mem_cons_of_mem _ hy);rw [W_cons,List.length_append,List.length_cons]; omega
 exact loop_cap most l [] ((W l).length+2) [] [] hg (Nat.zero_le _) (by rw [List.length_nil]; omega) (by omega)
end PG
end Go.Proofs.YtnjpnmpemhldcaaGreatDoor

