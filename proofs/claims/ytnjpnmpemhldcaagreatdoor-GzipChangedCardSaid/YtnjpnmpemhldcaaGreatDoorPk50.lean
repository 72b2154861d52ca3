/- A pack. -/
import Derived.Test.YtnjpnmpemhldcaaGreatDoorPk49
set_option linter.all false
set_option maxRecDepth 100000
set_option maxHeartbeats 8000000
namespace Go.Proofs.YtnjpnmpemhldcaaGreatDoor
variable {w0 w:World} {L:List Pr}
open Go.RowKit
theorem UN (h:PG.Hd) (B0:Option Addr) (n c:Nat) (H:Sp w0 L w) (hn:h.extra.length=n) (hb:Ent L fun w=>Byt w (.slice B0 n c) h.extra) (hnc:n<=c) (hcm:c<=maxLen) (hm1:h.name.length<=maxLen) (hm2:h.note.length<=maxLen) :
  Calls Tryz.prog 8 #[.agg (hdV h (.slice B0 n c)).toArray] w fun e w'=>∃A0 ne ce,e=.returned (.agg (hdV (PG.made h) (.slice A0 ne ce)).toArray)/\(PG.made h).extra.length=ne/\Sp w0 (Row 5 1 (.slice A0 ne ce) ne (cells8 (PG.made h).extra)::L) w':=by
 have o:=(H.newBk [.int .u8 h.flags.toNat,.int .u8 h.level.toNat,.int .u8 h.system.toNat,.int .u32 h.time,.slice B0 n c,.string (strOf h.name),.string (strOf h.note)] 28).newBk [.int .u8 0,.int .u8 0,.int .u8 0,.int .u32 0,.slice none 0 0,.string ⟨#[]⟩,.string ⟨#[]⟩] 28;have es:(w.alloc (.cells #[.int .u8 h.flags.toNat,.int .u8 h.level.toNat,.int .u8 h.system.toNat,.int .u32 h.time,.slice B0 n c,.string (strOf h.name),.string (strOf h.note)] 28)).heap.size=w.heap.size+1:=Array.size_push _;rw [es] at o;have F:((w.alloc (.cells #[.int .u8 h.flags.toNat,.int .u8 h.level.toNat,.int .u8 h.system.toNat,.int .u32 h.time,.slice B0 n c,.string (strOf h.name),.string (strOf h.note)] 28)).alloc (.cells #[.int .u8 0,.int .u8 0,.int .u8 0,.int .u32 0,.slice none 0 0,.string ⟨#[]⟩,.string ⟨#[]⟩] 28)).cell? ⟨w.heap.size,0,none⟩=some (.int .u8 h.flags.toNat):=o.cell 1 rfl 0;have O:((w.alloc (.cells #[.int .u8 h.flags.toNat,.int .u8 h.level.toNat,.int .u8 h.system.toNat,.int .u32 h.time,.slice B0 n c,.string (strOf h.name),.string (strOf h.note)] 28)).alloc (.cells #[.int .u8 0,.int .u8 0,.int .u8 0,.int .u32 0,.slice none 0 0,.string ⟨#[]⟩,.string ⟨#[]⟩] 28)).frozen? ⟨w.heap.size,0,none⟩=false:=o.frozen 1 rfl 0;have P:((w.alloc (.cells #[.int .u8 h.flags.toNat,.int .u8 h.level.toNat,.int .u8 h.system.toNat,.int .u32 h.time,.slice B0 n c,.string (strOf h.name),.string (strOf h.note)] 28)).alloc (.cells #[.int .u8 0,.int .u8 0,.int .u8 0,.int .u32 0,.slice none 0 0,.string ⟨#[]⟩,.string ⟨#[]⟩] 28)).cell? ⟨w.heap.size,1,none⟩=some (.int .u8 h.level.toNat):=o.cell 1 rfl 1;have q1:((w.alloc (.cells #[.int .u8 h.flags.toNat,.int .u8 h.level.toNat,.int .u8 h.system.toNat,.int .u32 h.time,.slice B0 n c,.string (strOf h.name),.string (strOf h.note)] 28)).alloc (.cells #[.int .u8 0,.int .u8 0,.int .u8 0,.int .u32 0,.slice none 0 0,.string ⟨#[]⟩,.string ⟨#[]⟩] 28)).frozen? ⟨w.heap.size,1,none⟩=false:=o.frozen 1 rfl 1;have Q:((w.alloc (.cells #[.int .u8 h.flags.toNat,.int .u8 h.level.toNat,.int .u8 h.system.toNat,.int .u32 h.time,.slice B0 n c,.string (strOf h.name),.string (strOf h.note)] 28)).alloc (.cells #[.int .u8 0,.int .u8 0,.int .u8 0,.int .u32 0,.slice none 0 0,.string ⟨#[]⟩,.string ⟨#[]⟩] 28)).cell? ⟨w.heap.size,2,none⟩=some (.int .u8 h.system.toNat):=o.cell 1 rfl 2;have q2:((w.alloc (.cells #[.int .u8 h.flags.toNat,.int .u8 h.level.toNat,.int .u8 h.system.toNat,.int .u32 h.time,.slice B0 n c,.string (strOf h.name),.string (strOf h.note)] 28)).alloc (.cells #[.int .u8 0,.int .u8 0,.int .u8 0,.int .u32 0,.slice none 0 0,.string ⟨#[]⟩,.string ⟨#[]⟩] 28)).frozen? ⟨w.heap.size,2,none⟩=false:=o.frozen 1 rfl 2;have R:((w.alloc (.cells #[.int .u8 h.flags.toNat,.int .u8 h.level.toNat,.int .u8 h.system.toNat,.int .u32 h.time,.slice B0 n c,.string (strOf h.name),.string (strOf h.note)] 28)).alloc (.cells #[.int .u8 0,.int .u8 0,.int .u8 0,.int .u32 0,.slice none 0 0,.string ⟨#[]⟩,.string ⟨#[]⟩] 28)).cell? ⟨w.heap.size,3,none⟩=some (.int .u32 h.time):=o.cell 1 rfl 3;have q3:((w.alloc (.cells #[.int .u8 h.flags.toNat,.int .u8 h.level.toNat,.int .u8 h.system.toNat,.int .u32 h.time,.slice B0 n c,.string (strOf h.name),.string (strOf h.note)] 28)).alloc (.cells #[.int .u8 0,.int .u8 0,.int .u8 0,.int .u32 0,.slice none 0 0,.string ⟨#[]⟩,.string ⟨#[]⟩] 28)).frozen? ⟨w.heap.size,3,none⟩=false:=o.frozen 1 rfl 3;have S:((w.alloc (.cells #[.int .u8 h.flags.toNat,.int .u8 h.level.toNat,.int .u8 h.system.toNat,.int .u32 h.time,.slice B0 n c,.string (strOf h.name),.string (strOf h.note)] 28)).alloc (.cells #[.int .u8 0,.int .u8 0,.int .u8 0,.int .u32 0,.slice none 0 0,.string ⟨#[]⟩,.string ⟨#[]⟩] 28)).cell? ⟨w.heap.size,4,none⟩=some (.slice B0 n c):=o.cell 1 rfl 4;have q4:((w.alloc (.cells #[.int .u8 h.flags.toNat,.int .u8 h.level.toNat,.int .u8 h.system.toNat,.int .u32 h.time,.slice B0 n c,.string (strOf h.name),.string (strOf h.note)] 28)).alloc (.cells #[.int .u8 0,.int .u8 0,.int .u8 0,.int .u32 0,.slice none 0 0,.string ⟨#[]⟩,.string ⟨#[]⟩] 28)).frozen? ⟨w.heap.size,4,none⟩=false:=o.frozen 1 rfl 4;have T:((w.alloc (.cells #[.int .u8 h.flags.toNat,.int .u8 h.level.toNat,.int .u8 h.system.toNat,.int .u32 h.time,.slice B0 n c,.string (strOf h.name),.string (strOf h.note)] 28)).alloc (.cells #[.int .u8 0,.int .u8 0,.int .u8 0,.int .u32 0,.slice none 0 0,.string ⟨#[]⟩,.string ⟨#[]⟩] 28)).cell? ⟨w.heap.size,5,none⟩=some (.string (strOf h.name)):=o.cell 1 rfl 5;have q5:((w.alloc (.cells #[.int .u8 h.flags.toNat,.int .u8 h.level.toNat,.int .u8 h.system.toNat,.int .u32 h.time,.slice B0 n c,.string (strOf h.name),.string (strOf h.note)] 28)).alloc (.cells #[.int .u8 0,.int .u8 0,.int .u8 0,.int .u32 0,.slice none 0 0,.string ⟨#[]⟩,.string ⟨#[]⟩] 28)).frozen? ⟨w.heap.size,5,none⟩=false:=o.frozen 1 rfl 5;have U:((w.alloc (.cells #[.int .u8 h.flags.toNat,.int .u8 h.level.toNat,.int .u8 h.system.toNat,.int .u32 h.time,.slice B0 n c,.string (strOf h.name),.string (strOf h.note)] 28)).alloc (.cells #[.int .u8 0,.int .u8 0,.int .u8 0,.int .u32 0,.slice none 0 0,.string ⟨#[]⟩,.string ⟨#[]⟩] 28)).cell? ⟨w.heap.size,6,none⟩=some (.string (strOf h.note)):=o.cell 1 rfl 6;have q6:((w.alloc (.cells #[.int .u8 h.flags.toNat,.int .u8 h.level.toNat,.int .u8 h.system.toNat,.int .u32 h.time,.slice B0 n c,.string (strOf h.name),.string (strOf h.note)] 28)).alloc (.cells #[.int .u8 0,.int .u8 0,.int .u8 0,.int .u32 0,.slice none 0 0,.string ⟨#[]⟩,.string ⟨#[]⟩] 28)).frozen? ⟨w.heap.size,6,none⟩=false:=o.frozen 1 rfl 6;have G:=hid (TQ h B0 n c o hn (fun _ _ q=>hb _ _ q.tail2) hnc hcm hm1 hm2);obtain⟨f,E⟩:∃q,UInt8.ofNat (h.flags.toNat % 32)=q:=⟨_,rfl⟩;have a1:f.toNat=h.flags.toNat % 32:=by rw [<- E,UInt8.toNat_ofNat']; omega
 have yf:(h.flags.toNat:Int) % 32=(f.toNat:Int):=by omega
 obtain⟨p,I⟩:∃q,PG.txM f 8 h.name=q:=⟨_,rfl⟩;obtain⟨y,J⟩:∃q,PG.txM f 16 h.note=q:=⟨_,rfl⟩;have a2:Hid ((if PG.has f 8=true then (h.name.take 300).map PG.z0 else [])=p):=hid I;have a3:Hid ((if PG.has f 16=true then (h.note.take 300).map PG.z0 else [])=y):=hid J;have V:=hid E;have W:Hid (PG.made h=⟨f,h.level,h.system,h.time,(PG.made h).extra,p,y⟩):=by
  rw [<- I,<- J,<- E]; exact hid rfl
 obtain⟨m,hm⟩:∃q,min n 300=q:=⟨_,rfl⟩;have a4:Hid ((h.extra.take 300).length=m):=hid (by rw [List.length_take,hn]; omega);rw [hm] at G;clear hn hb hcm hm1 hm2 E a1 I J hm o H es;unfold hdV;go_enter Tryz.func8,Tryz.ntmps8
 go_wp2_with fail
 refine G.out.mono ?_;rintro _ u ⟨A0,ce,rfl,l⟩;clear G F P Q R S T U O q1 q2 q3 q4 q5 q6;obtain⟨i,X⟩:∃g,w.heap.size+1=g:=⟨_,rfl⟩;rw [X] at l ⊢;clear X;generalize w.heap.size=g1 at l ⊢;have F:u.cell? ⟨g1,0,none⟩=some (.int .u8 h.flags.toNat):=l.cell 2 rfl 0;have O:u.frozen? ⟨g1,0,none⟩=false:=l.frozen 2 rfl 0;have P:u.cell? ⟨g1,1,none⟩=some (.int .u8 h.level.toNat):=l.cell 2 rfl 1;have q1:u.frozen? ⟨g1,1,none⟩=false:=l.frozen 2 rfl 1;have Q:u.cell? ⟨g1,2,none⟩=some (.int .u8 h.system.toNat):=l.cell 2 rfl 2;have q2:u.frozen? ⟨g1,2,none⟩=false:=l.frozen 2 rfl 2;have R:u.cell? ⟨g1,3,none⟩=some (.int .u32 h.time):=l.cell 2 rfl 3;have q3:u.frozen? ⟨g1,3,none⟩=false:=l.frozen 2 rfl 3;have S:u.cell? ⟨g1,4,none⟩=some (.slice B0 n c):=l.cell 2 rfl 4;have q4:u.frozen? ⟨g1,4,none⟩=false:=l.frozen 2 rfl 4;have T:u.cell? ⟨g1,5,none⟩=some (.string (strOf h.name)):=l.cell 2 rfl 5;have q5:u.frozen? ⟨g1,5,none⟩=false:=l.frozen 2 rfl 5;have U:u.cell? ⟨g1,6,none⟩=some (.string (strOf h.note)):=l.cell 2 rfl 6;have q6:u.frozen? ⟨g1,6,none⟩=false:=l.frozen 2 rfl 6;go_upto_region 2 with (fail)
 have Y:=((((((((l.pick 3 [2,0,1]).set 0 (.int .u8 h.flags.toNat)).set 1 (.int .u8 h.level.toNat)).set 2 (.int .u8 h.system.toNat)).set 3 (.int .u32 h.time)).set 4 (.slice A0 m ce)).set 5 (.string (strOf (h.name.take 300)))).set 6 (.string (strOf (h.note.take 300))));clear F P Q R S T U O q1 q2 q3 q4 q5 q6 l;generalize World.setCell _ _ _=w2 at Y ⊢;have F:w2.cell? ⟨g1,0,none⟩=some (.int .u8 h.flags.toNat):=Y.cell 0 rfl 0;have O:w2.frozen? ⟨g1,0,none⟩=false:=Y.frozen 0 rfl 0;have K3:=Y.set 0 (.int .u8 f.toNat);clear Y;go_upto_region 4 with (fail)
 clear F O yf;generalize World.setCell _ _ _=w3 at K3 ⊢;have K4:Hid (Sp w0 (Bk g1 28 [.int .u8 f.toNat,.int .u8 h.level.toNat,.int .u8 h.system.toNat,.int .u32 h.time,.slice A0 m ce,.string (strOf (h.name.take 300)),.string (strOf (h.note.take 300))]::Row 5 1 (.slice A0 m ce) m (cells8 (h.extra.take 300))::Bk i 28 [.int .u8 0,.int .u8 0,.int .u8 0,.int .u32 0,.slice none 0 0,.string ⟨#[]⟩,.string ⟨#[]⟩]::L) w3):=hid K3;clear K3;refine Zb (L:=Row 5 1 (.slice A0 m ce) m (cells8 (h.extra.take 300))::Bk i 28 [.int .u8 0,.int .u8 0,.int .u8 0,.int .u32 0,.slice none 0 0,.string ⟨#[]⟩,.string ⟨#[]⟩]::L) [some (.func (.func 32) #[] #[.pointer (some ⟨g1,0,none⟩)]),some (.pointer (some ⟨g1,5,none⟩)),some (.string (strOf (h.name.take 300))),some (.string (strOf p)),some (.func (.func 32) #[] #[.pointer (some ⟨g1,0,none⟩)]),some (.pointer (some ⟨g1,6,none⟩)),some (.string (strOf (h.note.take 300))),some (.string (strOf y)),some (.pointer (some ⟨g1,5,none⟩)),some (undef),some (.pointer (some ⟨g1,6,none⟩)),some (undef)] (fun _ _=>True) (fun ix vx=>match ix with | 9=>(fun _=>[Bk g1 28 [.int .u8 f.toNat,.int .u8 h.level.toNat,.int .u8 h.system.toNat,.int .u32 h.time,.slice A0 m ce,.string (strOf p),.string (strOf (h.note.take 300))]]) vx | 11=>(fun _=>[Bk g1 28 [.int .u8 f.toNat,.int .u8 h.level.toNat,.int .u8 h.system.toNat,.int .u32 h.time,.slice A0 m ce,.string (strOf p),.string (strOf y)]]) vx | _=>[]) (fun ix=>match ix with | 9=>[Bk g1 28 [.int .u8 f.toNat,.int .u8 h.level.toNat,.int .u8 h.system.toNat,.int .u32 h.time,.slice A0 m ce,.string (strOf (h.name.take 300)),.string (strOf (h.note.take 300))]] | _=>[]) 12 27
  [some 11,some 12,some 13,some 14,some 15,some 16,some 17,some 18,some 19,none,some 20,none]
  [[],[],[1],[0,2],[],[],[5],[4,6,3],[0,1,2,3,5,6],[8,3,7,0,1,2,3,5,6],[0,1,2,3,4,5,6,7,8,9],[10,7,9,0,1,2,3,4,5,6,7,8,9]]
  [[],[],[1],[0,1,2],[],[],[5],[0,1,2,3,4,5,6],[0,1,2,3,5,6],[0,1,2,3,4,5,6,7,8],[0,1,2,3,4,5,6,7,8,9],[0,1,2,3,4,5,6,7,8,9,10]]
  [[],[],[],[],[],[],[],[],[],[],[],[9]] [[],[],[9],[9],[],[],[9],[9],[],[],[],[]] [(1,.pointer (some ⟨g1,0,none⟩)),(3,.func (.func 32) #[] #[.pointer (some ⟨g1,0,none⟩)])]
  (by kernel_rfl) rfl (by decide) (by rfl) (by decide +kernel) rfl rfl (by simp) (K4.out) ?hstep ?hend
 case hstep =>
  refine⟨?p0,⟨?p1,⟨?p2,⟨?p3,⟨?p4,⟨?p5,⟨?p6,⟨?p7,⟨?p8,⟨?p9,⟨?p10,⟨?p11,trivial⟩⟩⟩⟩⟩⟩⟩⟩⟩⟩⟩⟩
  case p0 | p1 | p4 | p5 | p8 | p10 =>
   intro x wx A b j v k B H K r;replace r:=hid r;clear k B j;repeat (obtain⟨_,v⟩:=v)
   refine so ?_;go_step;exact r.out _ _ rfl H
  case p2 =>
   intro x wx A b j v k B H K d;have a5:A.tmps[12]?.getD undef=.pointer (some ⟨g1,5,none⟩):=tq k 1;replace H:Sp w0 ((Bk g1 28 [.int .u8 f.toNat,.int .u8 h.level.toNat,.int .u8 h.system.toNat,.int .u32 h.time,.slice A0 m ce,.string (strOf (h.name.take 300)),.string (strOf (h.note.take 300))])::b) wx:=H;have r:=hid d;clear d v k B j;have cc:=H.cell 0 rfl 5;refine so ?_;go_step;exact r.out _ _ rfl H
  case p3 =>
   intro x wx A b j v k B H K d;have a6:A.tmps[11]?.getD undef=.func (.func 32) #[] #[.pointer (some ⟨g1,0,none⟩)]:=tq k 0;have a7:A.tmps[13]?.getD undef=.string (strOf (h.name.take 300)):=tq k 2;replace H:Sp w0 ((Bk g1 28 [.int .u8 f.toNat,.int .u8 h.level.toNat,.int .u8 h.system.toNat,.int .u32 h.time,.slice A0 m ce,.string (strOf (h.name.take 300)),.string (strOf (h.note.take 300))])::b) wx:=H;have r:=hid d;clear d v k B j;have Z:=hid (UZ g1 ⟨f,h.level,h.system,h.time,h.extra.take 300,h.name.take 300,h.note.take 300⟩ (.slice A0 m ce) (h.name.take 300) 8 (by omega) H (by rw [List.length_take]; omega));rw [a2.out] at Z;refine so ?_;go_wp2_with fail
   refine Z.out.mono ?_;rintro _ w9 ⟨rfl,H9⟩;exact r.out _ _ rfl H9
  case p6 =>
   intro x wx A b j v k B H K d;have a8:A.tmps[16]?.getD undef=.pointer (some ⟨g1,6,none⟩):=tq k 5;replace H:Sp w0 ((Bk g1 28 [.int .u8 f.toNat,.int .u8 h.level.toNat,.int .u8 h.system.toNat,.int .u32 h.time,.slice A0 m ce,.string (strOf (h.name.take 300)),.string (strOf (h.note.take 300))])::b) wx:=H;have r:=hid d;clear d v k B j;have cc:=H.cell 0 rfl 6;refine so ?_;go_step;exact r.out _ _ rfl H
  case p7 =>
   intro x wx A b j v k B H K d;have a9:A.tmps[15]?.getD undef=.func (.func 32) #[] #[.pointer (some ⟨g1,0,none⟩)]:=tq k 4;have b0:A.tmps[17]?.getD undef=.string (strOf (h.note.take 300)):=tq k 6;replace H:Sp w0 ((Bk g1 28 [.int .u8 f.toNat,.int .u8 h.level.toNat,.int .u8 h.system.toNat,.int .u32 h.time,.slice A0 m ce,.string (strOf (h.name.take 300)),.string (strOf (h.note.take 300))])::b) wx:=H;have r:=hid d;clear d v k B j;have Z:=hid (UZ g1 ⟨f,h.level,h.system,h.time,h.extra.take 300,h.name.take 300,h.note.take 300⟩ (.slice A0 m ce) (h.note.take 300) 16 (by omega) H (by rw [List.length_take]; omega));rw [a3.out] at Z;refine so ?_;go_wp2_with fail
   refine Z.out.mono ?_;rintro _ w9 ⟨rfl,H9⟩;exact r.out _ _ rfl H9
  case p9 =>
   intro x wx A b j v k B H K d;have b1:A.tmps[19]?.getD undef=.pointer (some ⟨g1,5,none⟩):=tq k 8;have b2:A.tmps[14]?.getD undef=.string (strOf p):=tq k 3;replace H:Sp w0 ((Bk g1 28 [.int .u8 f.toNat,.int .u8 h.level.toNat,.int .u8 h.system.toNat,.int .u32 h.time,.slice A0 m ce,.string (strOf (h.name.take 300)),.string (strOf (h.note.take 300))])::b) wx:=H;have r:=hid d;clear d v k B j;have z:=H.frozen 0 rfl 5;have t:=H.cell 0 rfl 5;refine so ?_;go_step;exact r.out _ _ rfl (H.set 5 (.string (strOf p)))
  case p11 =>
   intro x wx A b j v k B H K d;have b3:A.tmps[20]?.getD undef=.pointer (some ⟨g1,6,none⟩):=tq k 10;have b4:A.tmps[18]?.getD undef=.string (strOf y):=tq k 7;replace H:Sp w0 ((Bk g1 28 [.int .u8 f.toNat,.int .u8 h.level.toNat,.int .u8 h.system.toNat,.int .u32 h.time,.slice A0 m ce,.string (strOf p),.string (strOf (h.note.take 300))])::b) wx:=H;have r:=hid d;clear d v k B j;have z:=H.frozen 0 rfl 6;have t:=H.cell 0 rfl 6;refine so ?_;go_step;exact r.out _ _ rfl (H.set 6 (.string (strOf y)))
 case hend =>
  intro x wx A hA k H;replace H:Sp w0 ((Bk g1 28 [.int .u8 f.toNat,.int .u8 h.level.toNat,.int .u8 h.system.toNat,.int .u32 h.time,.slice A0 m ce,.string (strOf p),.string (strOf y)])::Row 5 1 (.slice A0 m ce) m (cells8 (h.extra.take 300))::Bk i 28 [.int .u8 0,.int .u8 0,.int .u8 0,.int .u32 0,.slice none 0 0,.string ⟨#[]⟩,.string ⟨#[]⟩]::L) wx:=H;clear k;simp only [putAll,Act.put,List.setIfInBounds_toArray,List.set_cons_succ,List.set_cons_zero,Nat.reduceAdd] at hA;subst hA;have M:=hid H;clear H K4;have e5:wx.cell? ⟨g1,0,none⟩=some (.int .u8 f.toNat):=M.out.cell 0 rfl 0;cases hq:PG.has f 4 with
  | false =>
   have e8:(bits .and .u8 (f.toNat:Int) 4 == 0)=true:=by
    have:=Xb f 4 (by omega);rw [hq] at this;simpa using this
   have C:(PG.made h).extra=[]:=by show(if PG.has (UInt8.ofNat (h.flags.toNat % 32)) 4=true then h.extra.take 300 else [])=[]; rw [V.out,hq]; rfl
   have D:PG.made h=⟨f,h.level,h.system,h.time,[],p,y⟩:=by rw [W.out,C]
   have s:=hid D;have z4:wx.frozen? ⟨g1,4,none⟩=false:=M.out.frozen 0 rfl 4;have t4:wx.cell? ⟨g1,4,none⟩=some (.slice A0 m ce):=M.out.cell 0 rfl 4;have N:=M.out.set 4 (.slice none 0 0);clear hq C D M;go_upto_region 7 with (fail)
   clear z4 t4 e5 e8;generalize World.setCell _ _ _=wz at N ⊢;have a:=N;have F:wz.cell? ⟨g1,0,none⟩=some (.int .u8 f.toNat):=a.cell 0 rfl 0;have P:wz.cell? ⟨g1,1,none⟩=some (.int .u8 h.level.toNat):=a.cell 0 rfl 1;have Q:wz.cell? ⟨g1,2,none⟩=some (.int .u8 h.system.toNat):=a.cell 0 rfl 2;have R:wz.cell? ⟨g1,3,none⟩=some (.int .u32 h.time):=a.cell 0 rfl 3;have S:wz.cell? ⟨g1,4,none⟩=some (.slice none 0 0):=a.cell 0 rfl 4;have T:wz.cell? ⟨g1,5,none⟩=some (.string (strOf p)):=a.cell 0 rfl 5;have U:wz.cell? ⟨g1,6,none⟩=some (.string (strOf y)):=a.cell 0 rfl 6;have s0:wz.cell? ⟨i,0,none⟩=some (.int .u8 0):=a.cell 2 rfl 0;have u0:wz.frozen? ⟨i,0,none⟩=false:=a.frozen 2 rfl 0;have s1:wz.cell? ⟨i,1,none⟩=some (.int .u8 0):=a.cell 2 rfl 1;have u1:wz.frozen? ⟨i,1,none⟩=false:=a.frozen 2 rfl 1;have s2:wz.cell? ⟨i,2,none⟩=some (.int .u8 0):=a.cell 2 rfl 2;have u2:wz.frozen? ⟨i,2,none⟩=false:=a.frozen 2 rfl 2;have s3:wz.cell? ⟨i,3,none⟩=some (.int .u32 0):=a.cell 2 rfl 3;have u3:wz.frozen? ⟨i,3,none⟩=false:=a.frozen 2 rfl 3;have s4:wz.cell? ⟨i,4,none⟩=some (.slice none 0 0):=a.cell 2 rfl 4;have u4:wz.frozen? ⟨i,4,none⟩=false:=a.frozen 2 rfl 4;have s5:wz.cell? ⟨i,5,none⟩=some (.string ⟨#[]⟩):=a.cell 2 rfl 5;have u5:wz.frozen? ⟨i,5,none⟩=false:=a.frozen 2 rfl 5;have s6:wz.cell? ⟨i,6,none⟩=some (.string ⟨#[]⟩):=a.cell 2 rfl 6;have u6:wz.frozen? ⟨i,6,none⟩=false:=a.frozen 2 rfl 6;clear N;go_wp2_with fail
   have KF:=((((((((a.pick 3 [2,0,1]).set 0 (.int .u8 f.toNat)).set 1 (.int .u8 h.level.toNat)).set 2 (.int .u8 h.system.toNat)).set 3 (.int .u32 h.time)).set 4 (.slice none 0 0)).set 5 (.string (strOf p))).set 6 (.string (strOf y)));refine bodyPost_ret (Yn rfl _ rfl (Zl KF 0 rfl) Tryz.isAgg28 Tryz.sizeOf28) rfl ?_;exact⟨none,0,0,by rw [s.out]; rfl,by rw [s.out]; rfl,by rw [s.out]; exact(KF.pick 3 []).rowNil _ _⟩
  | true =>
   have e8:(bits .and .u8 (f.toNat:Int) 4 == 0)=false:=by
    have:=Xb f 4 (by omega);rw [hq] at this;simpa using this
   have C:(PG.made h).extra=h.extra.take 300:=by show(if PG.has (UInt8.ofNat (h.flags.toNat % 32)) 4=true then h.extra.take 300 else [])=_; rw [V.out,hq]; rfl
   have D:PG.made h=⟨f,h.level,h.system,h.time,h.extra.take 300,p,y⟩:=by rw [W.out,C]
   have s:=hid D;have N:=M.out;clear hq C D M;go_upto_region 7 with (fail)
   clear e5 e8;have a:=N;obtain⟨wz,a0⟩:∃q,wx=q:=⟨_,rfl⟩;rw [a0] at N a ⊢;clear a0;have F:wz.cell? ⟨g1,0,none⟩=some (.int .u8 f.toNat):=a.cell 0 rfl 0;have P:wz.cell? ⟨g1,1,none⟩=some (.int .u8 h.level.toNat):=a.cell 0 rfl 1;have Q:wz.cell? ⟨g1,2,none⟩=some (.int .u8 h.system.toNat):=a.cell 0 rfl 2;have R:wz.cell? ⟨g1,3,none⟩=some (.int .u32 h.time):=a.cell 0 rfl 3;have S:wz.cell? ⟨g1,4,none⟩=some (.slice A0 m ce):=a.cell 0 rfl 4;have T:wz.cell? ⟨g1,5,none⟩=some (.string (strOf p)):=a.cell 0 rfl 5;have U:wz.cell? ⟨g1,6,none⟩=some (.string (strOf y)):=a.cell 0 rfl 6;have s0:wz.cell? ⟨i,0,none⟩=some (.int .u8 0):=a.cell 2 rfl 0;have u0:wz.frozen? ⟨i,0,none⟩=false:=a.frozen 2 rfl 0;have s1:wz.cell? ⟨i,1,none⟩=some (.int .u8 0):=a.cell 2 rfl 1;have u1:wz.frozen? ⟨i,1,none⟩=false:=a.frozen 2 rfl 1;have s2:wz.cell? ⟨i,2,none⟩=some (.int .u8 0):=a.cell 2 rfl 2;have u2:wz.frozen? ⟨i,2,none⟩=false:=a.frozen 2 rfl 2;have s3:wz.cell? ⟨i,3,none⟩=some (.int .u32 0):=a.cell 2 rfl 3;have u3:wz.frozen? ⟨i,3,none⟩=false:=a.frozen 2 rfl 3;have s4:wz.cell? ⟨i,4,none⟩=some (.slice none 0 0):=a.cell 2 rfl 4;have u4:wz.frozen? ⟨i,4,none⟩=false:=a.frozen 2 rfl 4;have s5:wz.cell? ⟨i,5,none⟩=some (.string ⟨#[]⟩):=a.cell 2 rfl 5;have u5:wz.frozen? ⟨i,5,none⟩=false:=a.frozen 2 rfl 5;have s6:wz.cell? ⟨i,6,none⟩=some (.string ⟨#[]⟩):=a.cell 2 rfl 6;have u6:wz.frozen? ⟨i,6,none⟩=false:=a.frozen 2 rfl 6;clear N;go_wp2_with fail
   have KF:=((((((((a.pick 3 [2,0,1]).set 0 (.int .u8 f.toNat)).set 1 (.int .u8 h.level.toNat)).set 2 (.int .u8 h.system.toNat)).set 3 (.int .u32 h.time)).set 4 (.slice A0 m ce)).set 5 (.string (strOf p))).set 6 (.string (strOf y)));refine bodyPost_ret (Yn rfl _ rfl (Zl KF 0 rfl) Tryz.isAgg28 Tryz.sizeOf28) rfl ?_;exact⟨A0,m,ce,by rw [s.out]; rfl,by rw [s.out]; exact a4.out,by rw [s.out]; exact KF.pick 3 [2]⟩
namespace PG
theorem head_s (h:Hd) (hok:Ok h) (ht:h.time<4294967296) (s r:List UInt8) (hsl:s.length=if has h.flags 2=true then 2 else 0):head (lay0 h++(s++r))=if has h.flags 2=true/\num s≠PCrc.of (lay0 h) % 65536 then .error 21 else .ok (h,(lay0 h).length+s.length):=by
 obtain⟨Q,F,G,H,I⟩:=hok;obtain⟨B,t⟩:∃B,lay0 h++(s++r)=B:=⟨_,rfl⟩;have k:Lies B 0 (lay0 h++s):=⟨r,by rw [List.drop_zero,<- t,List.append_assoc],Nat.zero_le _⟩;have l:=k.left;have u:=k.right;unfold lay0 at l;have x:=l.left;have f:=l.right;rw [Nat.zero_add] at f u;have y:[31,139,8,h.flags].length=4:=rfl;rw [y] at f;have J:B.take 4=[31,139,8,h.flags]:=by
  obtain⟨q,d,_⟩:=x;rw [List.drop_zero] at d;rw [d]; rfl
 have m:=x.len;rw [y] at m;have g:∀i,i<4->B.getD i 0=[31,139,8,h.flags].getD i 0:=fun i hi=>by
  rw [<- J,List.getD_eq_getElem?_getD,List.getD_eq_getElem?_getD,List.getElem?_take_of_lt hi]
 have K:B.getD 0 0=31:=g 0 (by decide);have L:B.getD 1 0=139:=g 1 (by decide);have M:B.getD 2 0=8:=g 2 (by decide);have z:B.getD 3 0=h.flags:=g 3 (by decide);have N:begin_ B=0:=by
  unfold begin_;rw [if_neg (by omega),K,if_neg (by decide),if_neg (by omega),L,if_neg (by decide),if_neg (by omega),M,if_neg (by decide),if_neg (by omega),z,if_neg (by omega)]
 have A:=next_lies f.left;rw [low_len] at A;have b:=f.right;rw [low_len] at b;have e:=b.left;have C:=next_lies (Lies.left (w:=[h.level]) (v:=[h.system]) e);have n:=next_lies (Lies.right (w:=[h.level]) (v:=[h.system]) e);have c:=b.right;have O:=exR_lies F G c.left;have P:=txR_lies H c.right.left;have D:=txR_lies I c.right.right;have o:(lay0 h).length=4+4+[h.level,h.system].length+(exW h).length+(txW h.flags 8 h.name).length+(txW h.flags 16 h.note).length:=by
  unfold lay0;simp only [List.length_append,low_len,List.length_cons,List.length_nil];omega
 rw [<- o] at D;unfold head;rw [t,N,if_neg (by decide),z];simp only;rw [A];simp only;rw [show [h.level].length=1 from rfl] at C n;rw [C];simp only;rw [show [h.system].length=1 from rfl] at n;rw [n];simp only;rw [show 4+4+1+1=4+4+[h.level,h.system].length from rfl,O];simp only;rw [P];simp only;rw [D];simp only;have p:B.take (lay0 h).length=lay0 h:=by
  obtain⟨q,d,_⟩:=k.left;rw [List.drop_zero] at d;rw [d,List.take_left]
 rw [p,num_low,show h.time % 256 ^ 4=h.time by rw [Nat.mod_eq_of_lt]; exact ht];by_cases a:has h.flags 2=true
 ·rw [if_pos a] at hsl;have E:=next_lies u;rw [hsl] at E;rw [if_pos a,E];simp only;by_cases j:num s=PCrc.of (lay0 h) % 65536
  ·rw [if_neg (by rintro⟨_,q,_⟩; exact q j),if_neg (by decide),if_neg (by rintro⟨_,q⟩; exact q j),hsl];rfl
  ·rw [if_pos ⟨a,j,trivial⟩,if_pos ⟨a,j⟩]
 ·rw [if_neg a] at hsl;rw [if_neg a];simp only;rw [if_neg (by rintro⟨q,_⟩; exact a q),if_neg (by decide),if_neg (by rintro⟨q,_⟩; exact a q),hsl];rfl
theorem num_inj:∀(l m:List UInt8),l.length=m.length->num l=num m->l=m
 | [],[],_,_=>rfl
 | [],_::_,h,_=>by cases h
 | _::_,[],h,_=>by cases h
 | a::l,b::m,h,k=>by
  have e:a.toNat+256 * num l=b.toNat+256 * num m:=k;have f:=UInt8.toNat_lt a;have g:=UInt8.toNat_lt b;have c:a.toNat=b.toNat:=by omega
  have d:num l=num m:=by omega
  rw [UInt8.toNat_inj.1 c,num_inj l m (by simpa using h) d]
theorem get_s (h:Hd) (hok:Ok h) (ht:h.time<4294967296) (s b t:List UInt8) (hsl:s.length=if has h.flags 2=true then 2 else 0) (htl:t.length=8) (most:Nat) (hm:b.length<=most) (hb:b.length<4294967296) :
  get (lay0 h++(s++(PD.defl b++t))) most=if has h.flags 2=true/\num s≠PCrc.of (lay0 h) % 65536 then .error 21 else if t=tailW b then .ok (h,b,(lay0 h).length+s.length+(PD.defl b).length+8) else .error 21:=by
 unfold get;rw [head_s h hok ht s _ hsl];by_cases a:has h.flags 2=true/\num s≠PCrc.of (lay0 h) % 65536
 ·rw [if_pos a,if_pos a]
 ·rw [if_neg a,if_neg a];simp only;have d:(lay0 h++(s++(PD.defl b++t))).drop ((lay0 h).length+s.length)=PD.defl b++t:=by
   rw [<- List.drop_drop,List.drop_left,List.drop_left]
  have e:(PD.deflN b+7) / 8=(PD.defl b).length:=(PD.defl_len b).symm;have f:(lay0 h++(s++(PD.defl b++t))).drop ((lay0 h).length+s.length+(PD.defl b).length)=t:=by
   rw [<- List.drop_drop,d,List.drop_left]
  rw [d,PD.defl_behind b _ most hm];simp only;rw [e,f];by_cases c:t=tailW b
  ·have:=ends_tail b [] hb;rw [List.append_nil] at this;rw [c,this,if_neg (by decide),if_pos rfl]
  ·have:ends t b=21:=by
    unfold ends;rw [if_neg (by omega),if_pos];refine Decidable.byContradiction fun hno=>c ?_;have g:num (t.take 4)=PCrc.of b:=Decidable.byContradiction fun q=>hno (.inl q);have i:num ((t.drop 4).take 4)=b.length % 4294967296:=Decidable.byContradiction fun q=>hno (.inr q);have j:t.take 4=low (PCrc.of b) 4:=num_inj _ _ (by rw [List.length_take,low_len]; omega) (by rw [g,num_low,Nat.mod_eq_of_lt (PCrc.of_lt b)]);have k:(t.drop 4).take 4=low b.length 4:=num_inj _ _ (by rw [List.length_take,List.length_drop,low_len]; omega) (by rw [i,num_low]);have l:t=t.take 4++(t.drop 4).take 4:=by
     have:(t.drop 4).take 4=t.drop 4:=List.take_of_length_le (by rw [List.length_drop]; omega);rw [this,List.take_append_drop]
    rw [l,j,k];rfl
   rw [this,if_pos (by decide),if_neg c]
theorem put_s (h:Hd) (b:List UInt8):put h b=lay0 h++(suW h.flags (lay0 h)++(PD.defl b++tailW b)):=by
 unfold put lay;rw [List.append_assoc]
theorem suW_len (f:UInt8) (l:List UInt8):(suW f l).length=if has f 2=true then 2 else 0:=by
 unfold suW;split
 ·rw [low_len]
 ·rfl
theorem get_tail (h:Hd) (hok:Ok h) (ht:h.time<4294967296) (b t:List UInt8) (htl:t.length=8) (most:Nat) (hm:b.length<=most) (hb:b.length<4294967296) :
  get (lay h++(PD.defl b++t)) most=if t=tailW b then .ok (h,b,(put h b).length) else .error 21:=by
 have e:lay h++(PD.defl b++t)=lay0 h++(suW h.flags (lay0 h)++(PD.defl b++t)):=by unfold lay; rw [List.append_assoc]
 have a:¬ (has h.flags 2=true/\num (suW h.flags (lay0 h))≠PCrc.of (lay0 h) % 65536):=by
  rintro⟨q,r⟩;unfold suW at r;rw [if_pos q,num_low] at r;exact r rfl
 rw [e,get_s h hok ht _ b t (suW_len _ _) htl most hm hb,if_neg a,put_len];have c:(lay h).length=(lay0 h).length+(suW h.flags (lay0 h)).length:=by unfold lay; rw [List.length_append]
 rw [c,Nat.add_assoc ((lay0 h).length+(suW h.flags (lay0 h)).length)]
def turnH (h:Hd) (k x:Nat):Hd:=if k<4 then { h with time:=num ((low h.time 4).set k (UInt8.ofNat x)) } else if k=4 then { h with level:=UInt8.ofNat x } else { h with system:=UInt8.ofNat x }
theorem low_num:∀(l:List UInt8),low (num l) l.length=l
 | []=>rfl
 | c::l=>by
  show UInt8.ofNat (c.toNat+256 * num l)::low ((c.toNat+256 * num l) / 256) l.length=c::l;have d:=UInt8.toNat_lt c;have a:(c.toNat+256 * num l) / 256=num l:=by omega
  have b:UInt8.ofNat (c.toNat+256 * num l)=c:=by
   apply UInt8.toNat_inj.1;rw [UInt8.toNat_ofNat'];show(c.toNat+256 * num l) % 256=c.toNat;omega
  rw [a,b,low_num l]
theorem turn_lay0 (h:Hd) (k x:Nat) (hk:k<6):lay0 (turnH h k x)=(lay0 h).set (4+k) (UInt8.ofNat x):=by
 have e:(low h.time 4).length=4:=low_len _ _;have d:k=0∨k=1∨k=2∨k=3∨k=4∨k=5:=by omega
 have c:∀(t:List UInt8),t.length=4->low (num t) 4=t:=fun t q=>by
  have:=low_num t
  rwa [q] at this
 obtain⟨t,a⟩:∃t,low h.time 4=t:=⟨_,rfl⟩;have b:t.length=4:=by rw [<- a]; exact low_len _ _
 rcases d with rfl | rfl | rfl | rfl | rfl | rfl
 all_goals
  unfold lay0 turnH exW txW;simp only [reduceIte,a,Nat.reduceLT,Nat.reduceEqDiff]
  try rw [c _ (by rw [List.length_set]; exact b)]
  rcases t with _ | ⟨t0,_ | ⟨t1,_ | ⟨t2,_ | ⟨t3,_ | ⟨t4,t⟩⟩⟩⟩⟩ <;> first | (simp at b; done) | rfl
theorem turn_ok {h:Hd} (k x:Nat) (hok:Ok h):Ok (turnH h k x):=by
 unfold turnH;split
 ·exact hok
 ·split <;> exact hok
theorem turn_time {h:Hd} (k x:Nat) (ht:h.time<4294967296):(turnH h k x).time<4294967296:=by
 unfold turnH;split
 ·have:=num_lt ((low h.time 4).set k (UInt8.ofNat x));rw [List.length_set,low_len] at this;exact this
 ·split <;> exact ht
theorem turn_flags (h:Hd) (k x:Nat):(turnH h k x).flags=h.flags:=by
 unfold turnH;split
 ·rfl
 ·split <;> rfl
theorem lay0_long (h:Hd):10<=(lay0 h).length:=by
 unfold lay0;simp only [List.length_append,low_len,List.length_cons,List.length_nil];omega
theorem get_turned (h:Hd) (hok:Ok h) (ht:h.time<4294967296) (b:List UInt8) (k x:Nat) (hk:k<6) (most:Nat) (hm:b.length<=most) (hb:b.length<4294967296) :
  (∃g,get ((put h b).set (4+k) (UInt8.ofNat x)) most=.ok (g,b,(put h b).length))∨(get ((put h b).set (4+k) (UInt8.ofNat x)) most=.error 21/\has h.flags 2=true):=by
 have i:=lay0_long h;have c:(put h b).set (4+k) (UInt8.ofNat x)=lay0 (turnH h k x)++(suW h.flags (lay0 h)++(PD.defl b++tailW b)):=by
  rw [put_s,turn_lay0 h k x hk,List.set_append_left _ _ (by omega)]
 have d:(lay0 (turnH h k x)).length=(lay0 h).length:=by rw [turn_lay0 h k x hk,List.length_set]
 have e:(put h b).length=(lay0 h).length+(suW h.flags (lay0 h)).length+(PD.defl b).length+8:=by
  rw [put_s,List.length_append,List.length_append,List.length_append,tailW_len];omega
 have f:=get_s (turnH h k x) (turn_ok k x hok) (turn_time k x ht) (suW h.flags (lay0 h)) b (tailW b) (by rw [turn_flags]; exact suW_len _ _) (tailW_len b) most hm hb;rw [c,f,turn_flags,d,<- e];by_cases a:has h.flags 2=true/\num (suW h.flags (lay0 h))≠PCrc.of (lay0 (turnH h k x)) % 65536
 ·rw [if_pos a];exact .inr ⟨rfl,a.1⟩
 ·rw [if_neg a,if_pos rfl];exact .inl ⟨_,rfl⟩
end PG
namespace PG
theorem put_ge (h:Hd) (b:List UInt8):18<=(put h b).length:=by
 have a:=lay0_long h;rw [put_len];unfold lay;rw [List.length_append];omega
def tl (t:List UInt8) (j:Nat) (by_:List UInt8):Nat->List UInt8
 | 0=>t
 | i+1=>(tl t j by_ i).set (j+i) ((tl t j by_ i).getD (j+i) 0 ^^^ by_.getD i 0)
theorem tl_len (t:List UInt8) (j:Nat) (by_:List UInt8) (i:Nat):(tl t j by_ i).length=t.length:=by
 induction i with
 | zero=>rfl
 | succ i ih=>show((tl t j by_ i).set _ _).length=_; rw [List.length_set,ih]
theorem tl_app (P t:List UInt8) (j:Nat) (by_:List UInt8) (i:Nat):tl (P++t) (P.length+j) by_ i=P++tl t j by_ i:=by
 induction i with
 | zero=>rfl
 | succ i ih =>
  show(tl (P++t) (P.length+j) by_ i).set (P.length+j+i) _=P++(tl t j by_ i).set (j+i) _;rw [ih,Nat.add_assoc,List.set_append_right _ _ (by omega),Nat.add_sub_cancel_left];congr 3;rw [List.getD_eq_getElem?_getD,List.getD_eq_getElem?_getD,List.getElem?_append_right (by omega),Nat.add_sub_cancel_left]
theorem tl_get (t:List UInt8) (j:Nat) (by_:List UInt8) (i m:Nat) (hj:j+i<=t.length):(tl t j by_ i).getD m 0=if j<=m/\m<j+i then t.getD m 0 ^^^ by_.getD (m - j) 0 else t.getD m 0:=by
 induction i with
 | zero=>rw [if_neg (by omega)]; rfl
 | succ i ih =>
  have ih:=ih (by omega);show((tl t j by_ i).set (j+i) ((tl t j by_ i).getD (j+i) 0 ^^^ by_.getD i 0)).getD m 0=_;rw [List.getD_eq_getElem?_getD,List.getElem?_set];by_cases a:j+i=m
  ·subst a;rw [if_pos rfl,if_pos (by rw [tl_len]; omega),if_pos (by omega),Nat.add_sub_cancel_left];show(tl t j by_ i).getD (j+i) 0 ^^^ _=_;have c:(tl t j by_ i).getD (j+i) 0=t.getD (j+i) 0:=by
    have:∀q,q<=i->(tl t j by_ q).getD (j+i) 0=t.getD (j+i) 0:=by
     intro q;induction q with
     | zero=>intro _; rfl
     | succ q ih2 =>
      intro d;show((tl t j by_ q).set (j+q) _).getD (j+i) 0=_;rw [List.getD_eq_getElem?_getD,List.getElem?_set,if_neg (by omega),<- List.getD_eq_getElem?_getD,ih2 (by omega)]
    exact this i (Nat.le_refl _)
   rw [c]
  ·rw [if_neg a,<- List.getD_eq_getElem?_getD,ih];by_cases b:j<=m/\m<j+i
   ·rw [if_pos b,if_pos (by omega)]
   ·rw [if_neg b,if_neg (by omega)]
theorem xor_same (a b:UInt8):a ^^^ b=a↔b=0:=by
 constructor
 ·intro h;have c:a ^^^ (a ^^^ b)=a ^^^ a:=by rw [h]
  rw [<- UInt8.xor_assoc,UInt8.xor_self,UInt8.zero_xor] at c;exact c
 ·rintro rfl;exact UInt8.xor_zero
theorem tl_same (t:List UInt8) (j:Nat) (by_:List UInt8) (hb:by_.length=4) (hj:j+4<=t.length):tl t j by_ 4=t↔by_=[0,0,0,0]:=by
 constructor
 ·intro h;have f:∀i,i<4->by_.getD i 0=0:=fun i hi=>by
   have g:=tl_get t j by_ 4 (j+i) hj;rw [h,if_pos (by omega),Nat.add_sub_cancel_left] at g;exact(xor_same _ _).1 g.symm
  rcases by_ with _ | ⟨a,_ | ⟨b,_ | ⟨c,_ | ⟨d,_ | ⟨e,l⟩⟩⟩⟩⟩ <;> try (simp at hb; done)
  have k:a=0:=f 0 (by decide);have g:b=0:=f 1 (by decide);have m:c=0:=f 2 (by decide);have n:d=0:=f 3 (by decide);rw [k,g,m,n]
 ·rintro rfl;have:∀i,i<=4->tl t j [0,0,0,0] i=t:=by
   intro i;induction i with
   | zero=>intro _; rfl
   | succ i ih =>
    intro hi;show(tl t j [0,0,0,0] i).set (j+i) ((tl t j [0,0,0,0] i).getD (j+i) 0 ^^^ ([0,0,0,0]:List UInt8).getD i 0)=t;rw [ih (by omega)];have f:([0,0,0,0]:List UInt8).getD i 0=0:=by
     have:i=0∨i=1∨i=2∨i=3:=by omega
     rcases this with rfl | rfl | rfl | rfl <;> rfl
    rw [f,UInt8.xor_zero,List.getD_eq_getElem?_getD,List.getElem?_eq_getElem (by omega)];show t.set (j+i) (t[j+i])=t;exact List.set_getElem_self _
  exact this 4 (Nat.le_refl _)
theorem get_tl (h:Hd) (hok:Ok h) (ht:h.time<4294967296) (b:List UInt8) (j:Nat) (hj:j<=4) (by_:List UInt8) (hb:by_.length=4) (most:Nat) (hm:b.length<=most) (hb2:b.length<4294967296) :
  get (tl (put h b) ((put h b).length - 8+j) by_ 4) most=if by_=[0,0,0,0] then .ok (h,b,(put h b).length) else .error 21:=by
 have c:put h b=(lay h++PD.defl b)++tailW b:=by unfold put; rw [List.append_assoc]
 have d:(put h b).length - 8=(lay h++PD.defl b).length:=by rw [c,List.length_append,tailW_len]; omega
 have e:tl (put h b) ((put h b).length - 8+j) by_ 4=lay h++(PD.defl b++tl (tailW b) j by_ 4):=by
  rw [d]
  conv=>lhs; rw [c]
  rw [tl_app,List.append_assoc]
 rw [e,get_tail h hok ht b _ (by rw [tl_len,tailW_len]) most hm hb2];by_cases a:by_=[0,0,0,0]
 ·rw [if_pos a,if_pos ((tl_same _ _ _ hb (by rw [tailW_len]; omega)).2 a)]
 ·rw [if_neg a,if_neg (fun q=>a ((tl_same _ _ _ hb (by rw [tailW_len]; omega)).1 q))]
end PG
end Go.Proofs.YtnjpnmpemhldcaaGreatDoor

