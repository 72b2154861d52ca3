/- A pack. -/
import Derived.Test.YteajimobgkempaaGreatDoorPk41
import Derived.Test.YteajimobgkempaaGreatDoorPk42
set_option linter.all false
set_option maxRecDepth 100000
set_option maxHeartbeats 8000000
namespace Go.Proofs.YteajimobgkempaaGreatDoor
variable {w0 w:World} {L:List Pr}
open Go.RowKit
theorem YB (g:Nat) (B:List Bool) (at_:Nat) (H:Sp w0 (Rw g B at_::L) w) (hB:B.length<=1000000) :
  Calls Tryz.prog 62 #[.pointer (some ⟨g,0,none⟩)] w fun e w'=>∃g2,e=.returned (.pointer (some ⟨g2,0,none⟩))/\Sp w0 (Rw g2 B 0::Rw g B at_::L) w':=by
 obtain⟨O,P,o,p,r⟩:=info_parts infoBb;obtain⟨h,c,J,_,_,_,_,_,s,Q⟩:=ZU H;have i:=hid (J.newBk [.slice none 0 0,.int .i64 0] 66);obtain⟨d,m⟩:=exq B.length;rw [m] at i hB s;have n:=hid m;clear H J;go_enter Tryz.func62,Tryz.ntmps62
 go_wp2_with fail
 replace i:=i.out;generalize World.alloc _ _=w1 at i ⊢;generalize w.heap.size=g2 at i ⊢;clear m;have R:Hid (Ent (RwB g (.slice h d c) at_::Row 4 1 (.slice h d c) d (cellsBb B)::L) fun w=>w.cell? ⟨g,0,none⟩=some (.slice h d c)):=hid fun _ _ q=>q.cell 0 rfl 0;have t:Hid (Ent (RwB g (.slice h d c) at_::Row 4 1 (.slice h d c) d (cellsBb B)::L) fun w=>Rd w h (cellsBb B)):=hid fun _ _ q=>rowRd q 1 rfl;refine Zu (L:=RwB g (.slice h d c) at_::Row 4 1 (.slice h d c) d (cellsBb B)::L) [some (.pointer (some ⟨g2,0,none⟩)),some (.pointer (some ⟨g2,0,none⟩)),some (.pointer (some ⟨g2,0,none⟩)),some (.pointer (some ⟨g2,0,none⟩)),some (.slice none 0 0),some (.pointer (some ⟨g,0,none⟩)),some (.pointer (some ⟨g,0,none⟩)),some (.pointer (some ⟨g,0,none⟩)),some (.slice h d c),none,some (.pointer (some ⟨g2,0,none⟩)),some (.pointer (some ⟨g2,0,none⟩)),none] (fun ix ux vx=>match ix with | 9=>(fun v=>∃V c,v=.slice V d c) vx | _=>True) (fun ix ux vx=>match ix with | 9=>(fun v=>[Row 4 1 v d (cellsBb B)]) vx | 12=>(fun _=>[Rw g2 B 0]) vx | _=>[]) (fun ix=>match ix with | 12=>[RwB g2 (.slice none 0 0) 0] | _=>[]) 13 19
  [some 6,some 7,some 8,some 9,some 10,some 11,some 12,some 13,some 14,some 15,some 16,some 17,none]
  [[],[],[1],[2],[3],[],[5],[6],[7],[4,8],[0,0,1,2,3,4,5,6,7,8,9],[10,0,1,2,3,4,5,6,7,8,9],[11,9,9,0,1,2,3,4,5,6,7,8,9]]
  [[],[],[1],[1,2],[1,2,3],[],[5],[5,6],[5,6,7],[1,2,3,4,5,6,7,8],[0,1,2,3,4,5,6,7,8,9],[0,1,2,3,4,5,6,7,8,9,10],[0,1,2,3,4,5,6,7,8,9,10,11]]
  [[],[],[],[],[],[],[],[],[],[],[],[],[9]] [[],[],[],[],[12],[],[],[],[],[],[],[],[]] [none,none,none,none,none,none,none,none,none,none,none,none,some 9] [(0,.pointer (some ⟨g,0,none⟩)),(3,.pointer (some ⟨g2,0,none⟩))]
  (by kernel_rfl) rfl (by decide) (by rfl) (by decide +kernel) rfl (by simp) (by rfl) (i) ?hstep ?hend
 case hstep =>
  refine⟨?p0,⟨?p1,⟨?p2,⟨?p3,⟨?p4,⟨?p5,⟨?p6,⟨?p7,⟨?p8,⟨?p9,⟨?p10,⟨?p11,⟨?p12,trivial⟩⟩⟩⟩⟩⟩⟩⟩⟩⟩⟩⟩⟩
  case p0 | p1 | p2 | p3 | p5 | p6 | p7 | p10 | p11 =>
   intro x wx A a k f l H K j;replace j:=hid j;clear f l;repeat (obtain⟨_,k⟩:=k)
   refine so ?_;go_step;exact j.out _ _ rfl H
  case p4 =>
   intro x wx A a k f l H K b;have u:=tq f 3;replace H:Sp w0 (_::a) wx:=H;have j:=hid b;clear b k f;have S:wx.cell? ⟨g2,0,none⟩=some (.slice none 0 0):=H.cell 0 rfl 0;refine so ?_;go_step;exact j.out _ _ rfl H
  case p8 =>
   intro x wx A a k f l H K b;have T:=tq f 7;have j:=hid b;clear b k f;have U:=l _ R.out _ _ H;refine so ?_;go_step;exact j.out _ _ rfl H
  case p9 =>
   intro x wx A a k f l H K b;have y:=tq f 4;have z:=tq f 8;have j:Hid (∀(v:Value) (w' : World),(∃V c,v=.slice V d c)->Sp w0 ((Row 4 1 v d (cellsBb B))::a) w'->K (A.put (some 15) v) w'):=hid b;clear b k f;have C:=l _ t.out _ _ H;refine so ?_;refine Zg _ _ 64 rfl 4 O (.bool false) 1 1 Tryz.underlying64 P o p r rfl (by decide) (.slice none 0 0) 0 [] (ev y) (H.rowNil _ _) h d c (cellsBb B) (ev z) (by rw [<- n.out]; simp [cellsBb]) C (Yy _) (by unfold maxLen; omega) (by omega) ?_;intro Z w2 i _;rw [List.nil_append,Nat.zero_add] at i;obtain⟨D,E,F,_,_⟩:=Row.form i 0 rfl;exact j.out _ _ ⟨D,E,F⟩ i
  case p12 =>
   intro x wx A a k f l H K b;have W:=tq f 11;have G:∃V c,(x 9)=.slice V d c:=(f 9 (by decide)).1;have I:=(f 9 (by decide)).2 15 rfl;replace H:Sp w0 (_::(Row 4 1 (x 9) d (cellsBb B))::a) wx:=H;have j:Hid (∀(v:Value) (w' : World),(True)->Sp w0 ((Rw g2 B 0)::a) w'->K (A.put none v) w'):=hid b;clear b k f l;obtain⟨D,E,u⟩:=G;rw [u] at I;have z0:wx.frozen? ⟨g2,0,none⟩=false:=H.frozen 0 rfl 0;have z1:wx.cell? ⟨g2,0,none⟩=some (.slice none 0 0):=H.cell 0 rfl 0;have M:=hid (H.set 0 (x 9));clear H;rw [u] at M;refine so ?_;go_step;refine j.out undef _ trivial ?_;refine ZM (v:=.slice D d E) ?_;rw [n.out];exact M.out
 case hend =>
  intro x wx A N f H;replace H:Sp w0 (_::_::_::L) wx:=H;clear f;simp only [putAll,Act.put,List.setIfInBounds_toArray,List.set_cons_succ,List.set_cons_zero,Nat.reduceAdd] at N;subst N;have X:=hid (H.pick 3 [1,2,0]);clear H i;go_wp2_with fail
  go_ret;refine⟨_,rfl,?_⟩;have Y:=X.out;refine Sp.swap ?_;refine ZM (v:=.slice h d c) ?_;rw [n.out];exact Y
namespace PD
theorem kind_big (Y:List PM.St) (b:List UInt8) (a:Nat) (h:65535<b.length):kind Y b a=if dynN Y<fixN Y then 2 else 1:=by
 unfold kind sto pick;rw [if_neg (by omega)];first | done | rfl
theorem kind_small (Y:List PM.St) (b:List UInt8) (a:Nat) (h:b.length<=65535):kind Y b a=if 3+pad (a+3)+32+8 * b.length<=(if dynN Y<fixN Y then dynN Y else fixN Y) then 0 else if dynN Y<fixN Y then 2 else 1:=by
 unfold kind sto pick;rw [if_pos h,if_pos (by omega)];generalize 3+pad (a+3)+32+8 * b.length=s;generalize dynN Y=d;generalize fixN Y=f;by_cases e:d<f
 ·rw [if_pos e,if_pos e];by_cases c:s<=d
  ·rw [if_pos c,if_neg (by omega),if_neg (by omega)]
  ·rw [if_neg c];by_cases g:(f:Int)<(s:Int)
   ·rw [if_pos g]
   ·rw [if_neg g,if_pos (by omega)]
 ·rw [if_neg e,if_neg e];by_cases c:s<=f
  ·rw [if_pos c,if_neg (by omega),if_neg (by omega)]
  ·rw [if_neg c,if_pos (by omega)]
def sizesD (Y:List PM.St) (b:List UInt8) (a:Nat):Nat × Nat × Nat:=(if b.length<=65535 then 3+pad (a+3)+32+8 * b.length else 0,fixN Y,dynN Y)
end PD
theorem WY {P:Program} {fn:Func} {s t:Tmp} {ty:TypeId} (h:fn.results=#[.tmp t,.cell s ty]) (tmps:Array Value) {w:World} {ad:Addr} {cs:List Value} (hx:tmps[s]?.getD undef=.pointer (some ad)) (hc:∀j v,cs[j]?=some v->w.cell? (ad.add j)=some v) (ha:∀w,(isAgg ty).run P w=.ok true w) (hs:∀w,(sizeOf ty).run P w=.ok cs.length w) :
  (results fn tmps).run P w=.ok (.tuple #[tmps.getD t undef,.agg cs.toArray]) w:=by
 have a:=run_loadCells_list (P:=P) w ad cs hc;simp [results,h,hx,asAddr,loadVar,ha,hs,a,Result.andThen]
theorem XN {gb lb bk a d f yf yd:Nat} {BA:Option Addr} {B BB FB DB:List Bool} {Y:List PM.St} {b:List UInt8} {last:Bool} {X Z:Pr} (H:Sp w0 (RwB gb (.slice BA lb bk) 0::Row 4 1 (.slice BA lb bk) lb (cellsBb BB)::X::Z::L) w) (hP:PD.partD Y b last a=PD.layD (if d<f then 2 else 1) Y b last a) (hBB:BB=B++(if d<f then DB else FB)) (hlb:lb=a+(if d<f then d else f)) (hF:PD.layD 1 Y b last B.length=FB) (hD:PD.layD 2 Y b last B.length=DB) (haa:B.length=a) (hyl:(B++FB).length=yf) (hzl:(B++DB).length=yd) (hyf:a+f=yf) (hyd:a+d=yd):Sp w0 (X::Rw gb (B++PD.partD Y b last a) 0::Z::L) w:=by
 have e:BB.length=lb:=by
  rw [hBB,hlb];by_cases h:d<f
  ·rw [if_pos h,if_pos h,hzl,hyd]
  ·rw [if_neg h,if_neg h,hyl,hyf]
 have c:B++PD.partD Y b last a=BB:=by
  rw [hP,hBB];by_cases h:d<f
  ·rw [if_pos h,if_pos h,<- hD,haa]
  ·rw [if_neg h,if_neg h,<- hF,haa]
 rw [c];have g:Sp w0 (Rw gb BB 0::X::Z::L) w:=ZM (v:=.slice BA lb bk) (by rw [e]; exact H);exact g.swap
theorem V7 (g:Nat) (B:List Bool) (at_:Nat) (V:Option Addr) (n c:Nat) (Y:List PM.St) (A:Option Addr) (bn bc:Nat) (b:List UInt8) (last:Bool) (H:Sp w0 (Rw g B at_::L) w)
  (hn:n=Y.length) (hY:Ent L fun w=>StAt w V Y) (hc:n<=1000) (hst:∀s ∈ Y,PD.StOk s) (hok:(BP.of Y b last).Ok) (hbn:bn=b.length) (hb:Ent L fun w=>Byt w (.slice A bn bc) b) (hB:B.length<=100000) (hf:PD.fixN Y<=100000) (hd:PD.dynN Y<=100000) :
  Calls Tryz.prog 29 #[.pointer (some ⟨g,0,none⟩),.slice V n c,.slice A bn bc,.bool last] w fun e w'=>∃g2,e=.returned (.tuple #[.pointer (some ⟨g2,0,none⟩),.agg #[.int .i64 ((PD.sizesD Y b B.length).1:Int),.int .i64 ((PD.sizesD Y b B.length).2.1:Int),.int .i64 ((PD.sizesD Y b B.length).2.2:Int)]])/\Sp w0 (Rw g2 (B++PD.partD Y b last B.length) 0::L) w':=by
 have HN:=hid hn;have HY:=hid hY;have b6:=hid hst;have d6:=hid hok;have I:=hid hbn;have HB:=hid hb;have a9:∀t ∈ PD.words Y,PD.WdOk PI.fixedL PI.fixedD t:=by have:=hok.hokX; rw [bpW] at this; exact this
 have d7:=hid a9;have H1:=(H.newBk [.int .i64 0,.int .i64 0,.int .i64 0] 34);have J:=hid H1.swap;clear hn hY hst hok hbn hb a9 H H1;go_enter Tryz.func29,Tryz.ntmps29
 go_upto_region 1 with (fail)
 replace J:=J.out;generalize World.alloc _ _=w1 at J ⊢;generalize w.heap.size=gs at J ⊢;have j:=hid (YB g B at_ J (by omega));clear J;go_wp2_with fail
 refine j.out.mono ?_;rintro _ w2 ⟨m,rfl,l⟩;clear j;have j:=hid (YB g B at_ (l.pick 2 [1,0]) (by omega));clear l;go_wp2_with fail
 refine j.out.mono ?_;rintro _ w3 ⟨o,rfl,l⟩;clear j;have j:=hid (YB g B at_ (l.pick 3 [1,0,2]) (by omega));clear l;go_wp2_with fail
 refine j.out.mono ?_;rintro _ w4 ⟨p,rfl,l⟩;clear j
 -- p, g, o, m, gs
 have j:=hid (VU o B 0 V n c Y b last (l.pick 5 [2,0,1,3,4]) HN.out (fun _ _ q=>HY.out _ _ (q.pick 4 [])) hc b6.out d7.out (by omega));clear l;go_wp2_with fail
 refine j.out.mono ?_;rintro _ w5 ⟨rfl,l⟩;clear j;have j:=hid (X0 p B 0 V n c Y b last (l.pick 5 [1,0,2,3,4]) HN.out (fun _ _ q=>HY.out _ _ (q.pick 4 [])) hc b6.out d6.out (by omega));clear l;go_wp2_with fail
 refine j.out.mono ?_;rintro _ w6 ⟨rfl,l⟩;clear j
 -- p (dynamic), o (fixed), g, m, gs
 obtain⟨FB,a1⟩:=exq (PD.layD 1 Y b last B.length);obtain⟨DB,a2⟩:=exq (PD.layD 2 Y b last B.length);obtain⟨f,a3⟩:=exq (PD.fixN Y);obtain⟨d,a4⟩:=exq (PD.dynN Y);obtain⟨a,M⟩:=exq B.length;have b7:FB.length=f:=by rw [<- a1,PD.layD1_len,a3]
 have b8:DB.length=d:=by rw [<- a2,PD.layD2_len,a4]
 rw [a1,a2] at l;rw [a3] at hf;rw [a4] at hd;rw [M] at hB;obtain⟨yf,a5⟩:=exq (a+f);obtain⟨yd,a6⟩:=exq (a+d);have b0:(B++FB).length=yf:=by rw [List.length_append,M,b7,a5]
 have b1:(B++DB).length=yd:=by rw [List.length_append,M,b8,a6]
 have b9:=hid a1;have c4:=hid a2;have b2:=hid a3;have b3:=hid a4;have z:=hid M;have c5:=hid b0;have c6:=hid b1;obtain⟨O,Q,K2,_,_,_,_,_,_,_⟩:=ZU l;obtain⟨R,S,T,_,_,_,_,_,_,_⟩:=ZU (K2.pick 3 [2,0,1]);obtain⟨r,y,K4,_,_,_,_,_,_,_⟩:=ZU (T.pick 5 [4,0,1,2,3]);rw [b0,b1,M] at K4;clear l K2 T a1 a2 a3 a4 M b0 b1 b7 b8
 -- RwB g, Row g, RwB o, Row o, RwB p, Row p, Rw m, Bk gs
 have y1:(yf:Int) - (a:Int)=(f:Int):=by omega
 have y2:(yd:Int) - (a:Int)=(d:Int):=by omega
 have d8:Hid (Ent (RwB g (.slice r a y) at_::Row 4 1 (.slice r a y) a (cellsBb B)::RwB o (.slice R yf S) 0::Row 4 1 (.slice R yf S) yf (cellsBb (B++FB))::RwB p (.slice O yd Q) 0::Row 4 1 (.slice O yd Q) yd (cellsBb (B++DB))::Rw m B 0::Bk gs 34 [.int .i64 0,.int .i64 0,.int .i64 0]::L) fun w=>w.cell? ⟨o,0,none⟩=some (.slice R yf S)):=hid fun _ _ q=>q.cell 2 rfl 0;have d9:Hid (Ent (RwB g (.slice r a y) at_::Row 4 1 (.slice r a y) a (cellsBb B)::RwB o (.slice R yf S) 0::Row 4 1 (.slice R yf S) yf (cellsBb (B++FB))::RwB p (.slice O yd Q) 0::Row 4 1 (.slice O yd Q) yd (cellsBb (B++DB))::Rw m B 0::Bk gs 34 [.int .i64 0,.int .i64 0,.int .i64 0]::L) fun w=>w.cell? ⟨p,0,none⟩=some (.slice O yd Q)):=hid fun _ _ q=>q.cell 4 rfl 0;have c7:Hid (Ent (RwB g (.slice r a y) at_::Row 4 1 (.slice r a y) a (cellsBb B)::RwB o (.slice R yf S) 0::Row 4 1 (.slice R yf S) yf (cellsBb (B++FB))::RwB p (.slice O yd Q) 0::Row 4 1 (.slice O yd Q) yd (cellsBb (B++DB))::Rw m B 0::Bk gs 34 [.int .i64 0,.int .i64 0,.int .i64 0]::L) fun w=>w.cell? ⟨g,0,none⟩=some (.slice r a y)):=hid fun _ _ q=>q.cell 0 rfl 0;replace K4:=hid K4;go_wp2_with fail
 refine Zu (L:=RwB g (.slice r a y) at_::Row 4 1 (.slice r a y) a (cellsBb B)::RwB o (.slice R yf S) 0::Row 4 1 (.slice R yf S) yf (cellsBb (B++FB))::RwB p (.slice O yd Q) 0::Row 4 1 (.slice O yd Q) yd (cellsBb (B++DB))::Rw m B 0::Bk gs 34 [.int .i64 0,.int .i64 0,.int .i64 0]::L) [some (.pointer (some ⟨o,0,none⟩)),some (.pointer (some ⟨o,0,none⟩)),some (.pointer (some ⟨o,0,none⟩)),some (.slice R yf S),some (.int .i64 yf),some (.pointer (some ⟨g,0,none⟩)),some (.pointer (some ⟨g,0,none⟩)),some (.pointer (some ⟨g,0,none⟩)),some (.slice r a y),some (.int .i64 a),some (.int .i64 f),some (.pointer (some ⟨p,0,none⟩)),some (.pointer (some ⟨p,0,none⟩)),some (.pointer (some ⟨p,0,none⟩)),some (.slice O yd Q),some (.int .i64 yd),some (.pointer (some ⟨g,0,none⟩)),some (.pointer (some ⟨g,0,none⟩)),some (.pointer (some ⟨g,0,none⟩)),some (.slice r a y),some (.int .i64 a),some (.int .i64 d),some (.agg #[.int .i64 0,.int .i64 f,.int .i64 d]),none,some (undef)] (fun ix ux vx=>match ix with | 23=>(fun vv=>vv=.pointer (some ⟨ptrOf vv,0,none⟩)) vx | _=>True) (fun ix ux vx=>match ix with | 23=>(fun vv=>[Bk (ptrOf vv) 34 [.int .i64 0,.int .i64 0,.int .i64 0]]) vx | 24=>(fun _=>[Bk (ptrOf ux) 34 [.int .i64 0,.int .i64 f,.int .i64 d]]) vx | _=>[]) (fun _=>[]) 25 98
  [some 29,some 30,some 31,some 32,some 33,some 34,some 35,some 36,some 37,some 38,some 39,some 40,some 41,some 42,some 43,some 44,some 45,some 46,some 47,some 48,some 49,some 50,some 51,some 13,none]
  [[],[0],[1],[2],[3],[],[5],[6],[7],[8],[4,9],[],[11],[12],[13],[14],[],[16],[17],[18],[19],[15,20],[10,21],[],[23,22,0,1,2,3,4,5,6,7,8,9,10,11,12,13,14,15,16,17,18,19,20,21,22,23]]
  [[],[0],[0,1],[0,1,2],[0,1,2,3],[],[5],[5,6],[5,6,7],[5,6,7,8],[0,1,2,3,4,5,6,7,8,9],[],[11],[11,12],[11,12,13],[11,12,13,14],[],[16],[16,17],[16,17,18],[16,17,18,19],[11,12,13,14,15,16,17,18,19,20],[0,1,2,3,4,5,6,7,8,9,10,11,12,13,14,15,16,17,18,19,20,21],[],[0,1,2,3,4,5,6,7,8,9,10,11,12,13,14,15,16,17,18,19,20,21,22,23]]
  [[],[],[],[],[],[],[],[],[],[],[],[],[],[],[],[],[],[],[],[],[],[],[],[],[23]] [[],[],[],[],[],[],[],[],[],[],[],[],[],[],[],[],[],[],[],[],[],[],[],[],[]] [none,none,none,none,none,none,none,none,none,none,none,none,none,none,none,none,none,none,none,none,none,none,none,none,some 23] [(0,.pointer (some ⟨g,0,none⟩)),(11,.pointer (some ⟨o,0,none⟩)),(12,.pointer (some ⟨p,0,none⟩))]
  (by kernel_rfl) rfl (by decide) (by rfl) (by decide +kernel) rfl (by simp) (by rfl) (K4.out) ?hstep ?hend
 case hstep =>
  refine⟨?p0,⟨?p1,⟨?p2,⟨?p3,⟨?p4,⟨?p5,⟨?p6,⟨?p7,⟨?p8,⟨?p9,⟨?p10,⟨?p11,⟨?p12,⟨?p13,⟨?p14,⟨?p15,⟨?p16,⟨?p17,⟨?p18,⟨?p19,⟨?p20,⟨?p21,⟨?p22,⟨?p23,⟨?p24,trivial⟩⟩⟩⟩⟩⟩⟩⟩⟩⟩⟩⟩⟩⟩⟩⟩⟩⟩⟩⟩⟩⟩⟩⟩⟩
  case p0 | p1 | p2 | p4 | p5 | p6 | p7 | p9 | p10 | p11 | p12 | p13 | p15 | p16 | p17 | p18 | p20 | p21 | p22 =>
   intro x wx A rest G i N H K C;replace C:=hid C;clear i N;repeat (obtain⟨_,G⟩:=G)
   refine so ?_;go_step;exact C.out _ _ rfl H
  case p3 =>
   intro x wx A rest G i N H K h;have f2:=tq i 2;have C:=hid h;clear h G i;have cc:=N _ d8.out _ _ H;refine so ?_;go_step;exact C.out _ _ rfl H
  case p8 =>
   intro x wx A rest G i N H K h;have f3:=tq i 7;have C:=hid h;clear h G i;have cc:=N _ c7.out _ _ H;refine so ?_;go_step;exact C.out _ _ rfl H
  case p14 =>
   intro x wx A rest G i N H K h;have f4:=tq i 13;have C:=hid h;clear h G i;have cc:=N _ d9.out _ _ H;refine so ?_;go_step;exact C.out _ _ rfl H
  case p19 =>
   intro x wx A rest G i N H K h;have f5:=tq i 18;have C:=hid h;clear h G i;have cc:=N _ c7.out _ _ H;refine so ?_;go_step;exact C.out _ _ rfl H
  case p23 =>
   intro x wx A rest G i N H K h;have C:=hid h;clear h G i N;refine so ?_;go_step;exact C.out _ _ rfl (H.newBk _ _)
  case p24 =>
   intro x wx A rest G i N H K h;have e0:(x 23)=.pointer (some ⟨ptrOf (x 23),0,none⟩):=(i 23 (by decide)).1;have e1:=(i 23 (by decide)).2 13 rfl;have e2:=tq i 22;replace H:Sp w0 ((Bk (ptrOf (x 23)) 34 [.int .i64 0,.int .i64 0,.int .i64 0])::rest) wx:=H;have C:Hid (∀(v:Value) (w' : World),(v=undef)->Sp w0 ((Bk (ptrOf (x 23)) 34 [.int .i64 0,.int .i64 f,.int .i64 d])::rest) w'->K (A.put none v) w'):=hid h;clear h G i N;obtain⟨w9,hst,H9⟩:=Xj (P:=Tryz.prog) [.int .i64 0,.int .i64 f,.int .i64 d] 0 _ wx H (by show 0+3<=3; omega) (by intro u hu; simp only [List.mem_cons,List.not_mem_nil,or_false] at hu; rcases hu with rfl | rfl | rfl <;> rfl)
   refine so ?_;exact Zl 34 _ _ rfl _ [.int .i64 0,.int .i64 f,.int .i64 d] (ev (e1.trans e0)) (ev e2) hst Tryz.sizeOf34 (C.out undef _ rfl H9)
 case hend =>
  intro x wx A hA i H;replace H:Sp w0 ((Bk (ptrOf (x 23)) 34 [.int .i64 0,.int .i64 f,.int .i64 d])::_::_::_::_::_::_::_::_::L) wx:=H;have b4:(x 23)=.pointer (some ⟨ptrOf (x 23),0,none⟩):=i 23 (by decide);clear i;simp only [putAll,Act.put,List.setIfInBounds_toArray,List.set_cons_succ,List.set_cons_zero,Nat.reduceAdd] at hA;subst hA;obtain⟨U,c8⟩:=exq (ptrOf (x 23));rw [c8] at b4 H;rw [b4];clear b4 c8 K4;have K5:=hid H;clear H y1 y2;have c1:wx.cell? ⟨o,0,none⟩=some (.slice R yf S):=K5.out.cell 3 rfl 0;have c2:wx.cell? ⟨p,0,none⟩=some (.slice O yd Q):=K5.out.cell 5 rfl 0;go_wp2_with fail
  go_quiet (fail)
  have K6:=hid (K5.out.drewN nq);clear K5 c1 c2;generalize wx.drewN nq=w7 at K6 ⊢;go_upto_if 63 with (fail)
  go_cut [14] from 15 to 97 (fun s14 wx=>∃(gb lb bk:Nat) (BA:Option Addr) (BB:List Bool),s14=.pointer (some ⟨gb,0,none⟩)/\lb=a+(if d<f then d else f)/\BB=B++(if d<f then DB else FB)/\Sp w0 (Bk U 34 [.int .i64 0,.int .i64 f,.int .i64 d]::RwB gb (.slice BA lb bk) 0::Row 4 1 (.slice BA lb bk) lb (cellsBb BB)::RwB g (.slice r a y) at_::Row 4 1 (.slice r a y) a (cellsBb B)::Rw m B 0::Bk gs 34 [.int .i64 0,.int .i64 0,.int .i64 0]::L) wx)
  case first =>
   by_cases f6:yd<yf
   ·have e3:(yd:Int)<(yf:Int):=by omega
    have W:d<f:=by omega
    have X:=hid (K6.out.pick 9 [0,5,6,1,2,7,8]);clear K6;go_wp2_with fail
    go_meet
    exact⟨p,yd,Q,O,B++DB,rfl,by rw [if_pos W]; exact a6.symm,by rw [if_pos W],X.out⟩
   ·have e3:¬ (yd:Int)<(yf:Int):=by omega
    have W:¬ d<f:=by omega
    have X:=hid (K6.out.pick 9 [0,3,4,1,2,7,8]);clear K6;go_wp2_with fail
    go_meet
    exact⟨o,yf,S,R,B++FB,rfl,by rw [if_neg W]; exact a5.symm,by rw [if_neg W],X.out⟩
  case rest =>
   obtain⟨gb,lb,bk,BA,BB,rfl,b5,c9,K7⟩:=hcut;clear K6;have f0:lb<=300000:=by rw [b5]; split <;> omega
   have a7:=hid b5;have d3:=hid c9;have K8:=hid K7;clear K7 b5 c9;go_upto_if 67 with (fail)
   go_cut [14] from 15 to 97 (fun s14 wx=>∃(gr:Nat) (s0:Nat),s14=.pointer (some ⟨gr,0,none⟩)/\s0=(if bn<=65535 then 3+PD.pad (a+3)+32+8 * bn else 0)/\Sp w0 (Bk U 34 [.int .i64 s0,.int .i64 f,.int .i64 d]::Rw gr (B++PD.partD Y b last a) 0::Bk gs 34 [.int .i64 0,.int .i64 0,.int .i64 0]::L) wx)
   case first =>
    have D:∀k,PD.kind Y b a=k->PD.partD Y b last a=PD.layD k Y b last a:=fun k hk=>by unfold PD.partD; rw [hk]
    by_cases Z:bn<=65535
    ·have e4:(bn:Int)<=65535:=by omega
     have j:=hid (WS m B 0 A bn bc b Y last (K8.out.pick 7 [5,0,1,2,3,4,6]) I.out (fun _ _ q=>HB.out _ _ (q.pick 6 [])) Z (by rw [z.out]; omega));obtain⟨XB,a8⟩:=exq (B++PD.layD 0 Y b last B.length);obtain⟨s0,E⟩:=exq (3+PD.pad (a+3)+32+8 * bn);obtain⟨xl,e5⟩:=exq (a+s0);have e6:XB.length=xl:=by rw [<- a8,List.length_append,PD.layD0_len,z.out,<- I.out,E,e5]
     have f1:PD.pad (a+3)<=7:=by unfold PD.pad; omega
     rw [a8] at j;have e7:=hid a8;have d4:=hid e6;clear K8 a8;go_wp2_with fail
     refine j.out.mono ?_;rintro _ w8 ⟨rfl,l⟩;clear j;obtain⟨XA,xc,K2,_,_,_,_,_,_,_⟩:=ZU l;rw [d4.out] at K2;clear l
     -- RwB m, Row m, Bk U, RwB gb, Row gb, RwB g, Row g, Bk gs
     have c1:w8.cell? ⟨m,0,none⟩=some (.slice XA xl xc):=K2.cell 0 rfl 0;have c2:w8.cell? ⟨g,0,none⟩=some (.slice r a y):=K2.cell 5 rfl 0;have c3:w8.cell? ⟨U,0,none⟩=some (.int .i64 0):=K2.cell 2 rfl 0;have z3:w8.frozen? ⟨U,0,none⟩=false:=K2.frozen 2 rfl 0;have y1:(xl:Int) - (a:Int)=(s0:Int):=by omega
     have f7:s0<=600000:=by omega
     have T:Hid (Sp w0 (Bk U 34 [.int .i64 s0,.int .i64 f,.int .i64 d]::RwB m (.slice XA xl xc) 0::Row 4 1 (.slice XA xl xc) xl (cellsBb XB)::RwB gb (.slice BA lb bk) 0::Row 4 1 (.slice BA lb bk) lb (cellsBb BB)::RwB g (.slice r a y) at_::Row 4 1 (.slice r a y) a (cellsBb B)::Bk gs 34 [.int .i64 0,.int .i64 0,.int .i64 0]::L) ((w8.setCell ⟨U,0,none⟩ (.int .i64 s0)).drew)):=hid ((K2.pick 3 [2,0,1]).set 0 (.int .i64 s0)).drew;clear K2;go_wp2_with fail
     go_still_tail 12,(by kernel_rfl)
     change wpList _ _ _ _ _ w8.drew;go_upto_region 13 with (fail)
     clear c1 c2 c3 z3 y1;replace T:=T.out;generalize World.setCell _ _ _=wa at T ⊢;generalize World.drew wa=w9 at T ⊢;have c1:w9.cell? ⟨m,0,none⟩=some (.slice XA xl xc):=T.cell 1 rfl 0;have c2:w9.cell? ⟨gb,0,none⟩=some (.slice BA lb bk):=T.cell 3 rfl 0;have K4:=hid T;clear T;have F:=PD.kind_small Y b a (by rw [<- I.out]; exact Z);rw [b2.out,b3.out,<- I.out,E] at F;have d5:=hid F;clear F;by_cases f8:xl<=lb
     ·have e8:(xl:Int)<=(lb:Int):=by omega
      have a0:PD.kind Y b a=0:=by
       rw [d5.out,if_pos];have:=a7.out;omega
      have hP:=D 0 a0;have HP:=hid hP;clear hP a0;go_quiet (fail)
      have X:=hid ((K4.out.drewN nq).pick 8 [1,2,0,7]);clear K4 c1 c2;generalize w9.drewN nq=wy at X ⊢;go_wp2_with fail
      go_meet
      refine⟨m,s0,rfl,by rw [if_pos Z,E],?_⟩;have h9:Sp w0 (Rw m XB 0::Bk U 34 [.int .i64 s0,.int .i64 f,.int .i64 d]::Bk gs 34 [.int .i64 0,.int .i64 0,.int .i64 0]::L) _:=ZM (v:=.slice XA xl xc) (by rw [d4.out]; exact X.out);rw [HP.out,show B++PD.layD 0 Y b last a=XB by rw [<- e7.out,z.out]];exact h9.swap
     ·have e8:¬ (xl:Int)<=(lb:Int):=by omega
      have a0:PD.kind Y b a=if d<f then 2 else 1:=by
       rw [d5.out,if_neg];have:=a7.out;omega
      have hP:=D _ a0;have HP:=hid hP;clear hP a0;go_quiet (fail)
      have X:=hid ((K4.out.drewN nq).pick 8 [3,4,0,7]);clear K4 c1 c2;generalize w9.drewN nq=wy at X ⊢;go_wp2_with fail
      go_meet
      refine⟨gb,s0,rfl,by rw [if_pos Z,E],?_⟩;exact XN X.out HP.out d3.out a7.out b9.out c4.out z.out c5.out c6.out a5 a6
    ·have e4:¬ (bn:Int)<=65535:=by omega
     have F:=PD.kind_big Y b a (by rw [<- I.out]; omega);rw [b2.out,b3.out] at F;have hP:=D _ F;have HP:=hid hP;clear hP F;have X:=hid (K8.out.pick 7 [1,2,0,6]);clear K8;go_wp2_with fail
     go_meet
     refine⟨gb,0,rfl,by rw [if_neg Z],?_⟩;exact XN X.out HP.out d3.out a7.out b9.out c4.out z.out c5.out c6.out a5 a6
   case rest =>
    obtain⟨gr,s0,rfl,E,K9⟩:=hcut;clear K8;have e9:=hid E;have c0:wc.cell? ⟨U,0,none⟩=some (.int .i64 s0):=K9.cell 0 rfl 0;have c1:wc.cell? ⟨U,1,none⟩=some (.int .i64 f):=K9.cell 0 rfl 1;have c2:wc.cell? ⟨U,2,none⟩=some (.int .i64 d):=K9.cell 0 rfl 2;have d0:wc.cell? ⟨gs,0,none⟩=some (.int .i64 0):=K9.cell 2 rfl 0;have d1:wc.cell? ⟨gs,1,none⟩=some (.int .i64 0):=K9.cell 2 rfl 1;have d2:wc.cell? ⟨gs,2,none⟩=some (.int .i64 0):=K9.cell 2 rfl 2;have z0:wc.frozen? ⟨gs,0,none⟩=false:=K9.frozen 2 rfl 0;have z1:wc.frozen? ⟨gs,1,none⟩=false:=K9.frozen 2 rfl 1;have z2:wc.frozen? ⟨gs,2,none⟩=false:=K9.frozen 2 rfl 2;have KZ:=hid ((((K9.pick 3 [2,1]).set 0 (.int .i64 s0)).set 1 (.int .i64 f)).set 2 (.int .i64 d)).drew;clear K9 E;go_wp2_with fail
    go_still_tail 3,(by kernel_rfl)
    change wpList _ _ _ _ _ wc.drew;go_wp2_with fail
    refine bodyPost_ret (WY rfl _ rfl (ZQ KZ.out 0 rfl) Tryz.isAgg34 Tryz.sizeOf34) rfl ?_;refine⟨gr,?_,?_⟩
    ·unfold PD.sizesD;rw [<- I.out,b2.out,b3.out,z.out,<- e9.out];rfl
    ·rw [z.out];exact KZ.out.tail
namespace PD
def defl (b:List UInt8):List UInt8:=stream (PM.Cut b 64) b
theorem defl_mays (b:List UInt8):PM.mays (PM.Cut b 64) 0:=PM.cut_mays b 64 0
theorem defl_exp (b:List UInt8):PM.expand (PM.Cut b 64) []=b:=PM.cut_back0 b 64
def deflN (b:List UInt8):Nat:=(bitsD (PM.Cut b 64) b).length
theorem defl_len (b:List UInt8):(defl b).length=(deflN b+7) / 8:=stream_len _ _
theorem defl_le (b:List UInt8) (h:b.length<=100000):(defl b).length<=1000000:=by
 have a:=stD_le (PM.Cut b 64) b (defl_mays b) (many (PM.Cut b 64));have c:(PM.Cut b 64).length<=b.length:=PM.cut_length b 64 0;have d:many (PM.Cut b 64)<=200:=by unfold many; omega
 rw [defl_len];unfold deflN bitsD;omega
end PD
theorem TC (BA:Option Addr) (n c:Nat) (b:List UInt8) {TL TF:Option Addr} {cl cf:Nat} (H:Sp w0 L w) (hT:Ent L (DTabs TL TF cl cf)) (hn:n=b.length) (hnm:n<=100000) (hc:n<=c) (hcm:c<=maxLen) (hb:Ent L fun w=>Byt w (.slice BA n c) b) :
  Calls Tryz.prog 31 #[.slice BA n c] w fun e w'=>∃v,e=.returned (.tuple #[v,.int .i64 0])/\Sp w0 (Row 5 1 v (PD.defl b).length (cells8 (PD.defl b))::L) w':=by
 have u:=hid hT;have x:=hid hn;have z:=hid hb;have G:¬ (n:Int) > 16777216:=by omega
 have a:=TT n 64 BA c b H hn hb (by omega);have i:cutL b 64=PM.Cut b 64:=by unfold cutL; rw [if_pos ⟨by decide,by decide⟩]; rfl
 rw [i] at a;have j:cutE 64=0:=rfl;rw [j] at a;have d:=PD.defl_mays b;have f:=PD.defl_exp b;have g:(PM.Cut b 64).length<=b.length:=PM.cut_length b 64 0;unfold PD.defl;obtain⟨Y,q⟩:=exq (PM.Cut b 64);rw [q] at a d f g ⊢;obtain⟨y,k⟩:=exq Y.length;rw [k] at a g;have l:y<=100000:=by omega
 have r:=hid a;have A:=hid d;have B:=hid f;have C:=hid k;clear hT hn hb a i j d f q k g H;go_enter Tryz.func31,Tryz.ntmps31
 go_wp2_with fail
 refine r.out.mono ?_;rintro _ I ⟨J,rfl,m⟩;obtain⟨V,D,rfl,o,p⟩:=Row.form m 0 rfl;have s:=hid (WX V BA y D n c Y b m (fun w0 w h=>u.out w0 w h.tail) C.out.symm l o p (fun w0 w h=>h.stAt 0 rfl) A.out B.out x.out (by omega) hc hcm (fun w0 w h=>z.out w0 w h.tail));clear r m;go_wp2_with fail
 refine s.out.mono ?_;rintro _ K ⟨E,rfl,t⟩;have F:=t.pick 2 [0];clear s t;go_wp2;go_ret2;exact⟨E,rfl,F⟩
namespace PD
theorem dynN_eq (Y:List PM.St):dynN Y=17+3 * (PI.orderT.take (told (fst7 Y))).length+costW (fst7 Y) [] ((rowY Y).map rwd)+costW (lenA Y) (lenB Y) (words Y):=by
 unfold PD.dynN PD.dynW PI.headW;rw [<- PD.layW_len,<- PD.layW_len,PD.lay_words,PD.lay_row];generalize PD.told (PD.fst7 Y)=m;generalize PD.lenA Y=A;generalize PD.lenB Y=D;generalize PD.fst7 Y=F;generalize PD.rowY Y=R;simp only [List.length_append,PBits.bitsOf_length,PD.firstsW_len,List.length_take];omega
theorem dynC_le (A D F:List Nat) (R:List (Nat × Nat)) (W:List PD.Wd) (k:Nat) (hA:∀x ∈ A,x<=15) (hD:∀x ∈ D,x<=15) (hF:∀x ∈ F,x<=7) (hr:PI.TellsOk F [] R) (hW:∀t ∈ W,PD.WdOk A D t) (hR:R.length<=316) (hw:W.length<=2 * k+1):costW F [] (R.map rwd)+costW A D W<=28 * 316+28+56 * k:=by
 have b:=ZP hA hD W hW
 have a:=ZP (A:=F) (D:=[]) (fun x hx=>Nat.le_trans (hF x hx) (by decide)) (by simp) (R.map rwd) (fun t ht=>by
  obtain⟨q,c,rfl⟩:=List.mem_map.1 ht;obtain⟨d,e⟩:=PD.tells_each R [] hr q c;exact⟨by show 0<2; decide,d,e,PD.tellB_13 _⟩)
 rw [layW_len] at b a;rw [List.length_map] at a;omega
theorem dynN_le (Y:List PM.St) (n:Nat) (hY:PM.mays Y n):dynN Y<=20000+56 * Y.length:=by
 obtain⟨k,l,o,c,d⟩:=PD.lenA_ok Y;obtain⟨p,q,r,e,f⟩:=PD.lenB_ok Y;obtain⟨s,t,g,u⟩:=PD.fst7_ok Y;have h:=(PD.row_ok Y);have a:=PD.rowY_len Y;have b:=PD.words_len Y;have i:=PD.words_ok hY d f;rw [dynN_eq,List.length_take];have j:PI.orderT.length=19:=rfl;rw [j];generalize PD.told (PD.fst7 Y)=m;generalize PD.lenA Y=A at *;generalize PD.lenB Y=D at *;generalize PD.fst7 Y=F at *;generalize PD.rowY Y=R at *;generalize PD.words Y=W at *;have v:=dynC_le A D F R W Y.length c e g h.2 i a b;omega
end PD
end Go.Proofs.YteajimobgkempaaGreatDoor

