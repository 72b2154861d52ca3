/- A pack. -/
import Derived.Test.YteajimobgkempaaDoorPk40
set_option linter.all false
set_option maxRecDepth 100000
set_option maxHeartbeats 8000000
namespace Go.Proofs.YteajimobgkempaaDoor
variable {w0 w:World} {L:List Pr}
open Go.RowKit
theorem PI.sgsW_len (m d:List Nat) (hm:∀x ∈ m,x<=15) (hd:∀x ∈ d,x<=15) (l:List PI.Sg) (hk:PI.SgOk l):∀k,k<=l.length->(PI.sgsW m d l k).length<=28 * k:=by
 intro k;induction k with
 | zero=>intro _; exact Nat.zero_le _
 | succ k ih =>
  intro h;have b:=ih (by omega);have c:=(hk k (by omega)).2.1;have a:∀q:List Nat,(∀x ∈ q,x<=15)->∀s,q.getD s 0<=15:=fun q hq s=>by
   rw [List.getD_eq_getElem?_getD];rcases Nat.lt_or_ge s q.length with h | h
   ·rw [List.getElem?_eq_getElem h]; exact hq _ (List.getElem_mem h)
   ·rw [List.getElem?_eq_none h]; exact Nat.zero_le _
  show(PI.sgsW m d l k++PI.sgW m d (l.getD k (0,0,0)) (PI.farAt l k)).length<=_;rw [List.length_append];have e:(PI.sgW m d (l.getD k (0,0,0)) (PI.farAt l k)).length<=28:=by
   unfold PI.sgW PI.sayW;rw [List.length_append,PI.codeW_len,PBits.bitsOf_length];split
   ·have:=a d hd (l.getD k (0,0,0)).1; omega
   ·have:=a m hm (l.getD k (0,0,0)).1; omega
  omega
theorem Xz (gp n c nm ca nd cb:Nat) (AR VA VB:Option Addr) (m d:List Nat) (l:List PI.Sg) (l1:List Bool) (H:Sp w0 (Pen gp l1::L) w) (hn:n=l.length) (hnd:nd=d.length) (hnm:nm=m.length) (hsg:PI.SgOk l) (hl:l1.length<=50000000) (hnb:n<=100000)
  (hdl:30<=nd) (hml:286<=nm) (hdu:nd<=1024) (hmu:nm<=1024) (hd15:∀x ∈ d,x<=15) (hm15:∀x ∈ m,x<=15) (hds:PH.sum d<=32768) (hms:PH.sum m<=32768)
  (hr:Ent L fun w=>Rd w AR (cellsS l)) (hvb:Ent L fun w=>Rd w VB (cellsN d)) (hva:Ent L fun w=>Rd w VA (cellsN m)) :
  Calls Tryd.prog 21 #[.pointer (some ⟨gp,0,none⟩),.slice AR n c,.slice VA nm ca,.slice VB nd cb] w fun e w'=>e=.returned (.tuple #[])/\Sp w0 (Pen gp (l1++PI.sgsW m d l n)::L) w':=by
 have q:=(((H.newBk [.pointer (some ⟨gp,0,none⟩)] 42).newBk [.slice AR n c] 48).newBk [.slice VA nm ca] 51).newBk [.slice VB nd cb] 51;have S:(w.alloc (.cells #[.pointer (some ⟨gp,0,none⟩)] 42)).heap.size=w.heap.size+1:=Array.size_push _;have T:((w.alloc (.cells #[.pointer (some ⟨gp,0,none⟩)] 42)).alloc (.cells #[.slice AR n c] 48)).heap.size=w.heap.size+1+1:=(Array.size_push _).trans (by rw [S]);have s3:(((w.alloc (.cells #[.pointer (some ⟨gp,0,none⟩)] 42)).alloc (.cells #[.slice AR n c] 48)).alloc (.cells #[.slice VA nm ca] 51)).heap.size=w.heap.size+1+1+1:=(Array.size_push _).trans (by rw [T]);rw [s3,T,S] at q;clear S T s3;have HR:=hid hr;have y:=hid hnd;have z:=hid hnm;have o:=hid hd15;have p:=hid hm15;have B:=hid hds;have C:=hid hms;have D:=hid hvb;have E:=hid hva;have s:=hid hsg;have U:=hid hn;have F:Hid (∀g4 g5 g6 g7,Ent (Bk g7 51 [.slice VB nd cb]::Bk g6 51 [.slice VA nm ca]::Bk g5 48 [.slice AR n c]::Bk g4 42 [.pointer (some ⟨gp,0,none⟩)]::Pen gp l1::L) fun w=>Rd w VB (cellsN d)):=hid fun g4 g5 g6 g7 w0 w h=>hvb w0 w (h.pick 5 []);have G:Hid (∀g4 g5 g6 g7,Ent (Bk g7 51 [.slice VB nd cb]::Bk g6 51 [.slice VA nm ca]::Bk g5 48 [.slice AR n c]::Bk g4 42 [.pointer (some ⟨gp,0,none⟩)]::Pen gp l1::L) fun w=>Rd w VA (cellsN m)):=hid fun g4 g5 g6 g7 w0 w h=>hva w0 w (h.pick 5 []);clear hr hvb hva hnd hnm hd15 hm15 hds hms hsg hn;go_enter Tryd.func21,Tryd.ntmps21
 go_wp2_with fail
 generalize w.heap.size+1+1+1=g7 at q ⊢;generalize w.heap.size+1+1=g6 at q ⊢;generalize w.heap.size+1=g5 at q ⊢;generalize w.heap.size=g4 at q ⊢;generalize World.alloc _ _=w4 at q ⊢;have I:=hid (F.out g4 g5 g6 g7);have J:=hid (G.out g4 g5 g6 g7);clear G F;have HX:=hid q;clear q H;refine Z7 (L:=(Bk g7 51 [.slice VB nd cb]::Bk g6 51 [.slice VA nm ca]::Bk g5 48 [.slice AR n c]::Bk g4 42 [.pointer (some ⟨gp,0,none⟩)]::Pen gp l1::L)) (fun ix ux vx=>([(fun _=>(·=.slice VA nm ca)),(fun _=>fun _=>True),(fun _=>(·=.slice VB nd cb)),(fun _=>fun _=>True),(fun _=>fun u=>u=.pointer (some ⟨ptB u,0,none⟩)),(fun _=>fun u=>u=.pointer (some ⟨ptB u,0,none⟩)),(fun _=>(·=undef)),(fun _=>(·=undef))]:List (Value->Value->Prop)).getD ix (fun _ _=>True) ux vx)
  (fun ix ux vx=>([fun _ _=>[],fun _ u=>[Row 47 1 u nm (rowU (PH.codeAt m) nm)],fun _ _=>[],fun _ u=>[Row 47 1 u nd (rowU (PH.codeAt d) nd)],fun _ u=>[Bk (ptB u) 88 [.slice none 0 0]],fun _ u=>[Bk (ptB u) 88 [.slice none 0 0]],fun ux _=>[Ex fun u=>Star (Bk (ptB ux) 88 [u]) (Row 47 1 u nm (rowU (PH.codeAt m) nm))],fun ux _=>[Ex fun u=>Star (Bk (ptB ux) 88 [u]) (Row 47 1 u nd (rowU (PH.codeAt d) nd))]]:List (Value->Value->List Pr)).getD ix (fun _ _=>[]) ux vx) (fun ix=>([[],[],[],[],[],[],[],[]]:List (List Pr)).getD ix []) 8 18
  [some 11,some 12,some 13,some 14,some 8,some 9,none,none]
  [[],[0],[],[2,1],[],[],[4,1,3,0,1,4,5],[5,3,6,0,1,2,3,4,5,6]]
  [[],[0],[],[0,1,2],[],[],[0,1,2,3,4,5],[0,1,2,3,4,5,6]]
  [[],[],[],[],[],[],[4,1],[5,3]]
  [[],[],[],[],[],[],[],[]]
  [none,none,none,none,none,none,some 4,some 5] (by decide) [(6,.pointer (some ⟨g6,0,none⟩)),(7,.pointer (some ⟨g7,0,none⟩))]
  (by kernel_rfl) rfl (by decide) (by rfl) rfl (by decide +kernel) (by decide +kernel) (by rfl) rfl rfl (by decide) (by simp) (by rfl) (HX.out) ?hstep ?hend
 case hstep =>
  refine⟨?_,⟨?_,⟨?_,⟨?_,⟨?_,⟨?_,⟨?_,⟨?_,trivial⟩⟩⟩⟩⟩⟩⟩⟩
  ·intro x wx A b g f j H K a;have e6:A.tmps[6]?.getD undef=.pointer (some ⟨g6,0,none⟩):=g (6,_) (by simp);have i:=hid a;clear a g f;have V:=j (fun w=>w.cell? ⟨g6,0,none⟩=some (.slice VA nm ca)) (fun w0 w h=>h.cell 1 rfl 0) _ _ H;refine so ?_;go_step;exact i.out _ _ rfl H
  ·intro x wx A b g f j H K a;have a2:=tq f 0;have i:Hid (∀(v:Value) (w' : World),(fun _=>True) v->Sp w0 ((Row 47 1 v nm (rowU (PH.codeAt m) nm))::b) w'->K (A.put (some 12) v) w'):=hid a;clear a g f;refine so ?_;go_wp2_with fail
   refine(Z1 VA nm ca m H z.out (j _ J.out) (by omega) p.out C.out).mono ?_;rintro _ w9 ⟨v9,rfl,M⟩;exact i.out _ _ trivial M
  ·intro x wx A b g f j H K a;have e7:A.tmps[7]?.getD undef=.pointer (some ⟨g7,0,none⟩):=g (7,_) (by simp);have i:=hid a;clear a g f;have V:=j (fun w=>w.cell? ⟨g7,0,none⟩=some (.slice VB nd cb)) (fun w0 w h=>h.cell 0 rfl 0) _ _ H;refine so ?_;go_step;exact i.out _ _ rfl H
  ·intro x wx A b g f j H K a;have a3:=tq f 2;have i:Hid (∀(v:Value) (w' : World),(fun _=>True) v->Sp w0 ((Row 47 1 v nd (rowU (PH.codeAt d) nd))::b) w'->K (A.put (some 14) v) w'):=hid a;clear a g f;refine so ?_;go_wp2_with fail
   refine(Z1 VB nd cb d H y.out (j _ I.out) (by omega) o.out B.out).mono ?_;rintro _ w9 ⟨v9,rfl,M⟩;exact i.out _ _ trivial M
  ·intro x wx A b g f j H K a;have i:=hid a;clear a g f j;refine so ?_;go_step;exact i.out _ _ rfl (H.newBk _ _)
  ·intro x wx A b g f j H K a;have i:=hid a;clear a g f j;refine so ?_;go_step;exact i.out _ _ rfl (H.newBk _ _)
  ·intro x wx A b g f j H K a;have q8:=(f 4 (by decide)).1;have N:=(f 4 (by decide)).2 8 rfl;have a4:=(f 1 (by decide)).1;have W:=(f 1 (by decide)).2 12 rfl;replace H:Sp w0 ((Bk (ptB (x 4)) 88 [.slice none 0 0])::(Row 47 1 (x 1) nm (rowU (PH.codeAt m) nm))::b) wx:=H;have i:Hid (∀(v:Value) (w' : World),v=undef->Sp w0 ((Ex fun u=>Star (Bk (ptB (x 4)) 88 [u]) (Row 47 1 u nm (rowU (PH.codeAt m) nm)))::b) w'->K (A.put none v) w'):=hid a;clear a g f j;obtain⟨r,Y⟩:=exq (ptB (x 4));rw [q8] at N;rw [Y] at H i N;have c0:wx.cell? ⟨r,0,none⟩=some (.slice none 0 0):=H.cell 0 rfl 0;have z0:wx.frozen? ⟨r,0,none⟩=false:=H.frozen 0 rfl 0;obtain⟨x9,t⟩:=exq (x 1);rw [t] at W H;obtain⟨Z,c9,rfl,_,_⟩:=Row.form H 1 rfl;refine so ?_;go_step;exact i.out _ _ rfl (Sp.ex _ (Sp.star (H.set 0 (.slice Z nm c9))))
  ·intro x wx A b g f j H K a;have q9:=(f 5 (by decide)).1;have O:=(f 5 (by decide)).2 9 rfl;have a5:=(f 3 (by decide)).1;have a0:=(f 3 (by decide)).2 14 rfl;replace H:Sp w0 ((Bk (ptB (x 5)) 88 [.slice none 0 0])::(Row 47 1 (x 3) nd (rowU (PH.codeAt d) nd))::b) wx:=H;have i:Hid (∀(v:Value) (w' : World),v=undef->Sp w0 ((Ex fun u=>Star (Bk (ptB (x 5)) 88 [u]) (Row 47 1 u nd (rowU (PH.codeAt d) nd)))::b) w'->K (A.put none v) w'):=hid a;clear a g f j;obtain⟨r,Y⟩:=exq (ptB (x 5));rw [q9] at O;rw [Y] at H i O;have c0:wx.cell? ⟨r,0,none⟩=some (.slice none 0 0):=H.cell 0 rfl 0;have z0:wx.frozen? ⟨r,0,none⟩=false:=H.frozen 0 rfl 0;obtain⟨x9,t⟩:=exq (x 3);rw [t] at a0 H;obtain⟨Z,c9,rfl,_,_⟩:=Row.form H 1 rfl;refine so ?_;go_step;exact i.out _ _ rfl (Sp.ex _ (Sp.star (H.set 0 (.slice Z nd c9))))
 case hend =>
  intro x wx A hA f H;replace H:Sp w0 ((Ex fun u=>Star (Bk (ptB (x 4)) 88 [u]) (Row 47 1 u nm (rowU (PH.codeAt m) nm)))::(Ex fun u=>Star (Bk (ptB (x 5)) 88 [u]) (Row 47 1 u nd (rowU (PH.codeAt d) nd)))::(Bk g7 51 [.slice VB nd cb]::Bk g6 51 [.slice VA nm ca]::Bk g5 48 [.slice AR n c]::Bk g4 42 [.pointer (some ⟨gp,0,none⟩)]::Pen gp l1::L)) wx:=H;have y4:(x 4)=.pointer (some ⟨ptB (x 4),0,none⟩):=f 4 (by decide);have y5:(x 5)=.pointer (some ⟨ptB (x 5),0,none⟩):=f 5 (by decide);clear f;simp only [putAll,Act.put,List.setIfInBounds_toArray,List.set_cons_succ,List.set_cons_zero,Nat.reduceAdd] at hA;subst hA;obtain⟨g8,N⟩:=exq (ptB (x 4));obtain⟨r,O⟩:=exq (ptB (x 5));rw [N] at y4 H;rw [O] at y5 H;rw [y4,y5];clear y4 y5 N O HX;obtain⟨vc,H⟩:=H.unex;replace H:=(H.unstar.pick 3 [2,0,1]);obtain⟨vd,H⟩:=H.unex;replace H:=H.unstar;obtain⟨VC,cc,rfl,_,_⟩:=Row.form H 3 rfl;obtain⟨VD,cd,rfl,_,_⟩:=Row.form H 1 rfl;have H5:=H.newBk [.int .i64 0] 3;have R:=H5.pick 10 [7,0,8,1,5,3,6,9,4,2];have c5:(wx.alloc (.cells [.int .i64 0].toArray 3)).cell? ⟨g5,0,none⟩=some (.slice AR n c):=R.cell 0 rfl 0;obtain⟨P,Q⟩:=exq wx.heap.size;rw [Q] at R;have HY:=hid R;have a6:∀(fn:Fn) (first cap:Array Value) (w:World),(Instr.makeFunc fn first cap).run Tryd.prog w=.ok (.func fn first cap) w:=fun _ _ _ _=>rfl;clear H H5 R;go_wp2_with fail
  refine(Wt (w0:=w0) AR n c l _ _ _ _ _ _ _ (fun k:Nat=>Bk g5 48 [.slice AR n c]::Bk P 3 [.int .i64 k]::Bk g4 42 [.pointer (some ⟨gp,0,none⟩)]::Bk r 88 [.slice VD nd cd]::Bk g7 51 [.slice VB nd cb]::Bk g8 88 [.slice VC nm cc]::Bk g6 51 [.slice VA nm ca]::Pen gp (l1++PI.sgsW m d l k)::Row 47 1 (.slice VC nm cc) nm (rowU (PH.codeAt m) nm)::Row 47 1 (.slice VD nd cd) nd (rowU (PH.codeAt d) nd)::L) ?_ U.out (by omega) s.out ?_ ?_).mono ?_
  ·have h:=HY.out;rw [show l1=l1++PI.sgsW m d l 0 by show l1=l1++[]; rw [List.append_nil]] at h;exact h
  ·exact fun k hk w0 w h=>HR.out w0 w (h.pick 10 [])
  ·intro k X w hk Hk;have a1:=PI.sgsW_len m d p.out o.out l s.out k (by rw [<- U.out]; omega)
   have h9:=Vr g5 P g4 r g7 g8 g6 gp k n c nd cd cb nm cc ca AR VD VB VC VA m d l (PI.farAt l k) (l1++PI.sgsW m d l k) Hk U.out y.out z.out hk rfl s.out (by rw [List.length_append]; omega) (by omega) hdl hml o.out p.out B.out C.out
    (fun w0 w h=>HR.out w0 w (h.pick 2 [])) (fun w0 w h=>row_ent 1 rfl w0 w h) (fun w0 w h=>D.out w0 w (h.pick 2 [])) (fun w0 w h=>row_ent 0 rfl w0 w h) (fun w0 w h=>E.out w0 w (h.pick 2 []))
   rw [List.append_assoc] at h9;exact h9
  ·rintro _ w9 ⟨rfl,M⟩;go_wp2_with fail
   go_end0;exact⟨rfl,M.pick 10 [7]⟩
namespace PI
theorem cps_len:∀(l:List (Nat × Nat)) (out:List UInt8),(cps l out).length<=l.length:=by
 intro l;induction l with
 | nil=>intro out; exact Nat.le_refl _
 | cons c l ih =>
  intro out;unfold cps;split
  ·exact Nat.zero_le _
  ·have:=ih (copy (1+c.2 % min out.length 32768) (3+c.1 % 256) out);simp only [List.length_cons];omega
theorem toks_count (x:WPart) (out:List UInt8):(toks x out).length<=86:=by
 unfold toks lits;rw [List.length_append,List.length_map,List.length_take];have:=cps_len (x.copies.take 6) (out++x.bytes.take 80);rw [List.length_take] at this;omega
theorem toksO_most:∀(l:List Tok) (out:List UInt8),Good out l->(toksO out l).length<=out.length+258 * l.length:=by
 intro l;induction l with
 | nil=>intro out _; exact Nat.le_refl _
 | cons t l ih =>
  intro out h;cases t with
  | lit c =>
   have:=ih (out++[c]) h;show(toksO (out++[c]) l).length<=_;rw [List.length_append,List.length_singleton] at this;rw [List.length_cons];omega
  | cpy n b =>
   obtain⟨⟨d,e,_⟩,a⟩:=h;have:=ih (copy b n out) a;show(toksO (copy b n out) l).length<=_;rw [copy_len] at this;rw [List.length_cons];omega
theorem sgs_count (x:WPart) (out:List UInt8):(sgs (toks x out)).length<=173:=by
 have a:=sgs_len (toks x out);have b:=toks_count x out;omega
theorem toksW_len (m d:List Nat) (hm:∀x ∈ m,x<=15) (hd:∀x ∈ d,x<=15) (x:WPart) (out:List UInt8):(toksW m d (toks x out)).length<=4844:=by
 rw [<- sgsW_toks];have a:=sgsW_len m d hm hd (sgs (toks x out)) (sgOk_toks _ _ (good_toks x out)) _ (Nat.le_refl _);have b:=sgs_count x out;omega
theorem firstsW_len (FF l:List Nat):(firstsW FF l).length=3 * l.length:=by
 unfold firstsW;induction l with
 | nil=>rfl
 | cons x l ih=>rw [List.flatMap_cons,List.length_append,ih,PBits.bitsOf_length,List.length_cons]; omega
theorem tellsW_len (FF:List Nat) (h:∀x ∈ FF,x<=7) (l:List (Nat × Nat)):(tellsW FF l).length<=14 * l.length:=by
 unfold tellsW;induction l with
 | nil=>exact Nat.le_refl _
 | cons x l ih =>
  rw [List.flatMap_cons,List.length_append,List.length_cons];have a:(tellW FF x).length<=14:=by
   unfold tellW sayW;rw [List.length_append,codeW_len,PBits.bitsOf_length];have b:=tellB_le x.1;have c:FF.getD x.1 0<=7:=by
    rw [List.getD_eq_getElem?_getD];rcases Nat.lt_or_ge x.1 FF.length with h9 | h9
    ·rw [List.getElem?_eq_getElem h9]; exact h _ (List.getElem_mem h9)
    ·rw [List.getElem?_eq_none h9]; exact Nat.zero_le _
   omega
  omega
theorem headsW_len (a b:List Nat) (ha:a.length=286) (hb:b.length=30) (ha15:∀x ∈ a,x<=15) (hb15:∀x ∈ b,x<=15):(headsW a b).length<=4495:=by
 have c:∀x ∈ a++b,x<=15:=fun x hx=>by
  rcases List.mem_append.1 hx with h | h
  ·exact ha15 x h
  ·exact hb15 x h
 have d:(a++b).length=316:=by rw [List.length_append,ha,hb]
 have f:(rowsOf a b).length<=316:=by
  have h:=tellsO_len [] (rowsOf a b);unfold rowsOf at h ⊢;rw [rle_out _ (a++b) [] (Nat.le_refl _) c,List.nil_append,d] at h;rw [d];simp only [List.length_nil] at h;omega
 obtain⟨g,i,e,j,k⟩:=lens_fits 19 7 ((rowsOf a b).map Prod.fst) (by decide) (by decide) (by decide) (by decide);have l:=tellsW_len (firstOf (rowsOf a b)) e (rowsOf a b);unfold headsW headW;simp only [List.length_append,PBits.bitsOf_length,firstsW_len,List.length_take];have:orderT.length=19:=rfl;omega
theorem lensA_ok (ts:List Tok):book (lensA ts)=true/\(lensA ts).length=286/\∀x ∈ lensA ts,x<=15:=by
 obtain⟨a,b,c,d,e⟩:=lens_fits 286 15 (symsOf ts) (by decide) (by decide) (by decide) (by decide);exact⟨a,b,c⟩
theorem lensB_ok (ts:List Tok):book (lensB ts)=true/\(lensB ts).length=30/\∀x ∈ lensB ts,x<=15:=by
 obtain⟨a,b,c,d,e⟩:=lens_fits 30 15 (farsOf ts) (by decide) (by decide) (by decide) (by decide);exact⟨a,b,c⟩
theorem fixedL_15:∀x ∈ fixedL,x<=15:=by decide +kernel
theorem fixedD_15:∀x ∈ fixedD,x<=15:=by decide +kernel
theorem bodyW_len (x:WPart) (n:Nat) (out:List UInt8):(bodyW x n out).length<=9400:=by
 unfold bodyW;split
 ·rw [List.length_append,List.length_replicate];unfold storedW;rw [List.length_append,List.length_append,PBits.bitsOf_length,PBits.bitsOf_length,PBits.ofB_length,List.length_take];omega
 split
 ·have:=toksW_len fixedL fixedD fixedL_15 fixedD_15 x out;omega
 ·obtain⟨e,c,a⟩:=lensA_ok (toks x out);obtain⟨f,d,b⟩:=lensB_ok (toks x out);have g:=headsW_len _ _ c d a b;have h:=toksW_len _ _ a b x out;rw [List.length_append];omega
theorem partO_most (x:WPart) (out:List UInt8):(partO x out).length<=out.length+22188:=by
 unfold partO;split
 ·rw [List.length_append,List.length_take]; omega
 ·have a:=toksO_most _ _ (good_toks x out);have b:=toks_count x out;omega
theorem stW_most (l:List WPart):∀i,(stW l i).1.length<=9403 * i/\(stW l i).2.length<=22188 * i:=by
 intro i;induction i with
 | zero=>exact⟨Nat.le_refl _,Nat.le_refl _⟩
 | succ i ih =>
  rw [stW];simp only;have a:=bodyW_len (l.getD i ⟨0,[],[]⟩) ((stW l i).1.length+3) (stW l i).2;have b:=partO_most (l.getD i ⟨0,[],[]⟩) (stW l i).2;unfold partW;rw [List.length_append,List.length_append,List.length_append,PBits.bitsOf_length,List.length_singleton];omega
end PI
end Go.Proofs.YteajimobgkempaaDoor

