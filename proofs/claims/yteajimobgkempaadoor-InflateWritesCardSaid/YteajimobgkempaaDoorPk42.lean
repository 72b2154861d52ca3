/- A pack. -/
import Derived.Test.YteajimobgkempaaDoorPk41
set_option linter.all false
set_option maxRecDepth 100000
set_option maxHeartbeats 8000000
namespace Go.Proofs.YteajimobgkempaaDoor
variable {w0 w:World} {L:List Pr}
open Go.RowKit
def WrMid (w0:World) (L:List Pr) (lw:List PI.WPart) (s0:Value) (wx:World):Prop :=
 ∃(A:Option Addr) (n c:Nat) (ps:List PartV) (X:Pr),s0=.slice A n c/\n=ps.length/\0<n/\n<=c/\PI.partsW lw=(ps.map PartV.p).take 5/\Sp w0 (X::L) wx/\Ent (X::L) (fun w=>Rd w A (ps.flatMap PartV.cells)/\∀x ∈ ps,x.Ok w)
theorem rdPart {w:World} {A:Option Addr} {ps:List PartV} (h:Rd w A (ps.flatMap PartV.cells)) {i:Nat} (hi:i<ps.length):∃ad,A=some ad/\∀j v,((ps.getD i default).cells)[j]?=some v->w.cell? ((ad.add (i * 3)).add j)=some v:=by
 obtain⟨ad,e,b⟩:=h (fun h0=>by
  have:=congrArg List.length h0;rw [ZC PartV.cells 3 (fun _=>rfl)] at this;simp at this;omega)
 refine⟨ad,e,fun j v hj=>?_⟩;have a:j<3:=(List.getElem?_eq_some_iff.1 hj).1;obtain⟨p,c,d⟩:=ZQ PartV.cells 3 (fun _=>rfl) ps i j a hi;have f:p=ps.getD i default:=by rw [List.getD_eq_getElem?_getD,c]; rfl
 rw [Go.Addr.add_add];refine b _ _ ?_;rw [d,f];exact hj
def penAt (g:Nat) (w:World):Nat:=match w.cell? ⟨g,1,none⟩ with
 | some (.int _ n)=>n.toNat
 | _=>0
theorem XA {g:Nat} {l:List Bool} (H:Sp w0 (Pen g l::L) w):penAt g w=l.length/\w.cell? ⟨g,1,none⟩=some (.int .i64 l.length):=by
 obtain⟨v,H⟩:=Z9 H;have c:w.cell? ⟨g,1,none⟩=some (.int .i64 l.length):=H.cell 0 rfl 1;exact⟨by unfold penAt; rw [c]; rfl,c⟩
theorem Vs {g:Nat} (H:Sp w0 (Bk g 44 [.slice none 0 0,.int .i64 0]::L) w):Sp w0 (Pen g []::L) w :=
 Ya (v:=.slice none 0 0) ((H.rowNil 5 1).swap)
theorem PI.kcount (l:List PI.Sg):∀k,(PI.farK l k).length<=k/\(PI.symK l k).length<=k:=by
 intro k;induction k with
 | zero=>exact⟨Nat.le_refl _,Nat.le_refl _⟩
 | succ k ih =>
  unfold PI.farK PI.symK;rw [List.length_append,List.length_append];constructor
  ·split <;> simp <;> omega
  ·split <;> simp <;> omega
theorem PI.cnts_le (n:Nat) (l:List Nat):∀x ∈ PI.cnts n l,x<=l.length:=fun x hx=>by
 obtain⟨q,a,rfl⟩:=List.mem_map.1 hx;exact List.count_le_length
theorem PI.cnts_nil (n:Nat):List.replicate n (Value.int .i64 0)=cellsN (PI.cnts n []):=by
 refine List.ext_getElem (by simp [cellsN,PI.cnts]) fun j h1 h2=>?_;simp [cellsN,PI.cnts]
theorem Wx (g13 g14 k n:Nat) (va vb:Value) (l:List PI.Sg) {X:Pr} (H:Sp w0 (X::Bk g14 51 [vb]::Bk g13 51 [va]::Row 3 1 vb 30 (cellsN (PI.cnts 30 (PI.farK l k)))::Row 3 1 va 286 (cellsN (PI.cnts 286 (PI.symK l k)))::L) w) (hk:k<l.length) (hl:l.length<=1000) (hs:PI.SgOk l) :
  Calls Tryd.prog 18 #[.int .i64 ((l.getD k (0,0,0)).1:Int),.bool (PI.farAt l k),.pointer (some ⟨g14,0,none⟩),.pointer (some ⟨g13,0,none⟩)] w fun e w'=>e=.returned (.tuple #[]) /\
   Sp w0 (X::Bk g14 51 [vb]::Bk g13 51 [va]::Row 3 1 vb 30 (cellsN (PI.cnts 30 (PI.farK l (k+1))))::Row 3 1 va 286 (cellsN (PI.cnts 286 (PI.symK l (k+1))))::L) w':=by
 have a:=(hs k hk).1;have f:=PI.kcount l k;have b:=Vq g13 g14 (l.getD k (0,0,0)).1 va vb _ _ (PI.farAt l k) H (PI.cnts_len _ _) (PI.cnts_len _ _) a (fun x hx=>by have:=PI.cnts_le _ _ x hx; omega) (fun x hx=>by have:=PI.cnts_le _ _ x hx; omega);have c:(if PI.farAt l k then (PI.cnts 30 (PI.farK l k)).set (l.getD k (0,0,0)).1 ((PI.cnts 30 (PI.farK l k)).getD (l.getD k (0,0,0)).1 0+1) else PI.cnts 30 (PI.farK l k))=PI.cnts 30 (PI.farK l (k+1)):=by
  show _=PI.cnts 30 (PI.farK l k++if PI.farAt l k then [(l.getD k (0,0,0)).1] else []);cases hf:PI.farAt l k with
  | true=>rw [if_pos rfl,if_pos rfl,PI.cnts_snoc 30 _ _ (a.2 hf)]
  | false=>rw [if_neg (by decide),if_neg (by decide),List.append_nil]
 have d:(if PI.farAt l k then PI.cnts 286 (PI.symK l k) else (PI.cnts 286 (PI.symK l k)).set (l.getD k (0,0,0)).1 ((PI.cnts 286 (PI.symK l k)).getD (l.getD k (0,0,0)).1 0+1))=PI.cnts 286 (PI.symK l (k+1)):=by
  show _=PI.cnts 286 (PI.symK l k++if PI.farAt l k then [] else [(l.getD k (0,0,0)).1]);cases hf:PI.farAt l k with
  | true=>rw [if_pos rfl,if_pos rfl,List.append_nil]
  | false=>rw [if_neg (by decide),if_neg (by decide),PI.cnts_snoc 286 _ _ (a.1 hf)]
 rw [c,d] at b;exact b
theorem Xh (A:Option Addr) (n c:Nat) (ps:List PartV) (H:Sp w0 L w) (hn:n=ps.length) (hc:n<=c) (hcm:c<=maxLen) (hrd:Ent L fun w=>Rd w A (ps.flatMap PartV.cells)/\∀x ∈ ps,x.Ok w) :
  Calls Tryd.prog 5 #[.slice A n c] w fun e w'=>∃v1 v2,e=.returned (.tuple #[v1,v2]) /\
   Sp w0 (Row 5 1 v1 (PI.packB (PI.bitsW (ps.map PartV.p))).length (cells8 (PI.packB (PI.bitsW (ps.map PartV.p))))::Row 5 1 v2 (PI.outW (ps.map PartV.p)).length (cells8 (PI.outW (ps.map PartV.p)))::L) w':=by
 obtain⟨i0,hi,k2,k3,k4⟩:=info_parts infoJ;obtain⟨i8,hj,q0,q1,q2⟩:=info_parts info8;obtain⟨lw,i6⟩:=exq (ps.map PartV.p);rw [i6];have i7:=hid i6;have b7:=hid hrd;have HN:=hid hn;have k5:c<=9223372036854775807:=hcm;clear hrd i6 hn hcm;go_enter Tryd.func5,Tryd.ntmps5
 go_upto_if 17 with (fail)
 go_cut [0] from 18 to 144 (fun s0 wx=>WrMid w0 L lw s0 wx)
 case first =>
  by_cases h0:n=0
  ·subst h0;have H1:=H.newBk [.int .u8 0,.slice none 0 0,.slice none 0 0] 41;have HX:=hid H1;clear H1 H;go_wp2_with fail
   go_meet
   refine⟨_,1,1,[⟨⟨0,[],[]⟩,.slice none 0 0,.slice none 0 0⟩],Bk w.heap.size 41 [.int .u8 0,.slice none 0 0,.slice none 0 0],rfl,rfl,by omega,by omega,?_,HX.out,?_⟩
   ·have:lw=[]:=by
     rw [<- i7.out,List.eq_nil_of_length_eq_zero HN.out.symm]; rfl
    rw [this]; rfl
   ·intro w0 w h;refine⟨Rd.of_blk (h.blk 0 rfl),fun x hx=>?_⟩;rw [List.mem_singleton.1 hx];exact⟨by decide,Byt.nil _,⟨none,0,rfl,Rd.nil,Nat.le_refl _,by simp [maxLen]⟩,fun c hc=>by cases hc⟩
  ·have k1:((n:Int) == 0)=false:=by rw [beq_eq_false_iff_ne]; omega
   have HX:=hid (H.rowNil 5 1);clear H;go_wp2_with fail
   go_meet
   refine⟨A,n,c,ps,Row 5 1 (.slice none 0 0) 0 [],rfl,HN.out,by omega,hc,?_,HX.out,fun w0 w h=>b7.out w0 w h.tail⟩;rw [<- i7.out];unfold PI.partsW;rw [if_neg (by rw [List.length_map,<- HN.out]; exact h0)]
 case rest =>
  clear i7 b7 HN H hc k5;unfold WrMid at hcut;obtain⟨A,n,c,ps,X,rfl,hn,u9,hc,F,H,hrd⟩:=hcut;obtain⟨S,d9⟩:=exq ((ps.map PartV.p).take 5);rw [d9] at F;obtain⟨nk,q3⟩:=exq (min n 5);have a8:S.length=nk:=by rw [<- d9,List.length_take,List.length_map,<- hn]; omega
  have W:∀i,i<nk->S.getD i ⟨0,[],[]⟩=(ps.getD i default).p:=fun i hi=>by
   rw [<- d9,List.getD_eq_getElem?_getD,List.getD_eq_getElem?_getD,List.getElem?_take_of_lt (by omega),List.getElem?_map,List.getElem?_eq_getElem (by omega)]; rfl
  have hb:PI.bitsW lw=(PI.stW S nk).1:=by unfold PI.bitsW; rw [F,a8]
  have ho:PI.outW lw=(PI.stW S nk).2:=by unfold PI.outW; rw [F,a8]
  have HB:=hid hb;have HO:=hid ho;have k6:=hid W;have k8:=hid a8;have b7:=hid hrd;have q4:=hid hn;have y1:min (n:Int) 5=(nk:Int):=by omega
  have k9:nk<=5/\0<nk/\nk<=n/\nk<=c:=by omega
  have t2:nk<=c:=k9.2.2.2;have v0:(nk:Int)<=(c:Int):=by omega
  clear d9 a8 W hb ho hrd hn q3 F;go_wp2_with fail
  have H2:=Vs (H.newBk [.slice none 0 0,.int .i64 0] 44);obtain⟨m,l0⟩:=exq wc.heap.size;rw [l0] at H2 ⊢;have HX:=hid ((H2.rowNil 5 1).pick 3 [1,0,2]);clear l0 H H2;generalize World.alloc _ _=w1 at HX ⊢;go_loopw [5,29] (fun ov iv wr=>∃i:Nat,iv=.int .i64 i/\i<=nk/\Sp w0 (Pen m (PI.stW S i).1::Row 5 1 ov (PI.stW S i).2.length (cells8 (PI.stW S i).2)::X::L) wr) (fun _ iv _=>nk - (intOf iv).toNat)
  case atStart=>exact⟨0,rfl,Nat.zero_le _,HX.out⟩
  case round =>
   obtain⟨i,rfl,t3,H3⟩:=hrel;clear HX;by_cases q5:i<nk
   ·have k1:(i:Int)<(nk:Int):=by omega
    have e0:i<ps.length:=by rw [<- q4.out]; omega
    obtain⟨ax,rfl,hrd⟩:=rdPart (b7.out _ _ (H3.pick 2 [])).1 e0;have e3:Ent (X::L) fun w=>(ps.getD i default).Ok w:=fun w0 w h=>(b7.out w0 w h).2 _ (by rw [List.getD_eq_getElem?_getD,List.getElem?_eq_getElem e0]; exact List.getElem_mem e0);have c1:=k6.out i q5;obtain⟨x,hx⟩:=exq (ps.getD i default);rw [hx] at hrd e3 c1;obtain⟨kb,⟨D,bc,l1,l2,l3,v3⟩,⟨Q,R,l4,l5,c3,hcm⟩,q6⟩:=e3 _ _ (H3.pick 2 []);obtain⟨⟨d,o,Y⟩,bv,cv⟩:=x;simp only at kb l1 l3 l4 c3 c1 l2 l5;subst l1 l4;have l6:=PI.stW_most S i;obtain⟨B,hB⟩:=exq ((PI.stW S i).1);obtain⟨O,hO⟩:=exq ((PI.stW S i).2);obtain⟨lb,i9⟩:=exq (decide (i+1=nk));have l7:(PI.stW S (i+1)).1=B++PI.partW ⟨d,o,Y⟩ lb B.length O:=by rw [PI.stW,c1,k8.out,i9,hB,hO]
    have l8:(PI.stW S (i+1)).2=PI.partO ⟨d,o,Y⟩ O:=by rw [PI.stW,c1,hO]
    rw [hB,hO] at H3 l6;have q7:=hid l7;have j0:=hid l8;have l9:=hid i9;have m0:=hid e3;have j1:=hid hrd;have v6:B.length<=50000:=by omega
    have v7:O.length<=120000:=by omega
    have m1:=H3.newBk [.int .u8 0,.slice none 0 0,.slice none 0 0] 41;have m2:=hid m1;obtain⟨bn,j2⟩:=exq o.length;obtain⟨cn,j3⟩:=exq Y.length;have t4:bn<=bc:=by omega
    have g3:Hid ((⟨⟨d,o,Y⟩,.slice D o.length bc,.slice Q Y.length R⟩:PartV).cells=[.int .u8 d,.slice D bn bc,.slice Q cn R]):=by rw [j2,j3]; exact hid rfl
    rw [g3.out] at j1;have m3:=hid j2;have v8:=hid j3;clear hrd e3 c1 hx hB hO l7 l8 i9 m1 l6 H3 e0 l2 l5 q6 l3 c3 j2 j3;go_wp2_with (first | (refine Zf rfl 41 _ rfl (ax.add (i * 3)) [.int .u8 d,.slice D bn bc,.slice Q cn R] rfl j1.out Tryd.isAgg41 Tryd.sizeOf41 ?_) | (refine Za rfl 41 _ _ rfl wr.heap.size 41 [.int .u8 0,.slice none 0 0,.slice none 0 0] [.int .u8 d,.slice D bn bc,.slice Q cn R] rfl rfl m2.out rfl Tryd.sizeOf41 (by intro u hu; simp only [List.mem_cons,List.mem_nil_iff,or_false] at hu; rcases hu with rfl | rfl | rfl <;> rfl) ?_))
    intro w8 H8;generalize wr.heap.size=g7 at H8 ⊢;clear m2 j1;go_wp2_with fail
    refine(Zj m 0 1 B (H8.pick 2 [1,0]) (by omega) (by omega)).mono ?_;rintro _ w9 ⟨rfl,H9⟩;obtain⟨nk1,g5⟩:=exq (nk - 1);have y3:(nk:Int) - 1=(nk1:Int):=by omega
    have g6:=hid g5;clear H8 g5;go_upto_if 40 with (fail)
    go_cut [] from 41 to 138 (fun wx=>Sp w0 (Pen m (B++[lb])::Bk g7 41 [.int .u8 d,.slice D bn bc,.slice Q cn R]::Row 5 1 u5 O.length (cells8 O)::X::L) wx)
    case first =>
     by_cases he:i+1=nk
     ·have kx:((i:Int) == (nk1:Int))=true:=by
       have:i=nk1:=by have:=g6.out; omega
       rw [this]; simp
      have j4:lb=true:=by rw [<- l9.out]; simpa using he
      obtain⟨v9,p⟩:=Z9 H9;obtain⟨VA,vc,rfl,q8,w2⟩:=Row.form p 1 rfl;have m4:B++PBits.bitsOf 0 1=B++[false]:=rfl;obtain⟨N,f⟩:=exq B.length;obtain⟨M,hM⟩:=exq (N+1);obtain⟨q,hq⟩:=exq (N / 8);obtain⟨r,hr⟩:=exq (N % 8);obtain⟨tp,e5⟩:=exq (PI.topB B);obtain⟨pw,F⟩:∃pw:Nat,2 ^ r=pw:=⟨_,rfl⟩;have c4:(PI.packB (B++[false])).length=q+1:=by rw [PI.packB_len,List.length_append,List.length_singleton]; omega
      have g8:(PI.packB (B++[true])).length=q+1:=by rw [PI.packB_len,List.length_append,List.length_singleton]; omega
      have g9:(B++[false]).length=M:=by rw [List.length_append,List.length_singleton]; omega
      have h1:(B++[true]).length=M:=by rw [List.length_append,List.length_singleton]; omega
      rw [m4] at p;unfold PenB PenR at p;rw [c4,g9] at p;obtain⟨e6,a9⟩:=exq (cells8 (PI.packB (B++[false])));rw [a9] at p;have m5:tp<pw:=by
       have:=PI.topB_lt B;rw [e5,f,hr,F] at this;exact this
      have w3:pw<=128:=by
       have:=PI.pow8_le B.length;rw [f,hr,F] at this;exact this
      have W:e6[q]?=some (.int .u8 tp):=by
       rw [<- a9,Zw _ _ (by rw [c4]; omega),PI.pack_one,<- hq,<- f,PI.room_get,e5,UInt8.toNat_ofNat',Nat.mod_eq_of_lt (by omega)]
      have b0:e6.set q (.int .u8 ((tp+pw:Nat):Int))=cells8 (PI.packB (B++[true])):=by
       rw [<- a9,<- PI.last_set B,e5,f,hr,F,hq];simp only [cells8,List.map_set];have:(UInt8.ofNat (tp+pw)).toNat=tp+pw:=by rw [UInt8.toNat_ofNat']; omega
       rw [this]
      have m6:bits .or .u8 (tp:Int) (pw:Int)=((tp+pw:Nat):Int):=by
       have:=Vy r (by omega) tp (by rw [F]; exact m5) 1 (by omega);rw [F,Nat.one_mul] at this;exact this
      have h2:(2:Int) ^ r=(pw:Int):=by rw [<- F]; simp
      have z0:(M:Int) - 1=(N:Int):=by omega
      have z1:(N:Int) / 8=(q:Int):=by omega
      have z2:(N:Int) % 8=(r:Int):=by omega
      have w4:r<8:=by omega
      have w6:q<=N:=by omega
      have kq:(q:Int)<(q:Int)+1:=by omega
      have w7:N<=50000:=by omega
      obtain⟨ad,rfl⟩:∃ad,VA=some ad:=by
       obtain⟨ad,c9,e9,_⟩:=Sp.rowSet (p.pick 2 [1,0]) (i:=q) (by omega);injection e9 with e9
       exact⟨ad,e9⟩
      have m7:=hid W;have m8:=hid b0;have q9:=hid m6;have r0:=hid h2;have r1:=hid g8;have r3:=hid h1;have HX:=hid (p.pick 2 [1,0]);clear W b0 m6 h2 c4 g8 g9 h1 p H9 a9 m4 f hq hr F e5 he hM q8;go_wp2_with fail
      refine Zg (L:=(Bk g7 41 [.int .u8 d,.slice D bn bc,.slice Q cn R]::Row 5 1 u5 O.length (cells8 O)::X::L)) (fun ix vx=>([(·=.pointer (some ⟨m,0,none⟩)),(·=.pointer (some ⟨m,0,none⟩)),(·=.pointer (some ⟨m,0,none⟩)),(·=.slice (some ad) (q+1) vc),(·=.pointer (some ⟨m,0,none⟩)),(·=.pointer (some ⟨m,0,none⟩)),(·=.pointer (some ⟨m,1,none⟩)),(·=.int .i64 M),(·=.int .i64 N),(·=.int .i64 q),(·=.pointer (some (ad.add q))),(·=.int .u8 tp),(·=.pointer (some ⟨m,0,none⟩)),(·=.pointer (some ⟨m,0,none⟩)),(·=.pointer (some ⟨m,1,none⟩)),(·=.int .i64 M),(·=.int .i64 N),(·=.int .i64 r),(·=.int .u8 pw),(·=.int .u8 ((tp+pw:Nat):Int)),(·=.pointer (some (ad.add q))),(·=undef)]:List (Value->Prop)).getD ix (fun _=>True) vx)
       (fun ix vx=>([fun _=>[],fun _=>[],fun _=>[],fun _=>[],fun _=>[],fun _=>[],fun _=>[],fun _=>[],fun _=>[],fun _=>[],fun _=>[],fun _=>[],fun _=>[],fun _=>[],fun _=>[],fun _=>[],fun _=>[],fun _=>[],fun _=>[],fun _=>[],fun _=>[],fun _=>[Row 5 1 (.slice (some ad) (q+1) vc) (q+1) (e6.set q (.int .u8 ((tp+pw:Nat):Int))),Bk m 44 [.slice (some ad) (q+1) vc,.int .i64 M]]]:List (Value->List Pr)).getD ix (fun _=>[]) vx) (fun ix=>([[],[],[],[],[],[],[],[],[],[],[],[],[],[],[],[],[],[],[],[],[],[Row 5 1 (.slice (some ad) (q+1) vc) (q+1) e6,Bk m 44 [.slice (some ad) (q+1) vc,.int .i64 M]]]:List (List Pr)).getD ix []) 22 145
       [some 41,some 42,some 43,some 44,some 45,some 46,some 47,some 48,some 49,some 50,some 51,some 52,some 53,some 54,some 55,some 56,some 57,some 58,some 59,some 60,some 61,none]
       [[],[0],[1],[2],[],[4],[5],[6],[7],[8],[3,9],[10],[],[12],[13],[14],[15],[16],[17],[11,18],[3,9,0,1,2,3,4,5,6,7,8,9,10,11,12,13,14,15,16,17,18,19],[20,19,0,1,2,3,4,5,6,7,8,9,10,11,12,13,14,15,16,17,18,19]]
       [[],[0],[0,1],[0,1,2],[],[4],[4,5],[4,5,6],[4,5,6,7],[4,5,6,7,8],[0,1,2,3,4,5,6,7,8,9],[0,1,2,3,4,5,6,7,8,9,10],[],[12],[12,13],[12,13,14],[12,13,14,15],[12,13,14,15,16],[12,13,14,15,16,17],[0,1,2,3,4,5,6,7,8,9,10,11,12,13,14,15,16,17,18],[0,1,2,3,4,5,6,7,8,9,10,11,12,13,14,15,16,17,18,19],[0,1,2,3,4,5,6,7,8,9,10,11,12,13,14,15,16,17,18,19,20]]
       [[],[],[],[],[],[],[],[],[],[],[],[],[],[],[],[],[],[],[],[],[],[]]
       [[],[],[],[21],[],[],[],[21],[],[],[],[21],[],[],[],[21],[],[],[],[],[],[]]
       [(4,.pointer (some ⟨m,0,none⟩))]
       (by kernel_rfl) rfl (by decide) (by rfl) rfl (by decide +kernel) (by decide +kernel) (by rfl) rfl rfl (by decide) (by simp) (by rfl) (HX.out) ?hstep ?hend
      case hstep =>
       refine⟨?_,⟨?_,⟨?_,⟨?_,⟨?_,⟨?_,⟨?_,⟨?_,⟨?_,⟨?_,⟨?_,⟨?_,⟨?_,⟨?_,⟨?_,⟨?_,⟨?_,⟨?_,⟨?_,⟨?_,⟨?_,⟨?_,trivial⟩⟩⟩⟩⟩⟩⟩⟩⟩⟩⟩⟩⟩⟩⟩⟩⟩⟩⟩⟩⟩⟩
       ·intro x wx A rest f b g H K a;have e4:A.tmps[4]?.getD undef=.pointer (some ⟨m,0,none⟩):=f (4,_) (by simp);have l:=hid a;clear a f b g;refine so ?_;go_step;exact l.out _ _ rfl H
       ·intro x wx A rest f b g H K a;have x0:=tq b 0;have l:=hid a;clear a f b g;refine so ?_;go_step;exact l.out _ _ rfl H
       ·intro x wx A rest f b g H K a;have x1:=tq b 1;have l:=hid a;clear a f b g;refine so ?_;go_step;exact l.out _ _ rfl H
       ·intro x wx A rest f b g H K a;have x2:=tq b 2;replace H:Sp w0 (_::_::rest) wx:=H;have l:=hid a;clear a f b g;have c:wx.cell? ⟨m,0,none⟩=some (.slice (some ad) (q+1) vc):=H.cell 1 rfl 0;refine so ?_;go_step;exact l.out _ _ rfl H
       ·intro x wx A rest f b g H K a;have e4:A.tmps[4]?.getD undef=.pointer (some ⟨m,0,none⟩):=f (4,_) (by simp);have l:=hid a;clear a f b g;refine so ?_;go_step;exact l.out _ _ rfl H
       ·intro x wx A rest f b g H K a;have x3:=tq b 4;have l:=hid a;clear a f b g;refine so ?_;go_step;exact l.out _ _ rfl H
       ·intro x wx A rest f b g H K a;have x4:=tq b 5;have l:=hid a;clear a f b g;refine so ?_;go_step;exact l.out _ _ rfl H
       ·intro x wx A rest f b g H K a;have x5:=tq b 6;replace H:Sp w0 (_::_::rest) wx:=H;have l:=hid a;clear a f b g;have c:wx.cell? ⟨m,1,none⟩=some (.int .i64 M):=H.cell 1 rfl 1;refine so ?_;go_step;exact l.out _ _ rfl H
       ·intro x wx A rest f b g H K a;have x6:=tq b 7;have l:=hid a;clear a f b g;refine so ?_;go_step;exact l.out _ _ rfl H
       ·intro x wx A rest f b g H K a;have x7:=tq b 8;have l:=hid a;clear a f b g;refine so ?_;go_step;exact l.out _ _ rfl H
       ·intro x wx A rest f b g H K a;have r4:=tq b 3;have r5:=tq b 9;have l:=hid a;clear a f b g;refine so ?_;go_step;exact l.out _ _ rfl H
       ·intro x wx A rest f b g H K a;have x8:=tq b 10;replace H:Sp w0 (_::_::rest) wx:=H;have l:=hid a;clear a f b g;obtain⟨r6,c9,e9,_,a4,_,_⟩:=Sp.rowSet H (i:=q) (by omega);injection e9 with e9
        injection e9 with e9
        subst e9;rw [m7.out] at a4;refine so ?_;go_step;exact l.out _ _ rfl H
       ·intro x wx A rest f b g H K a;have e4:A.tmps[4]?.getD undef=.pointer (some ⟨m,0,none⟩):=f (4,_) (by simp);have l:=hid a;clear a f b g;refine so ?_;go_step;exact l.out _ _ rfl H
       ·intro x wx A rest f b g H K a;have y0:=tq b 12;have l:=hid a;clear a f b g;refine so ?_;go_step;exact l.out _ _ rfl H
       ·intro x wx A rest f b g H K a;have y2:=tq b 13;have l:=hid a;clear a f b g;refine so ?_;go_step;exact l.out _ _ rfl H
       ·intro x wx A rest f b g H K a;have y4:=tq b 14;replace H:Sp w0 (_::_::rest) wx:=H;have l:=hid a;clear a f b g;have c:wx.cell? ⟨m,1,none⟩=some (.int .i64 M):=H.cell 1 rfl 1;refine so ?_;go_step;exact l.out _ _ rfl H
       ·intro x wx A rest f b g H K a;have y5:=tq b 15;have l:=hid a;clear a f b g;refine so ?_;go_step;exact l.out _ _ rfl H
       ·intro x wx A rest f b g H K a;have y8:=tq b 16;have l:Hid (∀(v:Value) (w' : World),v=.int .i64 r->Sp w0 (rest) w'->K (A.put (some 58) v) w'):=hid a;clear a f b g;refine so ?_;go_step;exact l.out _ _ (by rw [z2]) H
       ·intro x wx A rest f b g H K a;have y9:=tq b 17;have l:=hid a;clear a f b g;have hw:IntKind.u8.wrap (pw:Int)=(pw:Int):=by rw [IntKind.wrap_u8']; omega
        have e:=r0.out;refine so ?_;go_step;exact l.out _ _ rfl H
       ·intro x wx A rest f b g H K a;have z3:=tq b 11;have z6:=tq b 18;have l:Hid (∀(v:Value) (w' : World),v=.int .u8 ((tp+pw:Nat):Int)->Sp w0 (rest) w'->K (A.put (some 60) v) w'):=hid a;clear a f b g;refine so ?_;go_step;exact l.out _ _ (by rw [q9.out]) H
       ·intro x wx A rest f b g H K a;have r4:=tq b 3;have r5:=tq b 9;have l:=hid a;clear a f b g;refine so ?_;go_step;exact l.out _ _ rfl H
       ·intro x wx A rest f b g H K a;have z7:=tq b 20;have z8:=tq b 19;replace H:Sp w0 (_::_::rest) wx:=H;have l:=hid a;clear a f b g;obtain⟨r6,c9,e9,_,a4,t5,b0⟩:=Sp.rowSet H (i:=q) (by omega);injection e9 with e9
        injection e9 with e9
        subst e9;rw [m7.out] at a4;refine so ?_;go_step;exact l.out _ _ rfl (b0 (.int .u8 ((tp+pw:Nat):Int)))
      case hend =>
       intro x wx A hA b H;replace H:Sp w0 (_::_::(Bk g7 41 [.int .u8 d,.slice D bn bc,.slice Q cn R]::Row 5 1 u5 O.length (cells8 O)::X::L)) wx:=H;clear b;simp only [putAll,Act.put,List.setIfInBounds_toArray,List.set_cons_succ,List.set_cons_zero,Nat.reduceAdd] at hA;subst hA;have HY:=hid H;clear H HX;go_wp2_with fail
       go_meet
       rw [j4];have h8:=HY.out;rw [m8.out] at h8;have h9:=h8.swap;refine Ya (v:=.slice (some ad) (q+1) vc) ?_;unfold PenB PenR;rw [r3.out,r1.out];exact h9
     ·have kx:((i:Int) == (nk1:Int))=false:=by rw [beq_eq_false_iff_ne]; have:=g6.out; omega
      have j4:lb=false:=by rw [<- l9.out]; simpa using he
      have p:Sp w0 (Pen m (B++[lb])::Bk g7 41 [.int .u8 d,.slice D bn bc,.slice Q cn R]::Row 5 1 u5 O.length (cells8 O)::X::L) w9:=by rw [j4]; exact H9
      clear he;go_wp2_with fail
      go_meet
      exact p
    case rest =>
     clear H9;obtain⟨kd,m9⟩:=exq (d % 3);have z4:(d:Int) % 3=(kd:Int):=by omega
     have t6:kd<3:=by omega
     have T:=hid m9;have r7:wc.cell? ⟨g7,0,none⟩=some (.int .u8 d):=hcut.cell 1 rfl 0;have a5:=Zj m kd 2 _ hcut (by omega) (by rw [List.length_append,List.length_singleton]; omega);have c6:=hid a5;clear a5 m9;go_wp2_with fail
     refine c6.out.mono ?_;rintro _ wd ⟨rfl,p⟩;obtain⟨E,e7⟩:=exq (B++[lb]++PBits.bitsOf kd 2);have n0:E.length=B.length+3:=by rw [<- e7,List.length_append,List.length_append,List.length_singleton,PBits.bitsOf_length]
     rw [e7] at p;have r8:=hid e7;have c7:Hid ((PI.stW S (i+1)).1=E++PI.bodyW ⟨d,o,Y⟩ E.length O):=hid (by
      rw [q7.out,<- r8.out]; unfold PI.partW;rw [show(d % 3:Nat)=kd from T.out,List.length_append,List.length_append,List.length_singleton,PBits.bitsOf_length,List.append_assoc,List.append_assoc,List.append_assoc])
     clear c6 hcut r7 e7;by_cases r9:kd=0
     ·subst r9;have c8:wd.cell? ⟨g7,1,none⟩=some (.slice D bn bc):=p.cell 1 rfl 1;obtain⟨b8,n1⟩:=exq (min bn 80);have y6:min (bn:Int) 80=(b8:Int):=by omega
      have t7:b8<=bc:=by omega
      have y7:(b8:Int)<=(bc:Int):=by omega
      have t8:b8<=80/\b8<=bn:=by omega
      have s1:=hid n1;clear n1;obtain⟨pad,h3⟩:=exq ((E.length+7) / 8 * 8 - E.length);obtain⟨N3,n2⟩:=exq E.length;have e8:=hid n2;have a6:pad<=7/\(N3+pad) % 8=0/\∀j,j<pad->(N3+j) % 8≠0:=⟨by omega,by omega,fun j hj=>by omega⟩;have h4:=hid a6;have t9:N3<=50003:=by omega
      have d0:Hid (PI.bodyW ⟨d,o,Y⟩ E.length O=List.replicate pad true++PI.storedW (o.take 80)):=hid (by
       unfold PI.bodyW;rw [if_pos (show(d % 3:Nat)=0 from T.out),h3])
      have d1:Hid (PI.partO ⟨d,o,Y⟩ O=O++o.take 80):=hid (by
       unfold PI.partO;rw [if_pos (show(d % 3:Nat)=0 from T.out)])
      have p9:=a6.1;clear h3 n2 a6 n0;have h6:Hid (Sp w0 (Pen m (E++List.replicate 0 true)::Bk g7 41 [.int .u8 d,.slice D bn bc,.slice Q cn R]::Row 5 1 u5 O.length (cells8 O)::X::L) wd):=hid (by rw [List.replicate_zero,List.append_nil]; exact p);clear p;go_wp2_with fail
      go_loopw [] (fun wr=>∃j:Nat,j<=pad/\Sp w0 (Pen m (E++List.replicate j true)::Bk g7 41 [.int .u8 d,.slice D bn bc,.slice Q cn R]::Row 5 1 u5 O.length (cells8 O)::X::L) wr) (fun wr=>N3+pad - penAt m wr)
      case atStart=>exact⟨0,Nat.zero_le _,h6.out⟩
      case round =>
       obtain⟨j,z9,d2⟩:=hrel;clear h6;obtain⟨f0,j5⟩:=XA d2;have d3:(E++List.replicate j true).length=N3+j:=by rw [List.length_append,List.length_replicate,e8.out]
       obtain⟨Nj,b5⟩:=exq (N3+j);obtain⟨r,hr⟩:=exq (Nj % 8);rw [d3,b5] at j5 f0;have z5:(Nj:Int) % 8=(r:Int):=by omega
       have s2:=hid f0;have s3:=hid b5;have A0:=hid hr;by_cases n3:j<pad
       ·have f3:r≠0:=by
         have:=h4.out.2.2 j n3;rw [<- hr,<- b5]; exact this
        have kx:((r:Int) != 0)=true:=by simpa using f3
        have n4:¬ (r:Int)=0:=by omega
        have G:=Xf m 1 _ d2 (by decide) (by rw [d3]; omega);rw [List.append_assoc,show List.replicate j true++[(1 % 2 == 1:Bool)]=List.replicate (j+1) true by rw [List.replicate_succ']; rfl] at G;have Z:=hid G;clear G d2 d3 b5 hr f0;go_wp2_with fail
        refine Z.out.mono ?_;rintro _ we ⟨rfl,z⟩;clear Z j5;go_wp2_with fail
        go_roundw
        case rel=>exact⟨j+1,by omega,z⟩
        case measure =>
         have h5:=(XA z).1;rw [List.length_append,List.length_replicate,e8.out] at h5;rw [h5,s2.out,<- s3.out];omega
       ·obtain rfl:j=pad:=by omega
        have f3:r=0:=by
         have:=h4.out.2.1;rw [<- hr,<- b5]; exact this
        have kx:((r:Int) != 0)=false:=by simpa using f3
        have n4:(r:Int)=0:=by omega
        have n5:=Zj m b8 16 _ d2 (by omega) (by rw [d3]; omega);have n6:=hid n5;clear n5 d3 b5 hr f0 d2 f3;go_wp2_with fail
        refine n6.out.mono ?_;rintro _ we ⟨rfl,z⟩;obtain⟨b9,j6⟩:=exq (65535 - b8);have n7:=ZH b8 (by omega);rw [j6] at n7;have s4:=hid j6;clear n6 j6 j5 kx n4 z5;go_wp2_with fail
        refine(Zj m b9 16 _ z (by omega) (by rw [List.length_append,List.length_append,List.length_replicate,PBits.bitsOf_length,e8.out]; omega)).mono ?_;rintro _ wf ⟨rfl,C⟩;obtain⟨B5,f4⟩:=exq (E++List.replicate j true++PBits.bitsOf b8 16++PBits.bitsOf b9 16);have u0:B5.length=N3+j+32:=by rw [<- f4,List.length_append,List.length_append,List.length_append,List.length_replicate,PBits.bitsOf_length,PBits.bitsOf_length,e8.out]
        rw [f4] at C;have s5:=hid f4;have h7:Hid (Sp w0 (Pen m (B5++PBits.ofB ((o.take 80).take 0))::Bk g7 41 [.int .u8 d,.slice D bn bc,.slice Q cn R]::Row 5 1 u5 O.length (cells8 O)::X::L) wf):=hid (by
         rw [List.take_zero,show PBits.ofB []=[] from rfl,List.append_nil]; exact C)
        clear f4 z C n7;go_wp2_with fail
        go_loopw [11,97] (fun _ jv wr=>∃t:Nat,jv=.int .i64 t/\t<=b8/\Sp w0 (Pen m (B5++PBits.ofB ((o.take 80).take t))::Bk g7 41 [.int .u8 d,.slice D bn bc,.slice Q cn R]::Row 5 1 u5 O.length (cells8 O)::X::L) wr) (fun _ jv _=>b8 - (intOf jv).toNat)
        case atStart=>exact⟨0,rfl,Nat.zero_le _,h7.out⟩
        case round =>
         obtain⟨t,rfl,m5,y⟩:=hrel;clear h7;obtain⟨_,⟨B2,c2,e2,r2,_⟩,_⟩:=m0.out _ _ (y.pick 3 []);injection e2 with e2 en ec
         clear en ec;subst e2;have I:(o.take 80).length=b8:=by rw [List.length_take,m3.out,<- s1.out]; omega
         by_cases n8:t<b8
         ·have k7:(t:Int)<(b8:Int):=by omega
          have f5:t<o.length:=by rw [m3.out]; omega
          obtain⟨ab,rfl,n9⟩:=r2 (fun h0=>by
           have:=congrArg List.length h0;simp [cells8] at this;rw [this] at f5; simp at f5)
          have d4:=n9 t _ (Zw o t f5);obtain⟨cu,j7⟩:∃cu:UInt8,o.getD t 0=cu:=⟨_,rfl⟩;rw [j7] at d4;have o0:(o.take 80).take (t+1)=(o.take 80).take t++[cu]:=by
           rw [Zq (o.take 80) t 0 (by rw [I]; exact n8)];congr 2;rw [<- j7,List.getD_eq_getElem?_getD,List.getD_eq_getElem?_getD,List.getElem?_take_of_lt (by omega)]
          have o1:PBits.ofB ((o.take 80).take (t+1))=PBits.ofB ((o.take 80).take t)++PBits.bitsOf cu.toNat 8:=by
           rw [o0,PI.PBits.ofB_append];congr 1
          have a5:=Zj m cu.toNat 8 _ y (by omega) (by rw [List.length_append,PBits.ofB_length,List.length_take]; omega);rw [List.append_assoc,<- o1] at a5;have hu:=cu.toNat_lt;obtain⟨cq,o2⟩:=exq cu.toNat;rw [o2] at a5 d4 hu;have c6:=hid a5;clear a5 o1 o0 o2 j7 n9 r2 y f5;go_wp2_with fail
          refine c6.out.mono ?_;rintro _ wg ⟨rfl,f6⟩;clear c6;go_wp2_with fail
          go_roundw
          case rel=>exact⟨t+1,by go_num,by omega,f6⟩
          case measure=>first | (simp [intOf]; omega) | simp [intOf]
         ·have k7:¬ (t:Int)<(b8:Int):=by omega
          obtain rfl:t=b8:=by omega
          rw [List.take_of_length_le (by rw [I]; exact Nat.le_refl _)] at y;have i1:Rd wr D (cells8 (o.take 80)):=by
           have:=r2.part 0 80;rw [List.drop_zero] at this;have e:(cells8 o).take 80=cells8 (o.take 80):=by simp [cells8,List.map_take]
           rw [e] at this;cases D with
           | none=>intro s6; obtain⟨ad,h,_⟩:=this s6; cases h
           | some q=>simpa [add0] using this
          have o3:=hid i1;have c3:(cells8 (o.take 80)).length=t:=by unfold cells8; rw [List.length_map,I]
          have s7:=hid c3;have i2:=hid (y.pick 3 [2,0,1]);have o4:=hid I;obtain⟨VO,A1,rfl,_,_⟩:=Row.form y 2 rfl;clear r2 y i1 c3 I;go_wp2_with (at_builtin; refine wpList_append_sp rfl _ _ 25 rfl 5 i8 (.int .u8 0) 1 1 Tryd.underlying25 hj q0 q1 q2 rfl (by decide) _ O.length (cells8 O) rfl i2.out D t bc (cells8 (o.take 80)) rfl (by rw [s7.out,Nat.mul_one]) o3.out (Zr _) (by unfold maxLen; omega) (by omega) ?_)
          intro v5 w5 f6 _;have o5:=hid f6;clear i2 o3 f6;go_wp2_with fail
          go_roundw
          case rel =>
           refine⟨i+1,by go_num,by omega,?_⟩;have h:=o5.out;have e1:(PI.stW S (i+1)).1=B5++PBits.ofB (o.take 80):=by
            rw [c7.out,d0.out,<- s5.out];unfold PI.storedW;rw [o4.out,s4.out];simp only [List.append_assoc]
           have e2:(PI.stW S (i+1)).2=O++o.take 80:=by rw [j0.out,d1.out]
           rw [e1,e2,List.length_append,o4.out,show cells8 (O++o.take 80)=cells8 O++cells8 (o.take 80) by simp [cells8]];exact h.pick 4 [1,0,3]
          case measure=>first | (simp [intOf]; omega) | simp [intOf]
     ·have A2:((kd:Int) == 0)=false:=by rw [beq_eq_false_iff_ne]; omega
      have u1 : ¬ (kd:Int)=0:=by omega
      have j8:=Wv ⟨⟨d,o,Y⟩,.slice D o.length bc,.slice Q Y.length R⟩ O u5 (p.pick 3 [2,0,1]) (fun w0 w h=>m0.out w0 w (h.pick 2 [])) (by omega);rw [g3.out] at j8;have o6:=hid j8;have o7:=hid (p.blk 1 rfl);clear j8 p;go_wp2_with (refine Zk rfl 41 _ rfl g7 41 [.int .u8 d,.slice D bn bc,.slice Q cn R] rfl o7.out Tryd.isAgg41 Tryd.sizeOf41 ?_)
      refine o6.out.mono ?_;rintro _ we ⟨v1,v2,rfl,z⟩;obtain⟨ts,U⟩:=exq (PI.toks ⟨d,o,Y⟩ O);have i3:=PI.sgs_count ⟨d,o,Y⟩ O;have d5:=PI.sgOk_toks _ _ (PI.good_toks ⟨d,o,Y⟩ O);rw [U] at i3 d5;simp only [U] at z;obtain⟨VS,J,rfl,_,_⟩:=Row.form z 0 rfl;obtain⟨P,j9⟩:=exq ((PI.sgs ts).length);rw [j9] at z i3 ⊢;have f7:=hid U;have b4:=hid d5;have V:=hid j9;clear o6 o7 U d5 j9;by_cases s8:kd=1
      ·subst s8;go_wp2_with fail
       refine(Y3 z).mono ?_;rintro _ wf ⟨f1,f2,rfl,C⟩;obtain⟨F1,a0,rfl,_,_⟩:=Row.form C 0 rfl;obtain⟨F2,b6,rfl,_,_⟩:=Row.form C 1 rfl;have es:(wf.alloc (.cells #[.slice F1 288 a0] 51)).heap.size=wf.heap.size+1:=Array.size_push _;have y:=(C.newBk [.slice F1 288 a0] 51).newBk [.slice F2 32 b6] 51;rw [es] at y;have s:=hid y;clear z C y es;go_wp2_with fail
       generalize wf.heap.size+1=g14 at s ⊢;generalize wf.heap.size=g13 at s ⊢;generalize (wf.alloc _).alloc _=wg at s ⊢
       have G:=Xz m P J 288 a0 32 b6 VS F1 F2 PI.fixedL PI.fixedD (PI.sgs ts) E (s.out.pick 7 [6,0,1,2,3,4,5]) V.out.symm fixed_len.2.symm fixed_len.1.symm b4.out (by omega) (by omega) (by omega) (by omega) (by omega) (by omega) PI.fixedD_15 PI.fixedL_15 PI.fixed_sumD PI.fixed_sum
        (fun w0 w h=>row3 h 4 rfl) (fun w0 w h=>row3 h 3 rfl) (fun w0 w h=>row3 h 2 rfl)
       have d6:PI.sgsW PI.fixedL PI.fixedD (PI.sgs ts) P=PI.toksW PI.fixedL PI.fixedD ts:=by rw [<- V.out]; exact PI.sgsW_toks _ _ _
       rw [d6] at G;clear d6;have Z:=hid G;have d0:Hid (PI.bodyW ⟨d,o,Y⟩ E.length O=PI.toksW PI.fixedL PI.fixedD ts):=hid (by
        unfold PI.bodyW;rw [if_neg (show ¬ (d % 3:Nat)=0 by have:=T.out; omega),if_pos (show(d % 3:Nat)=1 from T.out),f7.out])
       have d1:Hid (PI.partO ⟨d,o,Y⟩ O=PI.toksO O ts):=hid (by
        unfold PI.partO;rw [if_neg (show ¬ (d % 3:Nat)=0 by have:=T.out; omega),f7.out])
       clear G;refine Z.out.mono ?_;rintro _ wh ⟨rfl,d7⟩;have d8:=hid (d7.pick 8 [0,6]);clear Z s d7;go_wp2_with fail
       go_roundw
       case rel =>
        refine⟨i+1,by go_num,by omega,?_⟩;have e1:(PI.stW S (i+1)).1=E++PI.toksW PI.fixedL PI.fixedD ts:=by rw [c7.out,d0.out]
        have e2:(PI.stW S (i+1)).2=PI.toksO O ts:=by rw [j0.out,d1.out]
        rw [e1,e2];exact d8.out
       case measure=>first | (simp [intOf]; omega) | simp [intOf]
      ·obtain rfl:kd=2:=by omega
       go_wp2_with fail
       refine(Y3 z).mono ?_;rintro _ wf ⟨f1,f2,rfl,C⟩;obtain⟨F1,a0,rfl,_,_⟩:=Row.form C 0 rfl;obtain⟨F2,b6,rfl,_,_⟩:=Row.form C 1 rfl;have es:(wf.alloc (.cells #[.slice F1 288 a0] 51)).heap.size=wf.heap.size+1:=Array.size_push _;have y:=(C.newBk [.slice F1 288 a0] 51).newBk [.slice F2 32 b6] 51;rw [es] at y;have s:=hid y;clear z C y es;go_wp2_with fail
       generalize wf.heap.size+1=g14 at s ⊢;generalize wf.heap.size=g13 at s ⊢;generalize (wf.alloc _).alloc _=wg at s ⊢;refine Zg (L:=(Row 83 3 (.slice VS P J) P (cellsS (PI.sgs ts))::Row 5 1 v2 (PI.toksO O ts).length (cells8 (PI.toksO O ts))::Pen m E::Bk g7 41 [.int .u8 d,.slice D bn bc,.slice Q cn R]::X::L)) (fun ix vx=>([(fun _=>True),(fun _=>True),(·=undef),(·=undef)]:List (Value->Prop)).getD ix (fun _=>True) vx)
        (fun ix vx=>([fun u=>[Row 3 1 u 286 (List.replicate 286 (.int .i64 0))],fun u=>[Row 3 1 u 30 (List.replicate 30 (.int .i64 0))],fun _=>[Ex fun u=>Star (Bk g13 51 [u]) (Row 3 1 u 286 (List.replicate 286 (.int .i64 0)))],fun _=>[Ex fun u=>Star (Bk g14 51 [u]) (Row 3 1 u 30 (List.replicate 30 (.int .i64 0)))]]:List (Value->List Pr)).getD ix (fun _=>[]) vx) (fun ix=>([[],[],[Bk g13 51 [.slice F1 288 a0]],[Bk g14 51 [.slice F2 32 b6]]]:List (List Pr)).getD ix []) 4 145
        [some 121,some 122,none,none]
        [[],[],[0,0],[1,2,0,1,2]]
        [[],[],[0],[0,1,2]]
        [[],[],[0],[1]]
        [[],[],[],[]]
        [(13,.pointer (some ⟨g13,0,none⟩)),(14,.pointer (some ⟨g14,0,none⟩))]
        (by kernel_rfl) rfl (by decide) (by rfl) rfl (by decide +kernel) (by decide +kernel) (by rfl) rfl rfl (by decide) (by simp) (by rfl) (s.out.pick 4 [1,0]) ?hstep ?hend
       case hstep =>
        refine⟨?_,⟨?_,⟨?_,⟨?_,trivial⟩⟩⟩⟩
        ·intro x wx A rest f b g H K a;have l:Hid (∀(v:Value) (w' : World),(fun _=>True) v->Sp w0 ((Row 3 1 v 286 (List.replicate 286 (.int .i64 0)))::rest) w'->K (A.put (some 121) v) w'):=hid a;clear a f b g;refine so ?_;refine ZP _ _ 51 rfl 3 i0 (.int .i64 0) Tryd.underlying51 hi k2 k3 rfl 286 rfl rfl (by rw [k4]; omega) (by unfold maxLen; omega) H ?_;intro ad w9 H9;exact l.out _ _ trivial H9
        ·intro x wx A rest f b g H K a;have l:Hid (∀(v:Value) (w' : World),(fun _=>True) v->Sp w0 ((Row 3 1 v 30 (List.replicate 30 (.int .i64 0)))::rest) w'->K (A.put (some 122) v) w'):=hid a;clear a f b g;refine so ?_;refine ZP _ _ 51 rfl 3 i0 (.int .i64 0) Tryd.underlying51 hi k2 k3 rfl 30 rfl rfl (by rw [k4]; omega) (by unfold maxLen; omega) H ?_;intro ad w9 H9;exact l.out _ _ trivial H9
        ·intro x wx A rest f b g H K a;have f8:A.tmps[13]?.getD undef=.pointer (some ⟨g13,0,none⟩):=f (13,_) (by simp);have u2:=(b 0 (by decide)).1;have o8:=(b 0 (by decide)).2 121 rfl;replace H:Sp w0 (_::(Row 3 1 (x 0) 286 (List.replicate 286 (.int .i64 0)))::rest) wx:=H;have l:=hid a;clear a f b g;obtain⟨x9,a7⟩:=exq (x 0);rw [a7] at o8 H;obtain⟨V9,c9,rfl,_,_⟩:=Row.form H 1 rfl;have c0:wx.cell? ⟨g13,0,none⟩=some (.slice F1 288 a0):=H.cell 0 rfl 0;have z0:wx.frozen? ⟨g13,0,none⟩=false:=H.frozen 0 rfl 0;refine so ?_;go_step;exact l.out _ _ rfl (Sp.ex _ (Sp.star (H.set 0 (.slice V9 286 c9))))
        ·intro x wx A rest f b g H K a;have f9:A.tmps[14]?.getD undef=.pointer (some ⟨g14,0,none⟩):=f (14,_) (by simp);have u3:=(b 1 (by decide)).1;have o9:=(b 1 (by decide)).2 122 rfl;replace H:Sp w0 (_::(Row 3 1 (x 1) 30 (List.replicate 30 (.int .i64 0)))::rest) wx:=H;have l:=hid a;clear a f b g;obtain⟨x9,a7⟩:=exq (x 1);rw [a7] at o9 H;obtain⟨V9,c9,rfl,_,_⟩:=Row.form H 1 rfl;have c0:wx.cell? ⟨g14,0,none⟩=some (.slice F2 32 b6):=H.cell 0 rfl 0;have z0:wx.frozen? ⟨g14,0,none⟩=false:=H.frozen 0 rfl 0;refine so ?_;go_step;exact l.out _ _ rfl (Sp.ex _ (Sp.star (H.set 0 (.slice V9 30 c9))))
       case hend =>
        intro x wx A hA b H;replace H:Sp w0 (_::_::(Row 83 3 (.slice VS P J) P (cellsS (PI.sgs ts))::Row 5 1 v2 (PI.toksO O ts).length (cells8 (PI.toksO O ts))::Pen m E::Bk g7 41 [.int .u8 d,.slice D bn bc,.slice Q cn R]::X::L)) wx:=H;clear b;simp only [putAll,Act.put,List.setIfInBounds_toArray,List.set_cons_succ,List.set_cons_zero,Nat.reduceAdd] at hA;subst hA;obtain⟨va,H⟩:=H.unex;replace H:=H.unstar.pick 3 [2,0,1];obtain⟨vb,H⟩:=H.unex;replace H:=H.unstar;obtain⟨VA,ca,rfl,_,_⟩:=Row.form H 3 rfl;obtain⟨VB,cb,rfl,_,_⟩:=Row.form H 1 rfl;rw [PI.cnts_nil 286,PI.cnts_nil 30] at H;have i4:=hid (H.pick 4 [0,2,1,3]);have A3:∀(fn:Fn) (first cap:Array Value) (w:World),(Instr.makeFunc fn first cap).run Tryd.prog w=.ok (.func fn first cap) w:=fun _ _ _ _=>rfl;clear H s;go_wp2_with fail
        refine(Ws (w0:=w0) VS P J (PI.sgs ts) _ _ (fun k:Nat=>Bk g14 51 [.slice VB 30 cb]::Bk g13 51 [.slice VA 286 ca]::Row 3 1 (.slice VB 30 cb) 30 (cellsN (PI.cnts 30 (PI.farK (PI.sgs ts) k)))::Row 3 1 (.slice VA 286 ca) 286 (cellsN (PI.cnts 286 (PI.symK (PI.sgs ts) k)))::Row 83 3 (.slice VS P J) P (cellsS (PI.sgs ts))::Row 5 1 v2 (PI.toksO O ts).length (cells8 (PI.toksO O ts))::Pen m E::Bk g7 41 [.int .u8 d,.slice D bn bc,.slice Q cn R]::X::L) i4.out V.out.symm (by omega) b4.out (fun k _ w0 w h=>row3 h 4 rfl) (fun k X9 w9 hk Hk=>Wx g13 g14 k P _ _ (PI.sgs ts) Hk (by rw [V.out]; exact hk) (by rw [V.out]; omega) b4.out)).mono ?_;rintro _ wi ⟨rfl,p0⟩;have p1:Sp w0 (Bk g14 51 [.slice VB 30 cb]::Bk g13 51 [.slice VA 286 ca]::Row 3 1 (.slice VB 30 cb) 30 (cellsN (PI.cnts 30 (PI.farsOf ts)))::Row 3 1 (.slice VA 286 ca) 286 (cellsN (PI.cnts 286 (PI.symsOf ts)))::Row 83 3 (.slice VS P J) P (cellsS (PI.sgs ts))::Row 5 1 v2 (PI.toksO O ts).length (cells8 (PI.toksO O ts))::Pen m E::Bk g7 41 [.int .u8 d,.slice D bn bc,.slice Q cn R]::X::L) wi:=by
         have h:=p0;have ht:=PI.symK_toks ts;rw [V.out] at ht;simp only [ht.1,ht.2] at h;exact h
        have i5:=hid p1;have p2:=PI.kcount (PI.sgs ts) P;have U:=PI.symK_toks ts;rw [V.out] at U;rw [U.1,U.2] at p2;have p3:Hid (∀x ∈ PI.cnts 286 (PI.symsOf ts),x<=4294967296):=hid fun x hx=>by have:=PI.cnts_le _ _ x hx; omega
        have p4:Hid (∀x ∈ PI.cnts 30 (PI.farsOf ts),x<=4294967296):=hid fun x hx=>by have:=PI.cnts_le _ _ x hx; omega
        have s9:Hid (Ent (Row 3 1 (.slice VB 30 cb) 30 (cellsN (PI.cnts 30 (PI.farsOf ts)))::Row 3 1 (.slice VA 286 ca) 286 (cellsN (PI.cnts 286 (PI.symsOf ts)))::Row 83 3 (.slice VS P J) P (cellsS (PI.sgs ts))::Row 5 1 v2 (PI.toksO O ts).length (cells8 (PI.toksO O ts))::Pen m E::Bk g7 41 [.int .u8 d,.slice D bn bc,.slice Q cn R]::X::L) fun w=>Rd w VA (cellsN (PI.cnts 286 (PI.symsOf ts)))):=hid fun w0 w h=>row3 h 1 rfl;have t0:Hid (Ent (Row 3 1 (.slice VB 30 cb) 30 (cellsN (PI.cnts 30 (PI.farsOf ts)))::Row 3 1 (.slice VA 286 ca) 286 (cellsN (PI.cnts 286 (PI.symsOf ts)))::Row 83 3 (.slice VS P J) P (cellsS (PI.sgs ts))::Row 5 1 v2 (PI.toksO O ts).length (cells8 (PI.toksO O ts))::Pen m E::Bk g7 41 [.int .u8 d,.slice D bn bc,.slice Q cn R]::X::L) fun w=>Rd w VB (cellsN (PI.cnts 30 (PI.farsOf ts)))):=hid fun w0 w h=>row3 h 0 rfl;clear i4 p0 p1 p2 U;go_wp2_with fail
        refine Zg (L:=(Row 3 1 (.slice VB 30 cb) 30 (cellsN (PI.cnts 30 (PI.farsOf ts)))::Row 3 1 (.slice VA 286 ca) 286 (cellsN (PI.cnts 286 (PI.symsOf ts)))::Row 83 3 (.slice VS P J) P (cellsS (PI.sgs ts))::Row 5 1 v2 (PI.toksO O ts).length (cells8 (PI.toksO O ts))::Pen m E::Bk g7 41 [.int .u8 d,.slice D bn bc,.slice Q cn R]::X::L)) (fun ix vx=>([(·=.slice VA 286 ca),(fun _=>True),(·=.slice VB 30 cb),(fun _=>True),(·=undef),(·=undef)]:List (Value->Prop)).getD ix (fun _=>True) vx)
         (fun ix vx=>([fun _=>[],fun u=>[Row 3 1 u 286 (cellsN (PI.lensA ts))],fun _=>[],fun u=>[Row 3 1 u 30 (cellsN (PI.lensB ts))],fun _=>[Ex fun u=>Star (Bk g13 51 [u]) (Row 3 1 u 286 (cellsN (PI.lensA ts)))],fun _=>[Ex fun u=>Star (Bk g14 51 [u]) (Row 3 1 u 30 (cellsN (PI.lensB ts)))]]:List (Value->List Pr)).getD ix (fun _=>[]) vx) (fun ix=>([[],[],[],[],[Bk g13 51 [.slice VA 286 ca]],[Bk g14 51 [.slice VB 30 cb]]]:List (List Pr)).getD ix []) 6 145
         [some 126,some 127,some 128,some 129,none,none]
         [[],[0],[],[2,1],[1,3,0,1],[3,4,0,1,2,3,4]]
         [[],[0],[],[0,1,2],[0,1,2,3],[0,1,2,3,4]]
         [[],[],[],[],[1],[3]]
         [[4],[],[5],[],[],[]]
         [(13,.pointer (some ⟨g13,0,none⟩)),(14,.pointer (some ⟨g14,0,none⟩))]
         (by kernel_rfl) rfl (by decide) (by rfl) rfl (by decide +kernel) (by decide +kernel) (by rfl) rfl rfl (by decide) (by simp) (by rfl) (i5.out.pick 2 [1,0]) ?hstep ?hend
        case hstep =>
         refine⟨?_,⟨?_,⟨?_,⟨?_,⟨?_,⟨?_,trivial⟩⟩⟩⟩⟩⟩
         ·intro x wx A rest f b g H K a;have f8:A.tmps[13]?.getD undef=.pointer (some ⟨g13,0,none⟩):=f (13,_) (by simp);replace H:Sp w0 (_::rest) wx:=H;have l:=hid a;clear a f b g;have c:wx.cell? ⟨g13,0,none⟩=some (.slice VA 286 ca):=H.cell 0 rfl 0;refine so ?_;go_step;exact l.out _ _ rfl H
         ·intro x wx A rest f b g H K a;have u4:=tq b 0;have l:Hid (∀(v:Value) (w' : World),(fun _=>True) v->Sp w0 ((Row 3 1 v 286 (cellsN (PI.lensA ts)))::rest) w'->K (A.put (some 127) v) w'):=hid a;clear a f b;refine so ?_;go_wp2_with fail
          refine(YQ VA 286 ca (PI.cnts 286 (PI.symsOf ts)) 15 H (PI.cnts_len _ _).symm (g _ s9.out) (by omega) (by omega) (by omega) p3.out (by decide)).mono ?_;rintro _ w9 ⟨v9,rfl,H9⟩;exact l.out _ _ trivial H9
         ·intro x wx A rest f b g H K a;have f9:A.tmps[14]?.getD undef=.pointer (some ⟨g14,0,none⟩):=f (14,_) (by simp);replace H:Sp w0 (_::rest) wx:=H;have l:=hid a;clear a f b g;have c:wx.cell? ⟨g14,0,none⟩=some (.slice VB 30 cb):=H.cell 0 rfl 0;refine so ?_;go_step;exact l.out _ _ rfl H
         ·intro x wx A rest f b g H K a;have u6:=tq b 2;have l:Hid (∀(v:Value) (w' : World),(fun _=>True) v->Sp w0 ((Row 3 1 v 30 (cellsN (PI.lensB ts)))::rest) w'->K (A.put (some 129) v) w'):=hid a;clear a f b;refine so ?_;go_wp2_with fail
          refine(YQ VB 30 cb (PI.cnts 30 (PI.farsOf ts)) 15 H (PI.cnts_len _ _).symm (g _ t0.out) (by omega) (by omega) (by omega) p4.out (by decide)).mono ?_;rintro _ w9 ⟨v9,rfl,H9⟩;exact l.out _ _ trivial H9
         ·intro x wx A rest f b g H K a;have f8:A.tmps[13]?.getD undef=.pointer (some ⟨g13,0,none⟩):=f (13,_) (by simp);have u7:=(b 1 (by decide)).1;have p5:=(b 1 (by decide)).2 127 rfl;replace H:Sp w0 (_::(Row 3 1 (x 1) 286 (cellsN (PI.lensA ts)))::rest) wx:=H;have l:=hid a;clear a f b g;obtain⟨x9,a7⟩:=exq (x 1);rw [a7] at p5 H;obtain⟨V9,c9,rfl,_,_⟩:=Row.form H 1 rfl;have c0:wx.cell? ⟨g13,0,none⟩=some (.slice VA 286 ca):=H.cell 0 rfl 0;have z0:wx.frozen? ⟨g13,0,none⟩=false:=H.frozen 0 rfl 0;refine so ?_;go_step;exact l.out _ _ rfl (Sp.ex _ (Sp.star (H.set 0 (.slice V9 286 c9))))
         ·intro x wx A rest f b g H K a;have f9:A.tmps[14]?.getD undef=.pointer (some ⟨g14,0,none⟩):=f (14,_) (by simp);have u8:=(b 3 (by decide)).1;have p6:=(b 3 (by decide)).2 129 rfl;replace H:Sp w0 (_::(Row 3 1 (x 3) 30 (cellsN (PI.lensB ts)))::rest) wx:=H;have l:=hid a;clear a f b g;obtain⟨x9,a7⟩:=exq (x 3);rw [a7] at p6 H;obtain⟨V9,c9,rfl,_,_⟩:=Row.form H 1 rfl;have c0:wx.cell? ⟨g14,0,none⟩=some (.slice VB 30 cb):=H.cell 0 rfl 0;have z0:wx.frozen? ⟨g14,0,none⟩=false:=H.frozen 0 rfl 0;refine so ?_;go_step;exact l.out _ _ rfl (Sp.ex _ (Sp.star (H.set 0 (.slice V9 30 c9))))
        case hend =>
         intro x wx A hA b H;replace H:Sp w0 (_::_::(Row 3 1 (.slice VB 30 cb) 30 (cellsN (PI.cnts 30 (PI.farsOf ts)))::Row 3 1 (.slice VA 286 ca) 286 (cellsN (PI.cnts 286 (PI.symsOf ts)))::Row 83 3 (.slice VS P J) P (cellsS (PI.sgs ts))::Row 5 1 v2 (PI.toksO O ts).length (cells8 (PI.toksO O ts))::Pen m E::Bk g7 41 [.int .u8 d,.slice D bn bc,.slice Q cn R]::X::L)) wx:=H;clear b;simp only [putAll,Act.put,List.setIfInBounds_toArray,List.set_cons_succ,List.set_cons_zero,Nat.reduceAdd] at hA;subst hA;obtain⟨la,H⟩:=H.unex;replace H:=H.unstar.pick 3 [2,0,1];obtain⟨A4,H⟩:=H.unex;replace H:=H.unstar;obtain⟨LA,g0,rfl,_,_⟩:=Row.form H 3 rfl;obtain⟨LB,g1,rfl,_,_⟩:=Row.form H 1 rfl;have f8:wx.cell? ⟨g13,0,none⟩=some (.slice LA 286 g0):=H.cell 2 rfl 0;have f9:wx.cell? ⟨g14,0,none⟩=some (.slice LB 30 g1):=H.cell 0 rfl 0;obtain⟨a1,a2,a3⟩:=PI.lensA_ok ts;obtain⟨b1,b2,b3⟩:=PI.lensB_ok ts;have A5:=PI.headsW_len _ _ a2 b2 a3 b3;have p7:=Ww m g0 g1 LA LB (PI.lensA ts) (PI.lensB ts) E (H.pick 9 [8,0,1,2,3,4,5,6,7]) a2 b2 a3 b3 (by omega) (fun w0 w h=>row3 h 3 rfl) (fun w0 w h=>row3 h 1 rfl);have p8:=hid p7;have HA:=hid (And.intro a1 (And.intro a2 a3));have k0:=hid (And.intro b1 (And.intro b2 b3));clear p7 H i5 a1 a2 a3 b1 b2 b3;go_wp2_with fail
         refine p8.out.mono ?_;rintro _ wj ⟨rfl,g2⟩;have f8:wj.cell? ⟨g13,0,none⟩=some (.slice LA 286 g0):=g2.cell 3 rfl 0;have f9:wj.cell? ⟨g14,0,none⟩=some (.slice LB 30 g1):=g2.cell 1 rfl 0
         have G:=Xz m P J 286 g0 30 g1 VS LA LB (PI.lensA ts) (PI.lensB ts) (PI.sgs ts) (E++PI.headsW (PI.lensA ts) (PI.lensB ts)) g2 V.out.symm k0.out.2.1.symm HA.out.2.1.symm b4.out (by rw [List.length_append]; omega) (by omega) (by omega) (by omega) (by omega) (by omega) k0.out.2.2 HA.out.2.2 (PI.book_sum k0.out.1) (PI.book_sum HA.out.1)
          (fun w0 w h=>row3 h 6 rfl) (fun w0 w h=>row3 h 1 rfl) (fun w0 w h=>row3 h 3 rfl)
         have d6:PI.sgsW (PI.lensA ts) (PI.lensB ts) (PI.sgs ts) P=PI.toksW (PI.lensA ts) (PI.lensB ts) ts:=by rw [<- V.out]; exact PI.sgsW_toks _ _ _
         rw [d6,List.append_assoc] at G;clear d6;have Z:=hid G;have d0:Hid (PI.bodyW ⟨d,o,Y⟩ E.length O=PI.headsW (PI.lensA ts) (PI.lensB ts)++PI.toksW (PI.lensA ts) (PI.lensB ts) ts):=hid (by
          unfold PI.bodyW;rw [if_neg (show ¬ (d % 3:Nat)=0 by have:=T.out; omega),if_neg (show ¬ (d % 3:Nat)=1 by have:=T.out; omega),f7.out])
         have d1:Hid (PI.partO ⟨d,o,Y⟩ O=PI.toksO O ts):=hid (by
          unfold PI.partO;rw [if_neg (show ¬ (d % 3:Nat)=0 by have:=T.out; omega),f7.out])
         clear G p8 g2;go_wp2_with fail
         refine Z.out.mono ?_;rintro _ wh ⟨rfl,d7⟩;have d8:=hid (d7.pick 10 [0,8]);clear Z d7;go_wp2_with fail
         go_roundw
         case rel =>
          refine⟨i+1,by go_num,by omega,?_⟩;have e1:(PI.stW S (i+1)).1=E++(PI.headsW (PI.lensA ts) (PI.lensB ts)++PI.toksW (PI.lensA ts) (PI.lensB ts) ts):=by rw [c7.out,d0.out]
          have e2:(PI.stW S (i+1)).2=PI.toksO O ts:=by rw [j0.out,d1.out]
          rw [e1,e2];exact d8.out
         case measure=>first | (simp [intOf]; omega) | simp [intOf]
   ·have k1:¬ (i:Int)<(nk:Int):=by omega
    obtain rfl:nk=i:=by omega
    obtain⟨v4,H5⟩:=Z9 H3;have c5:wr.cell? ⟨m,0,none⟩=some v4:=H5.cell 0 rfl 0;unfold PenR at H5;rw [<- HB.out,<- HO.out] at H5;have t1:=hid (H5.pick 4 [1,2]);clear H3 H5;go_wp2_with fail
    go_ret2;exact⟨_,_,rfl,t1.out⟩
end Go.Proofs.YteajimobgkempaaDoor

