/- A pack. -/
import Derived.Test.YtnjpnmpemhldcaaGreatDoorPk31
set_option linter.all false
set_option maxRecDepth 100000
set_option maxHeartbeats 8000000
namespace Go.Proofs.YtnjpnmpemhldcaaGreatDoor
variable {w0 w:World} {L:List Pr}
namespace PD
theorem copy_grow (far n:Nat) (b:List UInt8):PI.copy far n b=PM.grow far n b:=by
 induction n generalizing b with
 | zero=>rfl
 | succ n ih=>rw [PI.copy,PM.grow,ih]
theorem tokO_step (s:PM.St) (b:List UInt8):PI.tokO b (tokOf s)=PM.step s b:=by
 unfold tokOf PM.step;split
 ·rfl
 ·exact copy_grow _ _ _
theorem toksO_expand (Y:List PM.St) (b:List UInt8):PI.toksO b (toks Y)=PM.expand Y b:=by
 induction Y generalizing b with
 | nil=>rfl
 | cons s l ih =>
  show PI.toksO (PI.tokO b (tokOf s)) (toks l)=PM.expand l (PM.step s b);rw [tokO_step,ih]
theorem good_of (Y:List PM.St):∀out:List UInt8,PM.mays Y out.length->PI.Good out (toks Y):=by
 induction Y with
 | nil=>intro out _; trivial
 | cons s l ih =>
  intro out h;obtain⟨a,c⟩:=h;have b:PI.Good (PM.step s out) (toks l):=ih _ (by rw [PM.step_length]; exact c);show PI.Good out (tokOf s::toks l);unfold tokOf;unfold PM.step at b;by_cases e:s.1=0
  ·rw [if_pos e] at b ⊢;exact b
  ·rw [if_neg e] at b ⊢;rw [<- copy_grow] at b;rcases a with a | a
   ·exact absurd a.1 e
   ·exact⟨⟨a.1,a.2.1,a.2.2.1,a.2.2.2.1,a.2.2.2.2.1⟩,b⟩
theorem grow_pre (far n:Nat):∀b:List UInt8,∃r,PM.grow far n b=b++r:=by
 induction n with
 | zero=>intro b; exact⟨[],by simp [PM.grow]⟩
 | succ n ih =>
  intro b;obtain⟨r,h⟩:=ih (b++[b.getD (b.length - far) 0]);exact⟨_,by rw [PM.grow,h,List.append_assoc]⟩
theorem expand_pre (Y:List PM.St):∀b:List UInt8,∃r,PM.expand Y b=b++r:=by
 induction Y with
 | nil=>intro b; exact⟨[],by simp [PM.expand]⟩
 | cons s l ih =>
  intro b;obtain⟨r,h⟩:=ih (PM.step s b);obtain⟨q,a⟩:∃q,PM.step s b=b++q:=by
   unfold PM.step;split
   ·exact⟨_,rfl⟩
   ·exact grow_pre _ _ b
  exact⟨q++r,by rw [PM.expand,h,a,List.append_assoc]⟩
theorem size_app (a c:List PM.St):PM.size (a++c)=PM.size a+PM.size c:=by
 induction a with
 | nil=>simp [PM.size]
 | cons s l ih=>rw [List.cons_append,PM.size,PM.size,ih,Nat.add_assoc]
theorem mays_app (a c:List PM.St) (n:Nat):PM.mays (a++c) n↔PM.mays a n/\PM.mays c (n+PM.size a):=by
 induction a generalizing n with
 | nil=>simp [PM.mays,PM.size]
 | cons s l ih =>
  show PM.fits s n/\PM.mays (l++c) (n+PM.made s)↔(PM.fits s n/\PM.mays l (n+PM.made s))/\_;rw [ih,PM.size,Nat.add_assoc];exact(and_assoc).symm
theorem take_parts (Y:List PM.St) (i:Nat):Y.take (512 * (i+1))=Y.take (512 * i)++partY Y i:=by
 unfold partY;rw [show 512 * (i+1)=512 * i+512 by omega,List.take_add]
theorem atB_succ (Y:List PM.St) (i:Nat):atB Y (i+1)=atB Y i+PM.size (partY Y i):=by
 unfold atB;rw [take_parts,size_app]
theorem expand_take (Y:List PM.St) (k:Nat):PM.expand (Y.take k) []=(PM.expand Y []).take (PM.size (Y.take k)):=by
 obtain⟨r,h⟩:=expand_pre (Y.drop k) (PM.expand (Y.take k) []);have a:=PM.expand_append (Y.take k) (Y.drop k) [];rw [List.take_append_drop,h] at a;have b:=PM.expand_length (Y.take k) [];rw [List.length_nil,Nat.zero_add] at b;rw [a,<- b,List.take_left]
theorem part_out (Y:List PM.St) (i:Nat):(PM.expand Y []).take (atB Y i)++partB Y (PM.expand Y []) i=(PM.expand Y []).take (atB Y (i+1)):=by
 rw [atB_succ,List.take_add]; rfl
theorem part_expand (Y:List PM.St) (i:Nat):PM.expand (partY Y i) ((PM.expand Y []).take (atB Y i))=(PM.expand Y []).take (atB Y i)++partB Y (PM.expand Y []) i:=by
 have a:=expand_take Y (512 * (i+1));rw [take_parts,PM.expand_append,expand_take Y (512 * i),<- take_parts] at a;rw [part_out];exact a
theorem part_good (Y:List PM.St) (hY:PM.mays Y 0) (i:Nat):PI.Good ((PM.expand Y []).take (atB Y i)) (toks (partY Y i)):=by
 have b:=PM.expand_length Y [];have c:PM.mays (Y.take (512 * i)++(partY Y i++Y.drop (512 * (i+1)))) 0:=by
  rw [<- List.append_assoc,<- take_parts,List.take_append_drop]; exact hY
 have a:=((mays_app _ _ _).1 ((mays_app _ _ _).1 c).2).1;have d:atB Y i<=PM.size Y:=by
  have:=size_app (Y.take (512 * i)) (Y.drop (512 * i));rw [List.take_append_drop] at this;unfold atB; omega
 refine good_of _ _ ?_;rw [List.length_take,b,List.length_nil,Nat.zero_add,Nat.min_eq_left d];rw [Nat.zero_add] at a;exact a
/-! Which kind. -/
theorem pick_lt (s:Int) (f d:Nat):pick s f d<3:=by
 unfold pick;split
 ·split
  ·split <;> omega
  ·split <;> omega
 ·split <;> omega
theorem pick_sto {s:Int} {f d:Nat} (h:pick s f d=0):0<=s:=by
 unfold pick at h;split at h
 ·assumption
 ·split at h <;> omega
theorem kind_sto {Y:List PM.St} {b:List UInt8} {a:Nat} (h:kind Y b a=0):b.length<=65535:=by
 have:=pick_sto h;unfold sto at this;split at this
 ·assumption
 ·omega
/-! The lengths of a part's own books. -/
theorem lenA_ok (Y:List PM.St):PI.book (lenA Y)=true/\257<=(lenA Y).length/\(lenA Y).length<=286/\(∀x ∈ lenA Y,x<=15)/\(∀s ∈ PI.symsOf (toks Y),s<286->PI.Has (lenA Y) s):=by
 obtain⟨a,b,c,d,g⟩:=PI.lens_fits 286 15 (PI.symsOf (toks Y)) (by decide) (by decide) (by decide) (by decide);have e:PI.lensA (toks Y)=PL.lens (PI.cnts 286 (PI.symsOf (toks Y))) 15:=rfl;rw [<- e] at a b c d;have i:=used_le (PI.lensA (toks Y)) 257 (PI.lensA (toks Y)).length;have f:=used_least (PI.lensA (toks Y)) 257 (PI.lensA (toks Y)).length (by rw [b]; decide);refine⟨cut_book _ _ a,?_,?_,fun x hx=>c x (cut_mem _ _ x hx),fun s hs h=>cut_has _ _ _ (d s hs h)⟩
 ·unfold lenA; rw [cut_len]; exact f
 ·unfold lenA; rw [cut_len]; omega
theorem lenB_ok (Y:List PM.St):PI.book (lenB Y)=true/\1<=(lenB Y).length/\(lenB Y).length<=30/\(∀x ∈ lenB Y,x<=15)/\(∀s ∈ PI.farsOf (toks Y),s<30->PI.Has (lenB Y) s):=by
 obtain⟨a,b,c,d,g⟩:=PI.lens_fits 30 15 (PI.farsOf (toks Y)) (by decide) (by decide) (by decide) (by decide);have e:PI.lensB (toks Y)=PL.lens (PI.cnts 30 (PI.farsOf (toks Y))) 15:=rfl;rw [<- e] at a b c d;have i:=used_le (PI.lensB (toks Y)) 1 (PI.lensB (toks Y)).length;have f:=used_least (PI.lensB (toks Y)) 1 (PI.lensB (toks Y)).length (by rw [b]; decide);refine⟨cut_book _ _ a,?_,?_,fun x hx=>c x (cut_mem _ _ x hx),fun s hs h=>cut_has _ _ _ (d s hs h)⟩
 ·unfold lenB; rw [cut_len]; exact f
 ·unfold lenB; rw [cut_len]; omega
theorem rowY_15 (Y:List PM.St):∀x ∈ lenA Y++lenB Y,x<=15:=fun x hx=>by
 rcases List.mem_append.1 hx with h | h
 ·exact(lenA_ok Y).2.2.2.1 x h
 ·exact(lenB_ok Y).2.2.2.1 x h
theorem fst7_ok (Y:List PM.St):PI.book (fst7 Y)=true/\(fst7 Y).length=19/\(∀x ∈ fst7 Y,x<=7)/\(∀t ∈ rowY Y,PI.Has (fst7 Y) t.1):=by
 obtain⟨a,b,c,d,e⟩:=PI.lens_fits 19 7 ((rowY Y).map Prod.fst) (by decide) (by decide) (by decide) (by decide);exact⟨a,b,c,fun t ht=>d t.1 (List.mem_map_of_mem ht) (rl_small _ _ _ (rowY_15 Y) t ht).1⟩
theorem told_ok (m:List Nat):4<=told m/\told m<=19:=⟨toldN_least m 19 (by decide),toldN_le m 19⟩
theorem row_ok (Y:List PM.St):PI.tellsO [] (rowY Y)=lenA Y++lenB Y/\PI.TellsOk (fst7 Y) [] (rowY Y):=by
 have h:=row_all (m:=fst7 Y) (lenA Y++lenB Y) (rowY_15 Y);have b:row (lenA Y++lenB Y)=rowY Y:=by rw [rowY]
 rw [b] at h;have a:=(fst7_ok Y).2.2.2;generalize rowY Y=R at h a ⊢;generalize fst7 Y=F at h a ⊢;exact⟨h.1,h.2 a⟩
theorem dyn_read {B:List Bool} {a:Nat} (Y:List PM.St) (h:PI.At B a (PI.headW (fst7 Y) (told (fst7 Y)) (lenA Y).length (lenB Y).length (rowY Y))) :
  PI.dynamic B a=.ok (a+(PI.headW (fst7 Y) (told (fst7 Y)) (lenA Y).length (lenB Y).length (rowY Y)).length,lenA Y,lenB Y):=by
 obtain⟨g,j,k,u,l⟩:=lenA_ok Y;obtain⟨m,n,o,v,w⟩:=lenB_ok Y;obtain⟨p,q,r,y⟩:=fst7_ok Y;obtain⟨s,t⟩:=told_ok (fst7 Y);have d:=row_ok Y;have z:=(l 256 (PI.syms_end _) (by decide)).2.1;have e:∀i,i<19->i ∉ PI.orderT.take (told (fst7 Y))->(fst7 Y).getD i 0=0:=fun i hi hn=>told_zero _ i hi hn;clear l w y;generalize told (fst7 Y)=c at h s t e ⊢;generalize fst7 Y=F at h p q r d e ⊢;generalize rowY Y=R at h d ⊢;obtain⟨f,C⟩:=d;generalize lenA Y=A at h g j k u z f ⊢;generalize lenB Y=D at h m n o v f ⊢;have E:∀x ∈ F,x<8:=fun x hx=>by have:=r x hx; omega
 have b:A.getD 256 0≠0:=by omega
 exact PI.dynamic_at h j k n o s t E q e p C f rfl rfl b g m
theorem lay_read {B:List Bool} {most a k:Nat} {last:Bool} {out b:List UInt8} {Y:List PM.St} (h:PI.At B a (layD k Y b last a)) (hk:k<3) (hg:PI.Good out (toks Y)) (hb:PM.expand Y out=out++b) (hl:k=0->b.length<=65535) (ho:(out++b).length<=most) :
  PI.block B most a out=.ok (last,k,a+(layD k Y b last a).length,out++b):=by
 unfold layD at h ⊢;have c:=h.right;rw [List.length_append,PBits.bitsOf_length,List.length_singleton,show a+(1+2)=a+3 by omega] at c;have g:PI.toksO out (toks Y)=out++b:=by rw [toksO_expand,hb]
 have n:PI.body B most k (a+3) out=.ok (a+([last]++PBits.bitsOf k 2++bodyD k Y b (a+3)).length,out++b):=by
  have o:a+([last]++PBits.bitsOf k 2++bodyD k Y b (a+3)).length=a+3+(bodyD k Y b (a+3)).length:=by
   rw [List.length_append,List.length_append,PBits.bitsOf_length,List.length_singleton]; omega
  rw [o];unfold bodyD at c ⊢;by_cases i:k=0
  ·rw [if_pos i] at c ⊢;rw [i];have j:=c.right;rw [List.length_replicate] at j;unfold pad at j ⊢;rw [show a+3+((a+3+7) / 8 * 8 - (a+3))=(a+3+7) / 8 * 8 by omega] at j;rw [PI.stored_at j (hl i) ho,List.length_append,List.length_replicate];congr 2;omega
  ·rw [if_neg i] at c ⊢;by_cases f:k=1
   ·rw [if_pos f] at c ⊢;rw [f];have e:=hg.has (m:=PI.fixedL) (d:=PI.fixedD) _ _ (fun s _ hs=>PI.fixed_has s (by omega)) (fun s _ hs=>PI.fixed_hasD s (by omega));have p:=PI.toks_len _ _ e;have l:=c.le;unfold fixW at c l ⊢;rw [PI.fixed_at c e (by rw [g]; exact ho) (by omega),g]
   ·rw [if_neg f] at c ⊢;obtain rfl:k=2:=by omega
    have e:=hg.has (m:=lenA Y) (d:=lenB Y) _ _ (lenA_ok Y).2.2.2.2 (lenB_ok Y).2.2.2.2;have p:=PI.toks_len _ _ e;have l:=c.le;unfold dynW at c l ⊢;rw [List.length_append] at l;rw [PI.dyn_at c (dyn_read Y c.left) (lenA_ok Y).1 (lenB_ok Y).1 e (by rw [g]; exact ho) (by omega),g]
 exact PI.block_at h.left (by omega) n
theorem stD_more (Y:List PM.St) (b:List UInt8) (i:Nat):∀k,∃r,stD Y b (i+k)=stD Y b i++r:=by
 intro k;induction k with
 | zero=>exact⟨[],by simp⟩
 | succ k ih =>
  obtain⟨r,h⟩:=ih;exact⟨_,by rw [<- Nat.add_assoc,stD,h,List.append_assoc]⟩
theorem stD_len (Y:List PM.St) (b:List UInt8) (i:Nat):3 * i<=(stD Y b i).length:=by
 induction i with
 | zero=>exact Nat.zero_le _
 | succ i ih =>
  rw [stD];simp only [List.length_append,partD,layD,PBits.bitsOf_length,List.length_singleton];omega
def blksD (Y:List PM.St) (b:List UInt8):List PI.Blk:=(List.range (many Y)).map fun j=>⟨kind (partY Y j) (partB Y b j) (stD Y b j).length,decide (j+1=many Y),atB Y j,atB Y (j+1)⟩
theorem atB_le (Y:List PM.St) (i:Nat):atB Y i<=PM.size Y:=by
 have:=size_app (Y.take (512 * i)) (Y.drop (512 * i));rw [List.take_append_drop] at this;unfold atB; omega
theorem atB_end (Y:List PM.St) (i:Nat) (h:Y.length<=512 * i):atB Y i=PM.size Y:=by
 unfold atB; rw [List.take_of_length_le h]
theorem many_end (Y:List PM.St) (i:Nat) (h:i<many Y):decide (Y.length<=512 * (i+1))=decide (i+1=many Y):=by
 unfold many at h ⊢;rw [decide_eq_decide];omega
theorem stream_at {B:List Bool} {most:Nat} (Y:List PM.St) (hY:PM.mays Y 0) (h:PI.At B 0 (bitsD Y (PM.expand Y []))) (ho:PM.size Y<=most) :
    PI.all B most=.ok ((bitsD Y (PM.expand Y [])).length,PM.expand Y [],blksD Y (PM.expand Y [])):=by
  obtain⟨b,d⟩:=exq (PM.expand Y []);have a:b.length=PM.size Y:=by rw [<- d,PM.expand_length,List.length_nil,Nat.zero_add]
  rw [d] at h ⊢;have q:0<many Y:=by unfold many; omega
  have c:=h.le;have u:=stD_len Y b (many Y);have e:=PI.blocks_at (B:=B) (most:=most) (n:=many Y) (fun i=>(stD Y b i).length) (fun i=>kind (partY Y i) (partB Y b i) (stD Y b i).length) (fun i=>b.take (atB Y i)) (fun i hi=>by
    obtain⟨r,g⟩:=stD_more Y b (i+1) (many Y - (i+1));rw [show i+1+(many Y - (i+1))=many Y by omega] at g;unfold bitsD at h;rw [g] at h;have k:=h.left;rw [stD] at k;have l:=k.right;rw [Nat.zero_add] at l;have f:=part_out Y i;have m:=part_expand Y i;have o:=part_good Y hY i;rw [d] at f m o;have p:=lay_read (most:=most) l (pick_lt _ _ _) o m kind_sto (by rw [f,List.length_take]; omega);rw [f,many_end Y i hi] at p;show PI.block B most (stD Y b i).length (b.take (atB Y i))=_;rw [p,stD,List.length_append];unfold partD kind;rw [many_end Y i hi]) (many Y) 0 (B.length+1) [] (by omega) q (by unfold bitsD at c; omega)
  unfold PI.all;have s:(fun i=>b.take (atB Y i)) 0=[]:=by
    show b.take (atB Y 0)=[];rw [show atB Y 0=0 from rfl,List.take_zero]
  have t:b.take (atB Y (many Y))=b:=by
    rw [atB_end Y (many Y) (by unfold many; omega),<- a,List.take_length]
  rw [show PI.blocks B most (B.length+1) 0 [] []=PI.blocks B most (B.length+1) ((fun i=>(stD Y b i).length) 0) [] [] from rfl,<- s,e];simp only [t,List.nil_append];unfold bitsD blksD;congr 3;refine List.map_congr_left fun j hj=>?_;have hj:=List.mem_range.1 hj;rw [Nat.zero_add,List.length_take,List.length_take,a,Nat.min_eq_left (atB_le Y j),Nat.min_eq_left (atB_le Y (j+1))]
theorem stream_behind (Y:List PM.St) (hY:PM.mays Y 0) (r:List UInt8) (most:Nat) (ho:PM.size Y<=most) :
  PI.all (PBits.ofB (stream Y (PM.expand Y [])++r)) most=.ok ((bitsD Y (PM.expand Y [])).length,PM.expand Y [],blksD Y (PM.expand Y [])):=by
 refine stream_at Y hY ?_ ho;unfold stream;rw [PI.PBits.ofB_append,PI.ofB_pack,List.append_assoc];have:=PI.At.mid [] (bitsD Y (PM.expand Y [])) (List.replicate (((bitsD Y (PM.expand Y [])).length+7) / 8 * 8 - (bitsD Y (PM.expand Y [])).length) false++PBits.ofB r);rw [List.nil_append] at this;exact this
theorem stream_len (Y:List PM.St) (b:List UInt8):(stream Y b).length=((bitsD Y b).length+7) / 8:=PI.packB_len _
end PD
open Go.RowKit
def agF:Value->Nat->Value
 | .agg a,i=>a.getD i undef
 | _,_=>undef
def BP.of (Y:List PM.St) (b:List UInt8) (last:Bool):BP:=⟨b,PD.words Y,last,PD.lenA Y,PD.lenB Y,(PD.rowY Y).map PD.rwd,PD.fst7 Y⟩
theorem fl15:∀x ∈ PI.fixedL,x<=15:=by decide +kernel
theorem fd15:∀x ∈ PI.fixedD,x<=15:=by decide +kernel
theorem WQ (g gw:Nat) (dv:DV) (p:BP) (B:List Bool) (H:Sp w0 (WB gw B::L) w) (hb:Ent L (DBr g dv p)) (hok:∀t ∈ p.W,PD.WdOk PI.fixedL PI.fixedD t) (hWl:p.W.length<=2000000) (hB:B.length<=800000000) :
  Calls Tryz.prog 107 #[.pointer (some ⟨g,0,none⟩),.pointer (some ⟨gw,0,none⟩)] w fun e w'=>e=.returned (.tuple #[])/\Sp w0 (WB gw (B++([p.last]++PBits.bitsOf 1 2++PD.layW PI.fixedL PI.fixedD p.W))::L) w':=by
 obtain⟨o,i⟩:=exq (B++([p.last]++PBits.bitsOf 1 2));have C:o.length=B.length+3:=by rw [<- i]; simp [PBits.bitsOf_length]
 have q:=Xo g gw 1 dv p B H hb (by decide) (by omega);rw [i] at q;rw [<- List.append_assoc,i];have D:=hid q;have E:=hid hb;have r:=hid hok;have s:=hid PI.fixed_sum;have u:=hid PI.fixed_sumD;clear hb hok H q;go_enter Tryz.func107,Tryz.ntmps107
 go_wp2_with fail
 refine D.out.mono ?_;rintro _ U ⟨rfl,F⟩;have G:=hid F;clear D F i;go_wp2_with fail
 refine Zb (L:=L) [some (.pointer (some ⟨gw,0,none⟩)),some (.pointer (some ⟨g,0,none⟩)),some (.pointer (some ⟨g,0,none⟩)),some (.pointer (some ⟨g,2,none⟩)),some (.slice dv.w p.W.length dv.wc),none,some (.tuple #[])] (fun ix vx=>match ix with | 5=>(fun vv=>vv=.agg #[agF vv 0,agF vv 1]) vx | _=>True) (fun ix vx=>match ix with | 5=>(fun vv=>[Row 3 1 (agF vv 0) 288 (cellsN PI.fixedL),Row 3 1 (agF vv 1) 32 (cellsN PI.fixedD)]) vx | 6=>(fun _=>[WB gw (o++PD.layW PI.fixedL PI.fixedD p.W)]) vx | _=>[]) (fun ix=>match ix with | 6=>[WB gw o] | _=>[]) 7 14
  [some 7,some 8,some 9,some 10,some 11,some 12,some 13]
  [[],[],[1],[2],[3],[],[0,4,5,5]]
  [[],[],[1],[1,2],[1,2,3],[],[0,1,2,3,4,5]]
  [[],[],[],[],[],[],[5]] [[],[],[],[],[],[],[]] [(0,.pointer (some ⟨g,0,none⟩)),(1,.pointer (some ⟨gw,0,none⟩))]
  (by kernel_rfl) rfl (by decide) (by rfl) (by decide +kernel) rfl rfl (by simp) (G.out) ?hstep ?hend
 case hstep =>
  refine⟨?p0,⟨?p1,⟨?p2,⟨?p3,⟨?p4,⟨?p5,⟨?p6,trivial⟩⟩⟩⟩⟩⟩⟩
  case p0 | p1 | p2 | p3 =>
   intro x wx A d b k f j H K hK;replace hK:=hid hK;clear f j b;repeat (obtain⟨_,k⟩:=k)
   refine so ?_;go_step;exact hK.out _ _ rfl H
  case p4 =>
   intro x wx A d b k f j H K a;have J:=tq f 3;have hK:=hid a;clear a k f b;have c:=(j _ E.out _ _ H).c2;clear j;refine so ?_;go_step;exact hK.out _ _ rfl H
  case p5 =>
   intro x wx A d b k f j H K a;have hK:=hid a;clear a k f j b;refine so ?_;go_wp2_with fail
   refine(YE H).mono ?_;rintro _ M ⟨V,W,rfl,v⟩;exact hK.out _ _ rfl v
  case p6 =>
   intro x wx A d b k f j H K a;have X:=tq f 0;have N:=tq f 4;have l:(x 5)=.agg #[agF (x 5) 0,agF (x 5) 1]:=(f 5 (by decide)).1;have y:=(f 5 (by decide)).2 12 rfl;replace H:Sp w0 (_::(Row 3 1 (agF (x 5) 0) 288 (cellsN PI.fixedL))::(Row 3 1 (agF (x 5) 1) 32 (cellsN PI.fixedD))::d) wx:=H;have hK:=hid a;clear a k f b;obtain⟨Y,m⟩:=exq (agF (x 5) 0);obtain⟨Z,n⟩:=exq (agF (x 5) 1);rw [m,n] at l H;rw [l] at y;clear m n l;obtain⟨O,P,rfl,_,_⟩:=Row.form H 1 rfl;obtain⟨Q,R,rfl,_,_⟩:=Row.form H 2 rfl;have z:=hid (j _ E.out);have S:=hid H;clear j H;refine so ?_;go_wp2_with fail
   refine(XT gw o dv.w O Q p.W.length dv.wc 288 P 32 R p.W PI.fixedL PI.fixedD S.out (fun w0 w h=>(z.out w0 w (h.pick 2 [])).w) (fun w0 w h=>rowRd h 0 rfl) (fun w0 w h=>rowRd h 1 rfl) rfl ZI.symm rfl hWl (by decide) (by decide) fl15 fd15 s.out u.out r.out (by omega)).mono ?_;rintro _ M ⟨rfl,v⟩;exact hK.out _ _ rfl (v.pick 3 [0])
 case hend =>
  intro x wx A I f H;replace H:Sp w0 (_::L) wx:=H;clear f;simp only [putAll,Act.put,List.setIfInBounds_toArray,List.set_cons_succ,List.set_cons_zero,Nat.reduceAdd] at I;subst I;have T:=hid H;clear H G;go_wp2;go_end0;refine⟨rfl,?_⟩;have h:=T.out;first | exact h | (rw [List.append_assoc]; exact h) | (rw [List.append_assoc] at h; exact h)
theorem Tw (g gw:Nat) (dv:DV) (p:BP) (B:List Bool) {TL TF:Option Addr} {cl cf:Nat} (H:Sp w0 (WB gw B::L) w) (hb:Ent L (DBr g dv p)) (hT:Ent L (DTabs TL TF cl cf)) (hA1:257<=p.A.length) (hA2:p.A.length<=286) (hD1:1<=p.D.length) (hD2:p.D.length<=30)
  (hA:∀x ∈ p.A,x<=15) (hD:∀x ∈ p.D,x<=15) (hAs:PH.sum p.A<=32768) (hDs:PH.sum p.D<=32768) (hF:p.F.length=19) (hF7:∀x ∈ p.F,x<=7) (hFs:PH.sum p.F<=32768)
  (hokR:∀t ∈ p.R,PD.WdOk p.F [] t) (hokW:∀t ∈ p.W,PD.WdOk p.A p.D t) (hRl:p.R.length<=1000) (hWl:p.W.length<=2000000) (hB:B.length<=800000000) :
  Calls Tryz.prog 108 #[.pointer (some ⟨g,0,none⟩),.pointer (some ⟨gw,0,none⟩)] w fun e w'=>e=.returned (.tuple #[]) /\
   Sp w0 (WB gw (B++([p.last]++PBits.bitsOf 2 2++(PBits.bitsOf (p.A.length - 257) 5++(PBits.bitsOf (p.D.length - 1) 5++(PBits.bitsOf (PD.told p.F - 4) 4++(PI.firstsW p.F (PI.orderT.take (PD.told p.F))++PD.layW p.F [] p.R)))++PD.layW p.A p.D p.W)))::L) w':=by
 obtain⟨B1,q⟩:=exq (B++([p.last]++PBits.bitsOf 2 2));have b8:B1.length=B.length+3:=by rw [<- q]; simp [PBits.bitsOf_length]
 have hh:=Xo g gw 2 dv p B H hb (by decide) (by omega);rw [q] at hh;obtain⟨na,r⟩:=exq p.A.length;obtain⟨nd,s⟩:=exq p.D.length;obtain⟨M,N⟩:=exq (na - 257);obtain⟨O,P⟩:=exq (nd - 1);obtain⟨m,hm⟩:=exq (PD.told p.F);obtain⟨Q,R⟩:=exq (m - 4);have b9:4<=m/\m<=19:=by rw [<- hm]; exact PD.told_ok p.F
 rw [r] at hA1 hA2;rw [s] at hD1 hD2;have y1:(na:Int) - 257=(M:Int):=by omega
 have y2:(nd:Int) - 1=(O:Int):=by omega
 have y3:(m:Int) - 4=(Q:Int):=by omega
 have z1:M<2 ^ 5:=by omega
 have z2:O<2 ^ 5:=by omega
 have z3:Q<2 ^ 4:=by omega
 have G:=hid (show M<2 ^ 5/\O<2 ^ 5/\Q<2 ^ 4 from⟨z1,z2,z3⟩);rw [r,s,hm,N,P,R,<- List.append_assoc B,q];have HH:=hid hh;have n:=hid hb;have HT:=hid hT;have HA:=hid hA;have HD:=hid hD;have a5:=hid hAs;have a6:=hid hDs;have S:=hid hF;have I:=hid hF7;have a8:=hid hFs;have C:=hid hokR;have T:=hid hokW;have U:=hid r;have V:=hid s;have HM:=hid hm;have y4:(m:Int)<=19:=by omega
 clear hb hT hA hD hAs hDs hF hF7 hFs hokR hokW H hh q r s hm N P R z1 z2 z3;go_enter Tryz.func108,Tryz.ntmps108
 go_wp2_with fail
 refine HH.out.mono ?_;rintro _ w1 ⟨rfl,H1⟩;clear HH;go_wp2_with fail
 refine(Xq g dv p H1 (fun w0 w h=>n.out w0 w h.tail) (fun w0 w h=>HT.out w0 w h.tail) S.out).mono ?_;rintro _ w2 ⟨rfl,H2⟩;rw [HM.out];have c4:=(n.out _ _ H2.tail).c4;rw [U.out] at c4;have W:=hid H2;clear H1 H2;go_wp2_with fail
 refine(Yg gw B1 M 5 W.out (by decide) G.out.1 (by omega)).mono ?_;rintro _ w3 ⟨rfl,H3⟩;have c5:=(n.out _ _ H3.tail).c5;rw [V.out] at c5;have X:=hid H3;clear W H3 c4;go_wp2_with fail
 refine(Yg gw _ O 5 X.out (by decide) G.out.2.1 (by simp only [List.length_append,PBits.bitsOf_length]; omega)).mono ?_;rintro _ w4 ⟨rfl,H4⟩;have Y:=hid H4;clear X H4 c5;go_wp2_with fail
 refine(Yg gw _ Q 4 Y.out (by decide) G.out.2.2 (by simp only [List.length_append,PBits.bitsOf_length]; omega)).mono ?_;rintro _ w5 ⟨rfl,H5⟩;obtain⟨B2,u⟩:=exq (B1++PBits.bitsOf M 5++PBits.bitsOf O 5++PBits.bitsOf Q 4);have c1:B2.length=B1.length+14:=by rw [<- u]; simp only [List.length_append,PBits.bitsOf_length]
 rw [u] at H5;have a9:=hid u;have Z:=hid H5;clear Y H5 u;go_wp2_with fail
 go_loopw [40] (fun iv wr=>∃i:Nat,iv=.int .i64 i/\i<=m/\Sp w0 (WB gw (B2++PI.firstsW p.F (PI.orderT.take i))::L) wr) (fun iv _=>m - (intOf iv).toNat)
 case atStart=>exact⟨0,rfl,Nat.zero_le _,by rw [List.take_zero]; show Sp w0 (WB gw (B2++[])::L) _; rw [List.append_nil]; exact Z.out⟩
 case round =>
  obtain⟨i,rfl,b0,E⟩:=hrel;clear Z;have b1:(PI.firstsW p.F (PI.orderT.take i)).length<=57:=by
   unfold PI.firstsW;rw [List.length_flatMap];simp only [PBits.bitsOf_length,List.map_const',List.sum_replicate_nat,List.length_take];show min i 19 * 3<=57;omega
  by_cases b2:i<m
  ·have k1:(i:Int)<(m:Int):=by omega
   have k2:(i:Int)<19:=by omega
   have o1:=(HT.out _ _ E.tail).order i (by omega);have c7:=(n.out _ _ E.tail).c7;rw [S.out] at c7;obtain⟨z,hz⟩:=exq (PI.orderT.getD i 0);have F:z<19:=by
    have:∀j,j<19->PI.orderT.getD j 0<19:=by decide
    rw [<- hz]; exact this i (by omega)
   have k3:(z:Int)<19:=by omega
   obtain⟨ad,a0,c0⟩:=rdN (n.out _ _ E.tail).f (i:=z) (by rw [S.out]; exact F);obtain⟨x,o⟩:=exq (p.F.getD z 0);have J:x<2 ^ 3:=by
    have a1:z<p.F.length:=by rw [S.out]; exact F
    have h:=I.out _ (List.getElem_mem a1);have a2:=o;rw [List.getD_eq_getElem?_getD,List.getElem?_eq_getElem a1] at a2;rw [show p.F[z]=x from a2] at h;have h8:x<8:=by omega
    exact h8
   have a3:PI.firstsW p.F (PI.orderT.take (i+1))=PI.firstsW p.F (PI.orderT.take i)++PBits.bitsOf x 3:=by
    have a4:i<PI.orderT.length:=by show i<19; omega
    unfold PI.firstsW;rw [List.take_succ_eq_append_getElem a4,List.flatMap_append];rw [List.getD_eq_getElem?_getD,List.getElem?_eq_getElem a4] at hz;rw [show PI.orderT[i]=z from hz,List.flatMap_cons,List.flatMap_nil,List.append_nil,o]
   rw [a0] at c7;rw [o] at c0;rw [hz] at o1;have b3:=hid a3;have b4:=hid J;have HX:=hid E;have c6:x<8:=J;clear a3 o hz a0 E J;go_wp2_with fail
   refine(Yg gw _ x 3 HX.out (by decide) b4.out (by rw [List.length_append]; omega)).mono ?_;rintro _ w7 ⟨rfl,H7⟩;clear HX;go_wp2_with fail
   go_roundw
   case rel=>exact⟨i+1,by go_num,by omega,by rw [b3.out,<- List.append_assoc]; exact H7⟩
   case measure=>first | (simp [intOf]; omega) | simp [intOf]
  ·have k1:¬ (i:Int)<(m:Int):=by omega
   obtain rfl:i=m:=by omega
   obtain⟨B3,v⟩:=exq (B2++PI.firstsW p.F (PI.orderT.take i));have c2:B3.length<=B.length+100:=by rw [<- v,List.length_append]; omega
   rw [v] at E;have b5:=hid v;have HX:=hid E;clear E v b1 b2 b0;go_wp2_with fail
   refine Zb (L:=L) [some (.pointer (some ⟨gw,0,none⟩)),some (.pointer (some ⟨g,0,none⟩)),some (.pointer (some ⟨g,0,none⟩)),some (.pointer (some ⟨g,6,none⟩)),some (.slice dv.r p.R.length dv.rc),some (.pointer (some ⟨g,0,none⟩)),some (.pointer (some ⟨g,0,none⟩)),some (.pointer (some ⟨g,7,none⟩)),some (.slice dv.f p.F.length dv.fc),some (.agg #[.slice dv.f p.F.length dv.fc,.slice none 0 0]),some (.tuple #[])] (fun _ _=>True) (fun ix vx=>match ix with | 10=>(fun _=>[WB gw (B3++PD.layW p.F [] p.R)]) vx | _=>[]) (fun ix=>match ix with | 10=>[WB gw B3] | _=>[]) 11 76
    [some 55,some 56,some 57,some 58,some 59,some 60,some 61,some 62,some 63,some 64,some 65]
    [[],[],[1],[2],[3],[],[5],[6],[7],[8],[0,4,9]]
    [[],[],[1],[1,2],[1,2,3],[],[5],[5,6],[5,6,7],[5,6,7,8],[0,1,2,3,4,5,6,7,8,9]]
    [[],[],[],[],[],[],[],[],[],[],[]] [[],[],[],[],[],[],[],[],[],[],[]] [(0,.pointer (some ⟨g,0,none⟩)),(1,.pointer (some ⟨gw,0,none⟩))]
    (by kernel_rfl) rfl (by decide) (by rfl) (by decide +kernel) rfl rfl (by simp) (HX.out) ?hstep ?hend
   case hstep =>
    refine⟨?p0,⟨?p1,⟨?p2,⟨?p3,⟨?p4,⟨?p5,⟨?p6,⟨?p7,⟨?p8,⟨?p9,⟨?p10,trivial⟩⟩⟩⟩⟩⟩⟩⟩⟩⟩⟩
    case p0 | p1 | p2 | p3 | p5 | p6 | p7 | p9 =>
     intro x wx A d b hF f k H K hK;replace hK:=hid hK;clear f k b;repeat (obtain⟨_,hF⟩:=hF)
     refine so ?_;go_step;exact hK.out _ _ rfl H
    case p4 =>
     intro x wx A d b hF f k H K a;have c8:=tq f 3;have hK:=hid a;clear a hF f b;have c:=(k _ n.out _ _ H).c6;clear k;refine so ?_;go_step;exact hK.out _ _ rfl H
    case p8 =>
     intro x wx A d b hF f k H K a;have c9:=tq f 7;have hK:=hid a;clear a hF f b;have c:=(k _ n.out _ _ H).c7;clear k;refine so ?_;go_step;exact hK.out _ _ rfl H
    case p10 =>
     intro x wx A d b hF f k H K a;have d0:=tq f 0;have d2:=tq f 4;have d3:=tq f 9;replace H:Sp w0 (_::d) wx:=H;have hK:=hid a;clear a hF f b;have l:=hid (k _ n.out);have G:=hid H;clear k H;refine so ?_;go_wp2_with fail
     refine(XT gw B3 dv.r dv.f none p.R.length dv.rc p.F.length dv.fc 0 0 p.R p.F [] G.out (fun w0 w h=>(l.out w0 w h).r) (fun w0 w h=>(l.out w0 w h).f) (fun w0 w h=>Rd.nil) rfl rfl rfl (by omega) (by rw [S.out]; decide) (by decide) (fun x o=>by have:=I.out x o; omega) (fun x o=>by cases o) a8.out (by decide) C.out (by omega)).mono ?_;rintro _ w9 ⟨rfl,H9⟩;exact hK.out _ _ rfl H9
   case hend =>
    intro x wx A hA f H;replace H:Sp w0 (_::L) wx:=H;clear f;simp only [putAll,Act.put,List.setIfInBounds_toArray,List.set_cons_succ,List.set_cons_zero,Nat.reduceAdd] at hA;subst hA;obtain⟨B4,y⟩:=exq (B3++PD.layW p.F [] p.R);have b6:=Ya (A:=p.F) (D:=[]) (fun x o=>by have:=I.out x o; omega) (fun x o=>by cases o) p.R C.out;have c3:B4.length<=B.length+30000:=by rw [<- y,List.length_append]; omega
    rw [y] at H;have b7:=hid y;have HY:=hid H;clear H HX y b6;go_wp2_with fail
    refine Zb (L:=L) [some (.pointer (some ⟨gw,0,none⟩)),some (.pointer (some ⟨g,0,none⟩)),some (.pointer (some ⟨g,0,none⟩)),some (.pointer (some ⟨g,2,none⟩)),some (.slice dv.w p.W.length dv.wc),some (.pointer (some ⟨g,0,none⟩)),some (.pointer (some ⟨g,0,none⟩)),some (.pointer (some ⟨g,4,none⟩)),some (.agg #[.slice dv.a p.A.length dv.ac,.slice dv.d p.D.length dv.dc]),some (.tuple #[])] (fun _ _=>True) (fun ix vx=>match ix with | 9=>(fun _=>[WB gw (B4++PD.layW p.A p.D p.W)]) vx | _=>[]) (fun ix=>match ix with | 9=>[WB gw B4] | _=>[]) 10 76
     [some 66,some 67,some 68,some 69,some 70,some 71,some 72,some 73,some 74,some 75]
     [[],[],[1],[2],[3],[],[5],[6],[7],[0,4,8]]
     [[],[],[1],[1,2],[1,2,3],[],[5],[5,6],[5,6,7],[0,1,2,3,4,5,6,7,8]]
     [[],[],[],[],[],[],[],[],[],[]] [[],[],[],[],[],[],[],[],[],[]] [(0,.pointer (some ⟨g,0,none⟩)),(1,.pointer (some ⟨gw,0,none⟩))]
     (by kernel_rfl) rfl (by decide) (by rfl) (by decide +kernel) rfl rfl (by simp) (HY.out) ?hstep ?hend
    case hstep =>
     refine⟨?p0,⟨?p1,⟨?p2,⟨?p3,⟨?p4,⟨?p5,⟨?p6,⟨?p7,⟨?p8,⟨?p9,trivial⟩⟩⟩⟩⟩⟩⟩⟩⟩⟩
     case p0 | p1 | p2 | p3 | p5 | p6 | p7 =>
      intro x wx A d b hF f k H K hK;replace hK:=hid hK;clear f k b;repeat (obtain⟨_,hF⟩:=hF)
      refine so ?_;go_step;exact hK.out _ _ rfl H
     case p4 =>
      intro x wx A d b hF f k H K a;have d4:=tq f 3;have hK:=hid a;clear a hF f b;have c:=(k _ n.out _ _ H).c2;clear k;refine so ?_;go_step;exact hK.out _ _ rfl H
     case p8 =>
      intro x wx A d b hF f k H K a;have d5:=tq f 7;have hK:=hid a;clear a hF f b;have c4:=(k _ n.out _ _ H).c4;have c5:=(k _ n.out _ _ H).c5;clear k;refine so ?_;go_step;exact hK.out _ _ rfl H
     case p9 =>
      intro x wx A d b hF f k H K a;have d6:=tq f 0;have d7:=tq f 4;have d8:=tq f 8;replace H:Sp w0 (_::d) wx:=H;have hK:=hid a;clear a hF f b;have l:=hid (k _ n.out);have G:=hid H;clear k H;refine so ?_;go_wp2_with fail
      refine(XT gw B4 dv.w dv.a dv.d p.W.length dv.wc p.A.length dv.ac p.D.length dv.dc p.W p.A p.D G.out (fun w0 w h=>(l.out w0 w h).w) (fun w0 w h=>(l.out w0 w h).a) (fun w0 w h=>(l.out w0 w h).d) rfl rfl rfl hWl (by rw [U.out]; omega) (by rw [V.out]; omega) HA.out HD.out a5.out a6.out T.out (by omega)).mono ?_;rintro _ w9 ⟨rfl,H9⟩;exact hK.out _ _ rfl H9
    case hend =>
     intro x wx A hA f H;replace H:Sp w0 (_::L) wx:=H;clear f;simp only [putAll,Act.put,List.setIfInBounds_toArray,List.set_cons_succ,List.set_cons_zero,Nat.reduceAdd] at hA;subst hA;have HQ:=hid H;clear H HY;go_wp2;go_end0;refine⟨rfl,?_⟩;have h:=HQ.out;rw [<- b7.out,<- b5.out,<- a9.out] at h;simp only [List.append_assoc] at h ⊢;exact h
end Go.Proofs.YtnjpnmpemhldcaaGreatDoor

