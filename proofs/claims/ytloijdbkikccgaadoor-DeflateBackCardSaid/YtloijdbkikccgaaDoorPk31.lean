/- A pack of texts: DefBack DefH. -/
import Derived.Test.YtloijdbkikccgaaDoorPk19
import Derived.Test.YtloijdbkikccgaaDoorPk30
namespace Go.Proofs.YtloijdbkikccgaaDoor
set_option linter.unusedVariables false
set_option linter.unusedSimpArgs false
namespace PD
theorem copy_grow (far n:Nat) (b:List UInt8):PI.copy far n b=PM.grow far n b:=by
 induction n generalizing b with
 | zero=>rfl
 | succ n ih=>rw [PI.copy,PM.grow,ih]
theorem tokO_step (s:PM.St) (b:List UInt8):PI.tokO b (tokOf s)=PM.step s b:=by
 unfold tokOf PM.step
 split
 ·rfl
 ·exact copy_grow _ _ _
theorem toksO_expand (Y:List PM.St) (b:List UInt8):PI.toksO b (toks Y)=PM.expand Y b:=by
 induction Y generalizing b with
 | nil=>rfl
 | cons s l ih =>
  show PI.toksO (PI.tokO b (tokOf s)) (toks l)=PM.expand l (PM.step s b)
  rw [tokO_step,ih]
theorem good_of (Y:List PM.St):∀ out:List UInt8,PM.mays Y out.length→PI.Good out (toks Y):=by
 induction Y with
 | nil=>intro out _; trivial
 | cons s l ih =>
  intro out h
  obtain ⟨h1,h2⟩:=h
  have h3:PI.Good (PM.step s out) (toks l):=ih _ (by rw [PM.step_length]; exact h2)
  show PI.Good out (tokOf s::toks l)
  unfold tokOf
  unfold PM.step at h3
  by_cases e:s.1=0
  ·rw [if_pos e] at h3 ⊢
   exact h3
  ·rw [if_neg e] at h3 ⊢
   rw [← copy_grow] at h3
   rcases h1 with h1 | h1
   ·exact absurd h1.1 e
   ·exact ⟨⟨h1.1,h1.2.1,h1.2.2.1,h1.2.2.2.1,h1.2.2.2.2.1⟩,h3⟩
theorem grow_pre (far n:Nat):∀ b:List UInt8,∃ r,PM.grow far n b=b++r:=by
 induction n with
 | zero=>intro b; exact ⟨[],by simp [PM.grow]⟩
 | succ n ih =>
  intro b
  obtain ⟨r,h⟩:=ih (b++[b.getD (b.length - far) 0])
  exact ⟨_,by rw [PM.grow,h,List.append_assoc]⟩
theorem expand_pre (Y:List PM.St):∀ b:List UInt8,∃ r,PM.expand Y b=b++r:=by
 induction Y with
 | nil=>intro b; exact ⟨[],by simp [PM.expand]⟩
 | cons s l ih =>
  intro b
  obtain ⟨r,h⟩:=ih (PM.step s b)
  obtain ⟨q,h2⟩:∃ q,PM.step s b=b++q:=by
   unfold PM.step
   split
   ·exact ⟨_,rfl⟩
   ·exact grow_pre _ _ b
  exact ⟨q++r,by rw [PM.expand,h,h2,List.append_assoc]⟩
theorem size_app (a c:List PM.St):PM.size (a++c)=PM.size a+PM.size c:=by
 induction a with
 | nil=>simp [PM.size]
 | cons s l ih=>rw [List.cons_append,PM.size,PM.size,ih,Nat.add_assoc]
theorem mays_app (a c:List PM.St) (n:Nat):PM.mays (a++c) n↔PM.mays a n∧PM.mays c (n+PM.size a):=by
 induction a generalizing n with
 | nil=>simp [PM.mays,PM.size]
 | cons s l ih =>
  show PM.fits s n∧PM.mays (l++c) (n+PM.made s)↔(PM.fits s n∧PM.mays l (n+PM.made s))∧_
  rw [ih,PM.size,Nat.add_assoc]
  exact (and_assoc).symm
theorem take_parts (Y:List PM.St) (i:Nat):Y.take (512 * (i+1))=Y.take (512 * i)++partY Y i:=by
 unfold partY
 rw [show 512 * (i+1)=512 * i+512 by omega,List.take_add]
theorem atB_succ (Y:List PM.St) (i:Nat):atB Y (i+1)=atB Y i+PM.size (partY Y i):=by
 unfold atB
 rw [take_parts,size_app]
theorem expand_take (Y:List PM.St) (k:Nat):PM.expand (Y.take k) []=(PM.expand Y []).take (PM.size (Y.take k)):=by
 obtain ⟨r,h⟩:=expand_pre (Y.drop k) (PM.expand (Y.take k) [])
 have h2:=PM.expand_append (Y.take k) (Y.drop k) []
 rw [List.take_append_drop,h] at h2
 have h3:=PM.expand_length (Y.take k) []
 rw [List.length_nil,Nat.zero_add] at h3
 rw [h2,← h3,List.take_left]
theorem part_out (Y:List PM.St) (i:Nat):(PM.expand Y []).take (atB Y i)++partB Y (PM.expand Y []) i=(PM.expand Y []).take (atB Y (i+1)):=by
 rw [atB_succ,List.take_add]; rfl
theorem part_expand (Y:List PM.St) (i:Nat):PM.expand (partY Y i) ((PM.expand Y []).take (atB Y i))=(PM.expand Y []).take (atB Y i)++partB Y (PM.expand Y []) i:=by
 have h1:=expand_take Y (512 * (i+1))
 rw [take_parts,PM.expand_append,expand_take Y (512 * i),← take_parts] at h1
 rw [part_out]
 exact h1
theorem part_good (Y:List PM.St) (hY:PM.mays Y 0) (i:Nat):PI.Good ((PM.expand Y []).take (atB Y i)) (toks (partY Y i)):=by
 have hl:=PM.expand_length Y []
 have h1:PM.mays (Y.take (512 * i)++(partY Y i++Y.drop (512 * (i+1)))) 0:=by
  rw [← List.append_assoc,← take_parts,List.take_append_drop]; exact hY
 have h2:=((mays_app _ _ _).1 ((mays_app _ _ _).1 h1).2).1
 have h3:atB Y i≤PM.size Y:=by
  have:=size_app (Y.take (512 * i)) (Y.drop (512 * i))
  rw [List.take_append_drop] at this
  unfold atB; omega
 refine good_of _ _ ?_
 rw [List.length_take,hl,List.length_nil,Nat.zero_add,Nat.min_eq_left h3]
 rw [Nat.zero_add] at h2
 exact h2
/-! Which kind. -/
theorem pick_lt (s:Int) (f d:Nat):pick s f d<3:=by
 unfold pick
 split
 ·split
  ·split <;> omega
  ·split <;> omega
 ·split <;> omega
theorem pick_sto {s:Int} {f d:Nat} (h:pick s f d=0):0≤s:=by
 unfold pick at h
 split at h
 ·assumption
 ·split at h <;> omega
theorem kind_sto {Y:List PM.St} {b:List UInt8} {a:Nat} (h:kind Y b a=0):b.length≤65535:=by
 have:=pick_sto h
 unfold sto at this
 split at this
 ·assumption
 ·omega
/-! The lengths of a part's own books. -/
theorem lenA_ok (Y:List PM.St):PI.book (lenA Y)=true∧257≤(lenA Y).length∧(lenA Y).length≤286∧(∀ x ∈ lenA Y,x≤15)∧(∀ s ∈ PI.symsOf (toks Y),s<286→PI.Has (lenA Y) s):=by
 obtain ⟨a1,a2,a3,a4,a5⟩:=PI.lens_fits 286 15 (PI.symsOf (toks Y)) (by decide) (by decide) (by decide) (by decide)
 have e1:PI.lensA (toks Y)=PL.lens (PI.cnts 286 (PI.symsOf (toks Y))) 15:=rfl
 rw [← e1] at a1 a2 a3 a4
 have h1:=used_le (PI.lensA (toks Y)) 257 (PI.lensA (toks Y)).length
 have h2:=used_least (PI.lensA (toks Y)) 257 (PI.lensA (toks Y)).length (by rw [a2]; decide)
 refine ⟨cut_book _ _ a1,?_,?_,fun x hx=>a3 x (cut_mem _ _ x hx),fun s hs h=>cut_has _ _ _ (a4 s hs h)⟩
 ·unfold lenA; rw [cut_len]; exact h2
 ·unfold lenA; rw [cut_len]; omega
theorem lenB_ok (Y:List PM.St):PI.book (lenB Y)=true∧1≤(lenB Y).length∧(lenB Y).length≤30∧(∀ x ∈ lenB Y,x≤15)∧(∀ s ∈ PI.farsOf (toks Y),s<30→PI.Has (lenB Y) s):=by
 obtain ⟨a1,a2,a3,a4,a5⟩:=PI.lens_fits 30 15 (PI.farsOf (toks Y)) (by decide) (by decide) (by decide) (by decide)
 have e1:PI.lensB (toks Y)=PL.lens (PI.cnts 30 (PI.farsOf (toks Y))) 15:=rfl
 rw [← e1] at a1 a2 a3 a4
 have h1:=used_le (PI.lensB (toks Y)) 1 (PI.lensB (toks Y)).length
 have h2:=used_least (PI.lensB (toks Y)) 1 (PI.lensB (toks Y)).length (by rw [a2]; decide)
 refine ⟨cut_book _ _ a1,?_,?_,fun x hx=>a3 x (cut_mem _ _ x hx),fun s hs h=>cut_has _ _ _ (a4 s hs h)⟩
 ·unfold lenB; rw [cut_len]; exact h2
 ·unfold lenB; rw [cut_len]; omega
theorem rowY_15 (Y:List PM.St):∀ x ∈ lenA Y++lenB Y,x≤15:=fun x hx=>by
 rcases List.mem_append.1 hx with h | h
 ·exact (lenA_ok Y).2.2.2.1 x h
 ·exact (lenB_ok Y).2.2.2.1 x h
theorem fst7_ok (Y:List PM.St):PI.book (fst7 Y)=true∧(fst7 Y).length=19∧(∀ x ∈ fst7 Y,x≤7)∧(∀ t ∈ rowY Y,PI.Has (fst7 Y) t.1):=by
 obtain ⟨c1,c2,c3,c4,c5⟩:=PI.lens_fits 19 7 ((rowY Y).map Prod.fst) (by decide) (by decide) (by decide) (by decide)
 exact ⟨c1,c2,c3,fun t ht=>c4 t.1 (List.mem_map_of_mem ht) (rl_small _ _ _ (rowY_15 Y) t ht).1⟩
theorem told_ok (m:List Nat):4≤told m∧told m≤19:=⟨toldN_least m 19 (by decide),toldN_le m 19⟩
theorem row_ok (Y:List PM.St):PI.tellsO [] (rowY Y)=lenA Y++lenB Y∧PI.TellsOk (fst7 Y) [] (rowY Y):=by
 have h:=row_all (m:=fst7 Y) (lenA Y++lenB Y) (rowY_15 Y)
 have er:row (lenA Y++lenB Y)=rowY Y:=by rw [rowY]
 rw [er] at h
 have c4:=(fst7_ok Y).2.2.2
 generalize rowY Y=R at h c4 ⊢
 generalize fst7 Y=F at h c4 ⊢
 exact ⟨h.1,h.2 c4⟩
theorem dyn_read {B:List Bool} {a:Nat} (Y:List PM.St) (h:PI.At B a (PI.headW (fst7 Y) (told (fst7 Y)) (lenA Y).length (lenB Y).length (rowY Y))) :
  PI.dynamic B a=.ok (a+(PI.headW (fst7 Y) (told (fst7 Y)) (lenA Y).length (lenB Y).length (rowY Y)).length,lenA Y,lenB Y):=by
 obtain ⟨a1,a2,a3,a4,a5⟩:=lenA_ok Y
 obtain ⟨b1,b2,b3,b4,b5⟩:=lenB_ok Y
 obtain ⟨c1,c2,c3,c4⟩:=fst7_ok Y
 obtain ⟨d1,d2⟩:=told_ok (fst7 Y)
 have hr:=row_ok Y
 have h9:=(a5 256 (PI.syms_end _) (by decide)).2.1
 have hz:∀ i,i<19→i ∉ PI.orderT.take (told (fst7 Y))→(fst7 Y).getD i 0=0:=fun i hi hn=>told_zero _ i hi hn
 clear a5 b5 c4
 generalize told (fst7 Y)=c at h d1 d2 hz ⊢
 generalize fst7 Y=F at h c1 c2 c3 hr hz ⊢
 generalize rowY Y=R at h hr ⊢
 obtain ⟨r1,r3⟩:=hr
 generalize lenA Y=A at h a1 a2 a3 a4 h9 r1 ⊢
 generalize lenB Y=D at h b1 b2 b3 b4 r1 ⊢
 have h8:∀ x ∈ F,x<8:=fun x hx=>by have:=c3 x hx; omega
 have h256:A.getD 256 0≠0:=by omega
 exact PI.dynamic_at h a2 a3 b2 b3 d1 d2 h8 c2 hz c1 r3 r1 rfl rfl h256 a1 b1
theorem lay_read {B:List Bool} {most a k:Nat} {last:Bool} {out b:List UInt8} {Y:List PM.St} (h:PI.At B a (layD k Y b last a)) (hk:k<3) (hg:PI.Good out (toks Y)) (hb:PM.expand Y out=out++b) (hl:k=0→b.length≤65535) (ho:(out++b).length≤most) :
  PI.block B most a out=.ok (last,k,a+(layD k Y b last a).length,out++b):=by
 unfold layD at h ⊢
 have h1:=h.right
 rw [List.length_append,PBits.bitsOf_length,List.length_singleton,show a+(1+2)=a+3 by omega] at h1
 have hO:PI.toksO out (toks Y)=out++b:=by rw [toksO_expand,hb]
 have key:PI.body B most k (a+3) out=.ok (a+([last]++PBits.bitsOf k 2++bodyD k Y b (a+3)).length,out++b):=by
  have e3:a+([last]++PBits.bitsOf k 2++bodyD k Y b (a+3)).length=a+3+(bodyD k Y b (a+3)).length:=by
   rw [List.length_append,List.length_append,PBits.bitsOf_length,List.length_singleton]; omega
  rw [e3]
  unfold bodyD at h1 ⊢
  by_cases h0:k=0
  ·rw [if_pos h0] at h1 ⊢
   rw [h0]
   have h2:=h1.right
   rw [List.length_replicate] at h2
   unfold pad at h2 ⊢
   rw [show a+3+((a+3+7) / 8 * 8 - (a+3))=(a+3+7) / 8 * 8 by omega] at h2
   rw [PI.stored_at h2 (hl h0) ho,List.length_append,List.length_replicate]
   congr 2
   omega
  ·rw [if_neg h0] at h1 ⊢
   by_cases hk1:k=1
   ·rw [if_pos hk1] at h1 ⊢
    rw [hk1]
    have hok:=hg.has (m:=PI.fixedL) (d:=PI.fixedD) _ _ (fun s _ hs=>PI.fixed_has s (by omega)) (fun s _ hs=>PI.fixed_hasD s (by omega))
    have h4:=PI.toks_len _ _ hok
    have h5:=h1.le
    unfold fixW at h1 h5 ⊢
    rw [PI.fixed_at h1 hok (by rw [hO]; exact ho) (by omega),hO]
   ·rw [if_neg hk1] at h1 ⊢
    obtain rfl:k=2:=by omega
    have hok:=hg.has (m:=lenA Y) (d:=lenB Y) _ _ (lenA_ok Y).2.2.2.2 (lenB_ok Y).2.2.2.2
    have h4:=PI.toks_len _ _ hok
    have h5:=h1.le
    unfold dynW at h1 h5 ⊢
    rw [List.length_append] at h5
    rw [PI.dyn_at h1 (dyn_read Y h1.left) (lenA_ok Y).1 (lenB_ok Y).1 hok (by rw [hO]; exact ho) (by omega),hO]
 exact PI.block_at h.left (by omega) key
theorem stD_more (Y:List PM.St) (b:List UInt8) (i:Nat):∀ k,∃ r,stD Y b (i+k)=stD Y b i++r:=by
 intro k
 induction k with
 | zero=>exact ⟨[],by simp⟩
 | succ k ih =>
  obtain ⟨r,h⟩:=ih
  exact ⟨_,by rw [← Nat.add_assoc,stD,h,List.append_assoc]⟩
theorem stD_len (Y:List PM.St) (b:List UInt8) (i:Nat):3 * i≤(stD Y b i).length:=by
 induction i with
 | zero=>exact Nat.zero_le _
 | succ i ih =>
  rw [stD]
  simp only [List.length_append,partD,layD,PBits.bitsOf_length,List.length_singleton]
  omega
def blksD (Y:List PM.St) (b:List UInt8):List PI.Blk:=(List.range (many Y)).map fun j=>⟨kind (partY Y j) (partB Y b j) (stD Y b j).length,decide (j+1=many Y),atB Y j,atB Y (j+1)⟩
theorem atB_le (Y:List PM.St) (i:Nat):atB Y i≤PM.size Y:=by
 have:=size_app (Y.take (512 * i)) (Y.drop (512 * i))
 rw [List.take_append_drop] at this
 unfold atB; omega
theorem atB_end (Y:List PM.St) (i:Nat) (h:Y.length≤512 * i):atB Y i=PM.size Y:=by
 unfold atB; rw [List.take_of_length_le h]
theorem many_end (Y:List PM.St) (i:Nat) (h:i<many Y):decide (Y.length≤512 * (i+1))=decide (i+1=many Y):=by
 unfold many at h ⊢
 rw [decide_eq_decide]
 omega
theorem stream_at {B:List Bool} {most:Nat} (Y:List PM.St) (hY:PM.mays Y 0) (h:PI.At B 0 (bitsD Y (PM.expand Y []))) (ho:PM.size Y≤most) :
    PI.all B most=.ok ((bitsD Y (PM.expand Y [])).length,PM.expand Y [],blksD Y (PM.expand Y [])):=by
  obtain ⟨b,hb⟩:∃ b,PM.expand Y []=b:=⟨_,rfl⟩
  have hbl:b.length=PM.size Y:=by rw [← hb,PM.expand_length,List.length_nil,Nat.zero_add]
  rw [hb] at h ⊢
  have hm:0<many Y:=by unfold many; omega
  have hlen:=h.le
  have h3:=stD_len Y b (many Y)
  have hb2:=PI.blocks_at (B:=B) (most:=most) (n:=many Y) (fun i=>(stD Y b i).length) (fun i=>kind (partY Y i) (partB Y b i) (stD Y b i).length) (fun i=>b.take (atB Y i)) (fun i hi=>by
    obtain ⟨r,h1⟩:=stD_more Y b (i+1) (many Y - (i+1))
    rw [show i+1+(many Y - (i+1))=many Y by omega] at h1
    unfold bitsD at h
    rw [h1] at h
    have h4:=h.left
    rw [stD] at h4
    have h5:=h4.right
    rw [Nat.zero_add] at h5
    have hp:=part_out Y i
    have he:=part_expand Y i
    have hg:=part_good Y hY i
    rw [hb] at hp he hg
    have h6:=lay_read (most:=most) h5 (pick_lt _ _ _) hg he kind_sto (by rw [hp,List.length_take]; omega)
    rw [hp,many_end Y i hi] at h6
    show PI.block B most (stD Y b i).length (b.take (atB Y i))=_
    rw [h6,stD,List.length_append]
    unfold partD kind
    rw [many_end Y i hi]) (many Y) 0 (B.length+1) [] (by omega) hm (by unfold bitsD at hlen; omega)
  unfold PI.all
  have e0:(fun i=>b.take (atB Y i)) 0=[]:=by
    show b.take (atB Y 0)=[]
    rw [show atB Y 0=0 from rfl,List.take_zero]
  have e1:b.take (atB Y (many Y))=b:=by
    rw [atB_end Y (many Y) (by unfold many; omega),← hbl,List.take_length]
  rw [show PI.blocks B most (B.length+1) 0 [] []=PI.blocks B most (B.length+1) ((fun i=>(stD Y b i).length) 0) [] [] from rfl,← e0,hb2]
  simp only [e1,List.nil_append]
  unfold bitsD blksD
  congr 3
  refine List.map_congr_left fun j hj=>?_
  have hj:=List.mem_range.1 hj
  rw [Nat.zero_add,List.length_take,List.length_take,hbl,Nat.min_eq_left (atB_le Y j),Nat.min_eq_left (atB_le Y (j+1))]
theorem stream_behind (Y:List PM.St) (hY:PM.mays Y 0) (r:List UInt8) (most:Nat) (ho:PM.size Y≤most) :
  PI.all (PBits.ofB (stream Y (PM.expand Y [])++r)) most=.ok ((bitsD Y (PM.expand Y [])).length,PM.expand Y [],blksD Y (PM.expand Y [])):=by
 refine stream_at Y hY ?_ ho
 unfold stream
 rw [PI.PBits.ofB_append,PI.ofB_pack,List.append_assoc]
 have:=PI.At.mid [] (bitsD Y (PM.expand Y [])) (List.replicate (((bitsD Y (PM.expand Y [])).length+7) / 8 * 8 - (bitsD Y (PM.expand Y [])).length) false++PBits.ofB r)
 rw [List.nil_append] at this
 exact this
theorem stream_len (Y:List PM.St) (b:List UInt8):(stream Y b).length=((bitsD Y b).length+7) / 8:=PI.packB_len _
end PD
set_option linter.unusedVariables false
set_option linter.unusedSimpArgs false
open Go.RowKit
def agF:Value→Nat→Value
 | .agg a,i=>a.getD i undef
 | _,_=>undef
def BP.of (Y:List PM.St) (b:List UInt8) (last:Bool):BP:=⟨b,PD.words Y,last,PD.lenA Y,PD.lenB Y,(PD.rowY Y).map PD.rwd,PD.fst7 Y⟩
theorem fl15:∀ x ∈ PI.fixedL,x≤15:=by decide +kernel
theorem fd15:∀ x ∈ PI.fixedD,x≤15:=by decide +kernel
set_option maxRecDepth 100000 in
set_option maxHeartbeats 4000000 in
theorem dfixedB_ok (g gw:Nat) (dv:DV) (p:BP) (B:List Bool) {w0 w:World} {L:List Pr} (H:Sp w0 (WB gw B::L) w) (hb:Ent L (DBr g dv p)) (hok:∀ t ∈ p.W,PD.WdOk PI.fixedL PI.fixedD t) (hWl:p.W.length≤2000000) (hB:B.length≤800000000) :
  Calls Tryd.prog 81 #[.pointer (some ⟨g,0,none⟩),.pointer (some ⟨gw,0,none⟩)] w fun e w'=>e=.returned (.tuple #[])∧Sp w0 (WB gw (B++([p.last]++PBits.bitsOf 1 2++PD.layW PI.fixedL PI.fixedD p.W))::L) w':=by
 obtain ⟨B1,hB1⟩:∃ B1,B++([p.last]++PBits.bitsOf 1 2)=B1:=⟨_,rfl⟩
 have hB1l:B1.length=B.length+3:=by rw [← hB1]; simp [PBits.bitsOf_length]
 have hh:=dhead_ok g gw 1 dv p B H hb (by decide) (by omega)
 rw [hB1] at hh
 rw [← List.append_assoc,hB1]
 have HH:=Lib.hid hh
 have HB:=Lib.hid hb
 have HOK:=Lib.hid hok
 have HF1:=Lib.hid PI.fixed_sum
 have HF2:=Lib.hid PI.fixed_sumD
 clear hb hok H hh
 go_enter Tryd.func81,Tryd.ntmps81
 go_wp2_with fail
 refine HH.out.mono ?_
 rintro _ w1 ⟨rfl,H1⟩
 have HX:=Lib.hid H1
 clear HH H1 hB1
 go_wp2_with fail
 refine wp_region_sc (L:=L) [some (.pointer (some ⟨gw,0,none⟩)),some (.pointer (some ⟨g,0,none⟩)),some (.pointer (some ⟨g,0,none⟩)),some (.pointer (some ⟨g,2,none⟩)),some (.slice dv.w p.W.length dv.wc),none,some (.tuple #[])] (fun ix vx=>match ix with | 5=>(fun vv=>vv=.agg #[agF vv 0,agF vv 1]) vx | _=>True) (fun ix vx=>match ix with | 5=>(fun vv=>[Row 3 1 (agF vv 0) 288 (cellsN PI.fixedL),Row 3 1 (agF vv 1) 32 (cellsN PI.fixedD)]) vx | 6=>(fun _=>[WB gw (B1++PD.layW PI.fixedL PI.fixedD p.W)]) vx | _=>[]) (fun ix=>match ix with | 6=>[WB gw B1] | _=>[]) 7 14
  [some 7,some 8,some 9,some 10,some 11,some 12,some 13]
  [[],[],[1],[2],[3],[],[0,4,5,5]]
  [[],[],[1],[1,2],[1,2,3],[],[0,1,2,3,4,5]]
  [[],[],[],[],[],[],[5]] [[],[],[],[],[],[],[]] [(0,.pointer (some ⟨g,0,none⟩)),(1,.pointer (some ⟨gw,0,none⟩))]
  (by kernel_rfl) rfl (by decide) (by rfl) (by decide +kernel) rfl rfl (by simp) (HX.out) ?hstep ?hend
 case hstep =>
  refine ⟨?p0,⟨?p1,⟨?p2,⟨?p3,⟨?p4,⟨?p5,⟨?p6,trivial⟩⟩⟩⟩⟩⟩⟩
  case p0 | p1 | p2 | p3 =>
   intro x wx A rest hDf hF hS hE H K hK
   replace hK:=Lib.hid hK
   clear hS hE hDf
   repeat (obtain ⟨_,hF⟩:=hF)
   change Oper.wp _ _ A wx K _
   go_step
   exact hK.out _ _ rfl H
  case p4 =>
   intro x wx A rest hDf hF hS hE H K hK0
   replace hDf:=Lib.hid hDf
   have e10:A.tmps[10]?.getD undef=.pointer (some ⟨g,2,none⟩):=((hS 3 (by decide)).2 10 rfl).trans (hS 3 (by decide)).1
   replace H:Sp w0 (rest) wx:=H
   have hK:Hid (∀ (v:Value) (w' : World),v=.slice dv.w p.W.length dv.wc→Sp w0 (rest) w'→K (A.put (some 11) v) w'):=Lib.hid hK0
   clear hK0 hF hS
   have c:=(hE _ HB.out _ _ H).c2
   clear hE
   change Oper.wp _ _ A wx K _
   go_step
   exact hK.out _ _ rfl (H)
  case p5 =>
   intro x wx A rest hDf hF hS hE H K hK0
   replace hDf:=Lib.hid hDf
   replace H:Sp w0 (rest) wx:=H
   have hK:Hid (∀ (v:Value) (w' : World),v=.agg #[agF v 0,agF v 1]→Sp w0 ((Row 3 1 (agF v 0) 288 (cellsN PI.fixedL))::(Row 3 1 (agF v 1) 32 (cellsN PI.fixedD))::rest) w'→K (A.put (some 12) v) w'):=Lib.hid hK0
   clear hK0 hF hS hE
   change Oper.wp _ _ A wx K _
   go_wp2_with fail
   refine (dfixed_ok H).mono ?_
   rintro _ w9 ⟨v0,v1,rfl,H9⟩
   exact hK.out _ _ rfl H9
  case p6 =>
   intro x wx A rest hDf hF hS hE H K hK0
   replace hDf:=Lib.hid hDf
   have e7:A.tmps[7]?.getD undef=.pointer (some ⟨gw,0,none⟩):=((hS 0 (by decide)).2 7 rfl).trans (hS 0 (by decide)).1
   have e11:A.tmps[11]?.getD undef=.slice dv.w p.W.length dv.wc:=((hS 4 (by decide)).2 11 rfl).trans (hS 4 (by decide)).1
   have q12:(x 5)=.agg #[agF (x 5) 0,agF (x 5) 1]:=(hS 5 (by decide)).1
   have e12:A.tmps[12]?.getD undef=x 5:=(hS 5 (by decide)).2 12 rfl
   replace H:Sp w0 ((WB gw B1)::(Row 3 1 (agF (x 5) 0) 288 (cellsN PI.fixedL))::(Row 3 1 (agF (x 5) 1) 32 (cellsN PI.fixedD))::rest) wx:=H
   have hK:Hid (∀ (v:Value) (w' : World),v=.tuple #[]→Sp w0 ((WB gw (B1++PD.layW PI.fixedL PI.fixedD p.W))::rest) w'→K (A.put (some 13) v) w'):=Lib.hid hK0
   clear hK0 hF hS
   obtain ⟨r0,hr0⟩:∃ r,agF (x 5) 0=r:=⟨_,rfl⟩
   obtain ⟨r1,hr1⟩:∃ r,agF (x 5) 1=r:=⟨_,rfl⟩
   rw [hr0,hr1] at q12 H
   rw [q12] at e12
   clear hr0 hr1 q12
   obtain ⟨A0,c0,rfl,_,_⟩:=Row.form H 1 rfl
   obtain ⟨A1,c1,rfl,_,_⟩:=Row.form H 2 rfl
   have hbr:=Lib.hid (hE _ HB.out)
   have HZ:=Lib.hid H
   clear hE H
   change Oper.wp _ _ A wx K _
   go_wp2_with fail
   refine (dlay_ok gw B1 dv.w A0 A1 p.W.length dv.wc 288 c0 32 c1 p.W PI.fixedL PI.fixedD HZ.out (fun w0 w h=>(hbr.out w0 w (h.pick 2 [])).w) (fun w0 w h=>rowRd h 0 rfl) (fun w0 w h=>rowRd h 1 rfl) rfl dfixedL_len.symm rfl hWl (by decide) (by decide) fl15 fd15 HF1.out HF2.out HOK.out (by omega)).mono ?_
   rintro _ w9 ⟨rfl,H9⟩
   exact hK.out _ _ rfl (H9.pick 3 [0])
 case hend =>
  intro x wx A hA hS H
  replace H:Sp w0 ((WB gw (B1++PD.layW PI.fixedL PI.fixedD p.W))::L) wx:=H
  clear hS
  simp only [putAll,Act.put,List.setIfInBounds_toArray,List.set_cons_succ,List.set_cons_zero,Nat.reduceAdd] at hA
  subst hA
  have HY:=Lib.hid H
  clear H HX
  go_wp2
  go_end0
  refine ⟨rfl,?_⟩
  have h:=HY.out
  first | exact h | (rw [List.append_assoc]; exact h) | (rw [List.append_assoc] at h; exact h)
set_option maxRecDepth 100000 in
set_option maxHeartbeats 4000000 in
theorem ddyn_ok (g gw:Nat) (dv:DV) (p:BP) (B:List Bool) {TL TF:Option Addr} {cl cf:Nat} {w0 w:World} {L:List Pr} (H:Sp w0 (WB gw B::L) w) (hb:Ent L (DBr g dv p)) (hT:Ent L (DTabs TL TF cl cf)) (hA1:257≤p.A.length) (hA2:p.A.length≤286) (hD1:1≤p.D.length) (hD2:p.D.length≤30)
  (hA:∀ x ∈ p.A,x≤15) (hD:∀ x ∈ p.D,x≤15) (hAs:PH.sum p.A≤32768) (hDs:PH.sum p.D≤32768) (hF:p.F.length=19) (hF7:∀ x ∈ p.F,x≤7) (hFs:PH.sum p.F≤32768)
  (hokR:∀ t ∈ p.R,PD.WdOk p.F [] t) (hokW:∀ t ∈ p.W,PD.WdOk p.A p.D t) (hRl:p.R.length≤1000) (hWl:p.W.length≤2000000) (hB:B.length≤800000000) :
  Calls Tryd.prog 82 #[.pointer (some ⟨g,0,none⟩),.pointer (some ⟨gw,0,none⟩)] w fun e w'=>e=.returned (.tuple #[]) ∧
   Sp w0 (WB gw (B++([p.last]++PBits.bitsOf 2 2++(PBits.bitsOf (p.A.length - 257) 5++(PBits.bitsOf (p.D.length - 1) 5++(PBits.bitsOf (PD.told p.F - 4) 4++(PI.firstsW p.F (PI.orderT.take (PD.told p.F))++PD.layW p.F [] p.R)))++PD.layW p.A p.D p.W)))::L) w':=by
 obtain ⟨B1,hB1⟩:∃ B1,B++([p.last]++PBits.bitsOf 2 2)=B1:=⟨_,rfl⟩
 have hB1l:B1.length=B.length+3:=by rw [← hB1]; simp [PBits.bitsOf_length]
 have hh:=dhead_ok g gw 2 dv p B H hb (by decide) (by omega)
 rw [hB1] at hh
 obtain ⟨na,hna⟩:∃ na,p.A.length=na:=⟨_,rfl⟩
 obtain ⟨nd,hnd⟩:∃ nd,p.D.length=nd:=⟨_,rfl⟩
 obtain ⟨a7,ha7⟩:∃ a7,na - 257=a7:=⟨_,rfl⟩
 obtain ⟨d1,hd1⟩:∃ d1,nd - 1=d1:=⟨_,rfl⟩
 obtain ⟨m,hm⟩:∃ m,PD.told p.F=m:=⟨_,rfl⟩
 obtain ⟨m4,hm4⟩:∃ m4,m - 4=m4:=⟨_,rfl⟩
 have hm19:4≤m∧m≤19:=by rw [← hm]; exact PD.told_ok p.F
 rw [hna] at hA1 hA2
 rw [hnd] at hD1 hD2
 have y1:(na:Int) - 257=(a7:Int):=by omega
 have y2:(nd:Int) - 1=(d1:Int):=by omega
 have y3:(m:Int) - 4=(m4:Int):=by omega
 have z1:a7<2 ^ 5:=by omega
 have z2:d1<2 ^ 5:=by omega
 have z3:m4<2 ^ 4:=by omega
 have HZ:=Lib.hid (show a7<2 ^ 5∧d1<2 ^ 5∧m4<2 ^ 4 from ⟨z1,z2,z3⟩)
 rw [hna,hnd,hm,ha7,hd1,hm4,← List.append_assoc B,hB1]
 have HH:=Lib.hid hh
 have HB:=Lib.hid hb
 have HT:=Lib.hid hT
 have HA:=Lib.hid hA
 have HD:=Lib.hid hD
 have HAS:=Lib.hid hAs
 have HDS:=Lib.hid hDs
 have HF:=Lib.hid hF
 have HF7:=Lib.hid hF7
 have HFS:=Lib.hid hFs
 have HOKR:=Lib.hid hokR
 have HOKW:=Lib.hid hokW
 have HNA:=Lib.hid hna
 have HND:=Lib.hid hnd
 have HM:=Lib.hid hm
 have y4:(m:Int)≤19:=by omega
 clear hb hT hA hD hAs hDs hF hF7 hFs hokR hokW H hh hB1 hna hnd hm ha7 hd1 hm4 z1 z2 z3
 go_enter Tryd.func82,Tryd.ntmps82
 go_wp2_with fail
 refine HH.out.mono ?_
 rintro _ w1 ⟨rfl,H1⟩
 clear HH
 go_wp2_with fail
 refine (dtold_ok g dv p H1 (fun w0 w h=>HB.out w0 w h.tail) (fun w0 w h=>HT.out w0 w h.tail) HF.out).mono ?_
 rintro _ w2 ⟨rfl,H2⟩
 rw [HM.out]
 have c4:=(HB.out _ _ H2.tail).c4
 rw [HNA.out] at c4
 have HX2:=Lib.hid H2
 clear H1 H2
 go_wp2_with fail
 refine (wb_put gw B1 a7 5 HX2.out (by decide) HZ.out.1 (by omega)).mono ?_
 rintro _ w3 ⟨rfl,H3⟩
 have c5:=(HB.out _ _ H3.tail).c5
 rw [HND.out] at c5
 have HX3:=Lib.hid H3
 clear HX2 H3 c4
 go_wp2_with fail
 refine (wb_put gw _ d1 5 HX3.out (by decide) HZ.out.2.1 (by simp only [List.length_append,PBits.bitsOf_length]; omega)).mono ?_
 rintro _ w4 ⟨rfl,H4⟩
 have HX4:=Lib.hid H4
 clear HX3 H4 c5
 go_wp2_with fail
 refine (wb_put gw _ m4 4 HX4.out (by decide) HZ.out.2.2 (by simp only [List.length_append,PBits.bitsOf_length]; omega)).mono ?_
 rintro _ w5 ⟨rfl,H5⟩
 obtain ⟨B2,hB2⟩:∃ B2,B1++PBits.bitsOf a7 5++PBits.bitsOf d1 5++PBits.bitsOf m4 4=B2:=⟨_,rfl⟩
 have hB2l:B2.length=B1.length+14:=by rw [← hB2]; simp only [List.length_append,PBits.bitsOf_length]
 rw [hB2] at H5
 have HB2:=Lib.hid hB2
 have HX5:=Lib.hid H5
 clear HX4 H5 hB2
 go_wp2_with fail
 go_loopw [40] (fun iv wr=>∃ i:Nat,iv=.int .i64 (i:Int)∧i≤m∧Sp w0 (WB gw (B2++PI.firstsW p.F (PI.orderT.take i))::L) wr) (fun iv _=>m - (intOf iv).toNat)
 case atStart=>exact ⟨0,rfl,Nat.zero_le _,by rw [List.take_zero]; show Sp w0 (WB gw (B2++[])::L) _; rw [List.append_nil]; exact HX5.out⟩
 case round =>
  obtain ⟨i,rfl,him,H6⟩:=hrel
  clear HX5
  have hfl:(PI.firstsW p.F (PI.orderT.take i)).length≤57:=by
   unfold PI.firstsW
   rw [List.length_flatMap]
   simp only [PBits.bitsOf_length,List.map_const',List.sum_replicate_nat,List.length_take]
   show min i 19 * 3≤57
   omega
  by_cases hlt:i<m
  ·have k1:(i:Int)<(m:Int):=by omega
   have k2:(i:Int)<19:=by omega
   have o1:=(HT.out _ _ H6.tail).order i (by omega)
   have c7:=(HB.out _ _ H6.tail).c7
   rw [HF.out] at c7
   obtain ⟨z,hz⟩:∃ z,PI.orderT.getD i 0=z:=⟨_,rfl⟩
   have hz19:z<19:=by
    have:∀ j,j<19→PI.orderT.getD j 0<19:=by decide
    rw [← hz]; exact this i (by omega)
   have k3:(z:Int)<19:=by omega
   obtain ⟨ad,hva,c0⟩:=rdN (HB.out _ _ H6.tail).f (i:=z) (by rw [HF.out]; exact hz19)
   obtain ⟨x,hx⟩:∃ x,p.F.getD z 0=x:=⟨_,rfl⟩
   have hx7:x<2 ^ 3:=by
    have hzl:z<p.F.length:=by rw [HF.out]; exact hz19
    have h:=HF7.out _ (List.getElem_mem hzl)
    have hx2:=hx
    rw [List.getD_eq_getElem?_getD,List.getElem?_eq_getElem hzl] at hx2
    rw [show p.F[z]=x from hx2] at h
    have h8:x<8:=by omega
    exact h8
   have hnx:PI.firstsW p.F (PI.orderT.take (i+1))=PI.firstsW p.F (PI.orderT.take i)++PBits.bitsOf x 3:=by
    have hil:i<PI.orderT.length:=by show i<19; omega
    unfold PI.firstsW
    rw [List.take_succ_eq_append_getElem hil,List.flatMap_append]
    rw [List.getD_eq_getElem?_getD,List.getElem?_eq_getElem hil] at hz
    rw [show PI.orderT[i]=z from hz,List.flatMap_cons,List.flatMap_nil,List.append_nil,hx]
   rw [hva] at c7
   rw [hx] at c0
   rw [hz] at o1
   have HNX:=Lib.hid hnx
   have HX7:=Lib.hid hx7
   have HX:=Lib.hid H6
   have hx8:x<8:=hx7
   clear hnx hx hz hva H6 hx7
   go_wp2_with fail
   refine (wb_put gw _ x 3 HX.out (by decide) HX7.out (by rw [List.length_append]; omega)).mono ?_
   rintro _ w7 ⟨rfl,H7⟩
   clear HX
   go_wp2_with fail
   go_roundw
   case rel=>exact ⟨i+1,by go_num,by omega,by rw [HNX.out,← List.append_assoc]; exact H7⟩
   case measure=>first | (simp [intOf]; omega) | simp [intOf]
  ·have k1:¬ (i:Int)<(m:Int):=by omega
   obtain rfl:i=m:=by omega
   obtain ⟨B3,hB3⟩:∃ B3,B2++PI.firstsW p.F (PI.orderT.take i)=B3:=⟨_,rfl⟩
   have hB3l:B3.length≤B.length+100:=by rw [← hB3,List.length_append]; omega
   rw [hB3] at H6
   have HB3:=Lib.hid hB3
   have HX:=Lib.hid H6
   clear H6 hB3 hfl hlt him
   go_wp2_with fail
   refine wp_region_sc (L:=L) [some (.pointer (some ⟨gw,0,none⟩)),some (.pointer (some ⟨g,0,none⟩)),some (.pointer (some ⟨g,0,none⟩)),some (.pointer (some ⟨g,6,none⟩)),some (.slice dv.r p.R.length dv.rc),some (.pointer (some ⟨g,0,none⟩)),some (.pointer (some ⟨g,0,none⟩)),some (.pointer (some ⟨g,7,none⟩)),some (.slice dv.f p.F.length dv.fc),some (.agg #[.slice dv.f p.F.length dv.fc,.slice none 0 0]),some (.tuple #[])] (fun _ _=>True) (fun ix vx=>match ix with | 10=>(fun _=>[WB gw (B3++PD.layW p.F [] p.R)]) vx | _=>[]) (fun ix=>match ix with | 10=>[WB gw B3] | _=>[]) 11 76
    [some 55,some 56,some 57,some 58,some 59,some 60,some 61,some 62,some 63,some 64,some 65]
    [[],[],[1],[2],[3],[],[5],[6],[7],[8],[0,4,9]]
    [[],[],[1],[1,2],[1,2,3],[],[5],[5,6],[5,6,7],[5,6,7,8],[0,1,2,3,4,5,6,7,8,9]]
    [[],[],[],[],[],[],[],[],[],[],[]] [[],[],[],[],[],[],[],[],[],[],[]] [(0,.pointer (some ⟨g,0,none⟩)),(1,.pointer (some ⟨gw,0,none⟩))]
    (by kernel_rfl) rfl (by decide) (by rfl) (by decide +kernel) rfl rfl (by simp) (HX.out) ?hstep ?hend
   case hstep =>
    refine ⟨?p0,⟨?p1,⟨?p2,⟨?p3,⟨?p4,⟨?p5,⟨?p6,⟨?p7,⟨?p8,⟨?p9,⟨?p10,trivial⟩⟩⟩⟩⟩⟩⟩⟩⟩⟩⟩
    case p0 | p1 | p2 | p3 | p5 | p6 | p7 | p9 =>
     intro x wx A rest hDf hF hS hE H K hK
     replace hK:=Lib.hid hK
     clear hS hE hDf
     repeat (obtain ⟨_,hF⟩:=hF)
     change Oper.wp _ _ A wx K _
     go_step
     exact hK.out _ _ rfl H
    case p4 =>
     intro x wx A rest hDf hF hS hE H K hK0
     replace hDf:=Lib.hid hDf
     have e58:A.tmps[58]?.getD undef=.pointer (some ⟨g,6,none⟩):=((hS 3 (by decide)).2 58 rfl).trans (hS 3 (by decide)).1
     replace H:Sp w0 (rest) wx:=H
     have hK:Hid (∀ (v:Value) (w' : World),v=.slice dv.r p.R.length dv.rc→Sp w0 (rest) w'→K (A.put (some 59) v) w'):=Lib.hid hK0
     clear hK0 hF hS
     have c:=(hE _ HB.out _ _ H).c6
     clear hE
     change Oper.wp _ _ A wx K _
     go_step
     exact hK.out _ _ rfl (H)
    case p8 =>
     intro x wx A rest hDf hF hS hE H K hK0
     replace hDf:=Lib.hid hDf
     have e62:A.tmps[62]?.getD undef=.pointer (some ⟨g,7,none⟩):=((hS 7 (by decide)).2 62 rfl).trans (hS 7 (by decide)).1
     replace H:Sp w0 (rest) wx:=H
     have hK:Hid (∀ (v:Value) (w' : World),v=.slice dv.f p.F.length dv.fc→Sp w0 (rest) w'→K (A.put (some 63) v) w'):=Lib.hid hK0
     clear hK0 hF hS
     have c:=(hE _ HB.out _ _ H).c7
     clear hE
     change Oper.wp _ _ A wx K _
     go_step
     exact hK.out _ _ rfl (H)
    case p10 =>
     intro x wx A rest hDf hF hS hE H K hK0
     replace hDf:=Lib.hid hDf
     have e55:A.tmps[55]?.getD undef=.pointer (some ⟨gw,0,none⟩):=((hS 0 (by decide)).2 55 rfl).trans (hS 0 (by decide)).1
     have e59:A.tmps[59]?.getD undef=.slice dv.r p.R.length dv.rc:=((hS 4 (by decide)).2 59 rfl).trans (hS 4 (by decide)).1
     have e64:A.tmps[64]?.getD undef=.agg #[.slice dv.f p.F.length dv.fc,.slice none 0 0]:=((hS 9 (by decide)).2 64 rfl).trans (hS 9 (by decide)).1
     replace H:Sp w0 ((WB gw B3)::rest) wx:=H
     have hK:Hid (∀ (v:Value) (w' : World),v=.tuple #[]→Sp w0 ((WB gw (B3++PD.layW p.F [] p.R))::rest) w'→K (A.put (some 65) v) w'):=Lib.hid hK0
     clear hK0 hF hS
     have hbr:=Lib.hid (hE _ HB.out)
     have HZ:=Lib.hid H
     clear hE H
     change Oper.wp _ _ A wx K _
     go_wp2_with fail
     refine (dlay_ok gw B3 dv.r dv.f none p.R.length dv.rc p.F.length dv.fc 0 0 p.R p.F [] HZ.out (fun w0 w h=>(hbr.out w0 w h).r) (fun w0 w h=>(hbr.out w0 w h).f) (fun w0 w h=>Rd.nil) rfl rfl rfl (by omega) (by rw [HF.out]; decide) (by decide) (fun x hx=>by have:=HF7.out x hx; omega) (fun x hx=>by cases hx) HFS.out (by decide) HOKR.out (by omega)).mono ?_
     rintro _ w9 ⟨rfl,H9⟩
     exact hK.out _ _ rfl H9
   case hend =>
    intro x wx A hA hS H
    replace H:Sp w0 ((WB gw (B3++PD.layW p.F [] p.R))::L) wx:=H
    clear hS
    simp only [putAll,Act.put,List.setIfInBounds_toArray,List.set_cons_succ,List.set_cons_zero,Nat.reduceAdd] at hA
    subst hA
    obtain ⟨B4,hB4⟩:∃ B4,B3++PD.layW p.F [] p.R=B4:=⟨_,rfl⟩
    have hl4:=layW_le (A:=p.F) (D:=[]) (fun x hx=>by have:=HF7.out x hx; omega) (fun x hx=>by cases hx) p.R HOKR.out
    have hB4l:B4.length≤B.length+30000:=by rw [← hB4,List.length_append]; omega
    rw [hB4] at H
    have HB4:=Lib.hid hB4
    have HY:=Lib.hid H
    clear H HX hB4 hl4
    go_wp2_with fail
    refine wp_region_sc (L:=L) [some (.pointer (some ⟨gw,0,none⟩)),some (.pointer (some ⟨g,0,none⟩)),some (.pointer (some ⟨g,0,none⟩)),some (.pointer (some ⟨g,2,none⟩)),some (.slice dv.w p.W.length dv.wc),some (.pointer (some ⟨g,0,none⟩)),some (.pointer (some ⟨g,0,none⟩)),some (.pointer (some ⟨g,4,none⟩)),some (.agg #[.slice dv.a p.A.length dv.ac,.slice dv.d p.D.length dv.dc]),some (.tuple #[])] (fun _ _=>True) (fun ix vx=>match ix with | 9=>(fun _=>[WB gw (B4++PD.layW p.A p.D p.W)]) vx | _=>[]) (fun ix=>match ix with | 9=>[WB gw B4] | _=>[]) 10 76
     [some 66,some 67,some 68,some 69,some 70,some 71,some 72,some 73,some 74,some 75]
     [[],[],[1],[2],[3],[],[5],[6],[7],[0,4,8]]
     [[],[],[1],[1,2],[1,2,3],[],[5],[5,6],[5,6,7],[0,1,2,3,4,5,6,7,8]]
     [[],[],[],[],[],[],[],[],[],[]] [[],[],[],[],[],[],[],[],[],[]] [(0,.pointer (some ⟨g,0,none⟩)),(1,.pointer (some ⟨gw,0,none⟩))]
     (by kernel_rfl) rfl (by decide) (by rfl) (by decide +kernel) rfl rfl (by simp) (HY.out) ?hstep ?hend
    case hstep =>
     refine ⟨?p0,⟨?p1,⟨?p2,⟨?p3,⟨?p4,⟨?p5,⟨?p6,⟨?p7,⟨?p8,⟨?p9,trivial⟩⟩⟩⟩⟩⟩⟩⟩⟩⟩
     case p0 | p1 | p2 | p3 | p5 | p6 | p7 =>
      intro x wx A rest hDf hF hS hE H K hK
      replace hK:=Lib.hid hK
      clear hS hE hDf
      repeat (obtain ⟨_,hF⟩:=hF)
      change Oper.wp _ _ A wx K _
      go_step
      exact hK.out _ _ rfl H
     case p4 =>
      intro x wx A rest hDf hF hS hE H K hK0
      replace hDf:=Lib.hid hDf
      have e69:A.tmps[69]?.getD undef=.pointer (some ⟨g,2,none⟩):=((hS 3 (by decide)).2 69 rfl).trans (hS 3 (by decide)).1
      replace H:Sp w0 (rest) wx:=H
      have hK:Hid (∀ (v:Value) (w' : World),v=.slice dv.w p.W.length dv.wc→Sp w0 (rest) w'→K (A.put (some 70) v) w'):=Lib.hid hK0
      clear hK0 hF hS
      have c:=(hE _ HB.out _ _ H).c2
      clear hE
      change Oper.wp _ _ A wx K _
      go_step
      exact hK.out _ _ rfl (H)
     case p8 =>
      intro x wx A rest hDf hF hS hE H K hK0
      replace hDf:=Lib.hid hDf
      have e73:A.tmps[73]?.getD undef=.pointer (some ⟨g,4,none⟩):=((hS 7 (by decide)).2 73 rfl).trans (hS 7 (by decide)).1
      replace H:Sp w0 (rest) wx:=H
      have hK:Hid (∀ (v:Value) (w' : World),v=.agg #[.slice dv.a p.A.length dv.ac,.slice dv.d p.D.length dv.dc]→Sp w0 (rest) w'→K (A.put (some 74) v) w'):=Lib.hid hK0
      clear hK0 hF hS
      have c4:=(hE _ HB.out _ _ H).c4
      have c5:=(hE _ HB.out _ _ H).c5
      clear hE
      change Oper.wp _ _ A wx K _
      go_step
      exact hK.out _ _ rfl (H)
     case p9 =>
      intro x wx A rest hDf hF hS hE H K hK0
      replace hDf:=Lib.hid hDf
      have e66:A.tmps[66]?.getD undef=.pointer (some ⟨gw,0,none⟩):=((hS 0 (by decide)).2 66 rfl).trans (hS 0 (by decide)).1
      have e70:A.tmps[70]?.getD undef=.slice dv.w p.W.length dv.wc:=((hS 4 (by decide)).2 70 rfl).trans (hS 4 (by decide)).1
      have e74:A.tmps[74]?.getD undef=.agg #[.slice dv.a p.A.length dv.ac,.slice dv.d p.D.length dv.dc]:=((hS 8 (by decide)).2 74 rfl).trans (hS 8 (by decide)).1
      replace H:Sp w0 ((WB gw B4)::rest) wx:=H
      have hK:Hid (∀ (v:Value) (w' : World),v=.tuple #[]→Sp w0 ((WB gw (B4++PD.layW p.A p.D p.W))::rest) w'→K (A.put (some 75) v) w'):=Lib.hid hK0
      clear hK0 hF hS
      have hbr:=Lib.hid (hE _ HB.out)
      have HZ:=Lib.hid H
      clear hE H
      change Oper.wp _ _ A wx K _
      go_wp2_with fail
      refine (dlay_ok gw B4 dv.w dv.a dv.d p.W.length dv.wc p.A.length dv.ac p.D.length dv.dc p.W p.A p.D HZ.out (fun w0 w h=>(hbr.out w0 w h).w) (fun w0 w h=>(hbr.out w0 w h).a) (fun w0 w h=>(hbr.out w0 w h).d) rfl rfl rfl hWl (by rw [HNA.out]; omega) (by rw [HND.out]; omega) HA.out HD.out HAS.out HDS.out HOKW.out (by omega)).mono ?_
      rintro _ w9 ⟨rfl,H9⟩
      exact hK.out _ _ rfl H9
    case hend =>
     intro x wx A hA hS H
     replace H:Sp w0 ((WB gw (B4++PD.layW p.A p.D p.W))::L) wx:=H
     clear hS
     simp only [putAll,Act.put,List.setIfInBounds_toArray,List.set_cons_succ,List.set_cons_zero,Nat.reduceAdd] at hA
     subst hA
     have HQ:=Lib.hid H
     clear H HY
     go_wp2
     go_end0
     refine ⟨rfl,?_⟩
     have h:=HQ.out
     rw [← HB4.out,← HB3.out,← HB2.out] at h
     simp only [List.append_assoc] at h ⊢
     exact h
end Go.Proofs.YtloijdbkikccgaaDoor

