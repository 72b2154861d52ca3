/- A pack of texts: SepRegion3 BytesRep Lib4 Pack HuffPlain HuffA. -/
import Derived.Laws.CopyRow
import Derived.Lib.MakeNoZero
import Derived.Lib.SlBuf
import Derived.Shelf.Bits.Mul64
import Derived.Test.YtloijdbkikccgaaDoorPk02
import Derived.Test.YtloijdbkikccgaaDoorPk03
namespace Go.Proofs.YtloijdbkikccgaaDoor
open Go.RowKit
section
variable {P:Program} {Q:Exit→Act→World→Prop}
def freeAt (ds:List (Option Tmp)) (anc:List (List Nat)) (i t:Nat):Bool:=(List.range ds.length).all fun j=>if ds.getD j none=some t then (anc.getD j []).contains i else true
def StepsSq (P:Program) (Q:Exit→Act→World→Prop) (S:Nat→Value→Prop) (R:Nat→Value→List Pr) (I:Nat→List Pr) (ds:List (Option Tmp)) (ac:List (List Nat)) (env:List (Nat × Value)) (w0:World) (L:List Pr):Nat→List Oper→List (List Nat)→List (List Nat)→List (List Nat)→Prop
 | i,o::os,an::ans,us::uss,se::ses=>(∀ (x:Nat→Value) (w:World) (A:Act) (rest:List Pr),
   (∀ p,p ∈ env→freeAt ds ac i p.1=true→A.tmps[p.1]?.getD undef=p.2)→(∀ j,j ∈ an→S j (x j)∧∀ t,ds.getD j none=some t→A.tmps[t]?.getD undef=x j)→(∀ φ,Ent L φ→Ent rest φ) →
   Sp w0 (I i++(us.flatMap (fun j=>R j (x j))++(se.flatMap I++rest))) w →
   ∀ K:Act→World→Prop,(∀ v w',S i v→Sp w0 (R i v++(se.flatMap I++rest)) w'→K (A.put o.dst v) w') →
   StepOb P Q o x A w K)∧StepsSq P Q S R I ds ac env w0 L (i+1) os ans uss ses
 | _,[],[],[],[]=>True
 | _,_,_,_,_=>False
theorem stepsSq_get {S:Nat→Value→Prop} {R:Nat→Value→List Pr} {I:Nat→List Pr} {ds:List (Option Tmp)} {ac:List (List Nat)} {env:List (Nat × Value)} {w0:World} {L:List Pr} :
  ∀ (l:List Oper) (k i:Nat) (o:Oper) (ans uss ses:List (List Nat)),StepsSq P Q S R I ds ac env w0 L k l ans uss ses→l[i]?=some o →
  ∀ (x:Nat→Value) (w:World) (A:Act) (rest:List Pr),
   (∀ p,p ∈ env→freeAt ds ac (k+i) p.1=true→A.tmps[p.1]?.getD undef=p.2)→(∀ j,j ∈ ans.getD i []→S j (x j)∧∀ t,ds.getD j none=some t→A.tmps[t]?.getD undef=x j)→(∀ φ,Ent L φ→Ent rest φ) →
   Sp w0 (I (k+i)++((uss.getD i []).flatMap (fun j=>R j (x j))++((ses.getD i []).flatMap I++rest))) w →
   ∀ K:Act→World→Prop,(∀ v w',S (k+i) v→Sp w0 (R (k+i) v++((ses.getD i []).flatMap I++rest)) w'→K (A.put o.dst v) w') →
   StepOb P Q o x A w K
 | [],_,_,_,_,_,_,_,h=>by simp at h
 | o::os,k,i,o',[],uss,ses,hs,h=>by simp [StepsSq] at hs
 | o::os,k,i,o',an::ans,[],ses,hs,h=>by simp [StepsSq] at hs
 | o::os,k,i,o',an::ans,us::uss,[],hs,h=>by simp [StepsSq] at hs
 | o::os,k,0,o',an::ans,us::uss,se::ses,hs,h=>by
  have:o=o':=by simpa using h
  subst this
  exact hs.1
 | o::os,k,i+1,o',an::ans,us::uss,se::ses,hs,h=>by
  have:=stepsSq_get os (k+1) i o' ans uss ses hs.2 (by simpa using h)
  rw [show k+1+i=k+(i+1) by omega] at this
  exact this
theorem wp_region_sq {rid:Nat} {l:List Oper} {a0:Act} {w w0:World} {L:List Pr}
    (S:Nat→Value→Prop) (R:Nat→Value→List Pr) (I:Nat→List Pr) (n sz:Nat)
    (ds:List (Option Tmp)) (pre anc use see:List (List Nat)) (env:List (Nat × Value)) (hm:P.follows .mixedOrders=true)
    (hds:l.map (·.dst)=ds) (hdist:Distinct ds)
    (hpre:(l.map fun o=>(o.after.toList.filter (Region.binds .any ·)).map (·.on))=pre)
    (hn:pre.length=n) (hanc:ancOk pre anc=true) (hflow:flowOk n anc use see=true) (hgu:guardsOk l ds anc=true) (hanl:anc.length=n)
    (hsz:a0.tmps.size=sz) (hlt:ds.all (fun d=>match d with | some t=>decide (t<sz) | none=>true)=true)
    (henv:∀ p,p ∈ env→a0.tmps[p.1]?.getD undef=p.2)
    (H:Sp w0 ((List.range n).flatMap I++L) w)
    (hstep:StepsSq P Q S R I ds anc env w0 L 0 l anc use see)
    (hend:∀ (x:Nat→Value) (w:World) (A:Act),A=putAll a0 ds 0 x→(∀ i,i<n→S i (x i)) →
      Sp w0 ((List.range n).flatMap (fun i=>if (List.range n).any (fun k=>(use.getD k []).contains i) then [] else R i (x i))++L) w→Q .normal A w) :
    (Code.region rid l.toArray true).wp P Q a0 w:=by
  have hdl:ds.length=l.length:=by rw [← hds]; simp
  have hpl:pre.length=l.length:=by rw [← hpre]; simp
  refine wp_region_sp0 S R I n ds pre anc use see hm hds hdist hpre hn hanc hflow H (fun i o ho x w A rest hA hS hu hE hH=>?_) hend
  have hil:i<l.length:=(List.getElem?_eq_some_iff.1 ho).1
  have hslot:∀ j,j<n→∀ t,ds.getD j none=some t→A.tmps[t]?=some (x j):=fun j hj t ht=>by
    have hj' : j<ds.length:=by omega
    rw [List.getD_eq_getElem?_getD,List.getElem?_eq_getElem hj'] at ht
    simp only [Option.getD_some] at ht
    have htl:=List.all_eq_true.1 hlt _ (List.getElem_mem hj')
    rw [ht] at htl
    replace htl:t<sz:=by simpa using htl
    rw [hA,putAll_eval x ds 0 j t a0 hdist (by rw [List.getElem?_eq_getElem hj',ht]) (Nat.lt_of_lt_of_eq htl hsz.symm),Nat.zero_add]
  have hanlt:∀ j,j ∈ anc.getD i []→j<n:=fun j hj=>by
    have h:=List.all_eq_true.1 hanc i (by simp; omega)
    simp only [Bool.and_eq_true] at h
    have:=List.all_eq_true.1 h.2 j hj
    simp only [Bool.and_eq_true,decide_eq_true_eq] at this
    omega
  have hob:=stepsSq_get l 0 i o anc use see hstep ho x w A rest (fun p hp hfr=>by
      rw [Nat.zero_add] at hfr
      rw [← henv p hp,hA]
      by_cases hm:some p.1 ∈ ds
      · obtain ⟨j,hj,hjt⟩:=List.getElem_of_mem hm
        have hfj:=List.all_eq_true.1 hfr j (by simpa using hj)
        have hdj:ds.getD j none=some p.1:=by rw [List.getD_eq_getElem?_getD,List.getElem?_eq_getElem hj,hjt]; rfl
        rw [if_pos hdj] at hfj
        have hb:=hu j (by simpa using hfj)
        have hpt:p.1<a0.tmps.size:=by
          have htl:=List.all_eq_true.1 hlt _ (List.getElem_mem hj)
          rw [hjt] at htl
          replace htl:p.1<sz:=by simpa using htl
          omega
        rw [putAll_eval x ds 0 j p.1 a0 hdist (by rw [List.getElem?_eq_getElem hj,hjt]) hpt,Nat.zero_add,hb]
        unfold base
        rw [hdj]
        show (some (a0.tmps.getD p.1 undef)).getD undef=_
        rw [Array.getD_eq_getD_getElem?]; rfl
      · rw [putAll_eval_far x p.1 ds 0 a0 hm]) (fun j hj=>⟨hS j hj,fun t ht=>by rw [hslot j (hanlt j hj) t ht]; rfl⟩) hE (by rw [Nat.zero_add]; exact hH)
    (Gave w0 S R i A o.dst ((see.getD i []).flatMap I++rest)) (fun v w' h1 h2=>⟨v,rfl,by rwa [Nat.zero_add] at h1,by rwa [Nat.zero_add] at h2⟩)
  unfold StepOb at hob
  unfold wpList
  cases hg:o.guard with
  | none =>
    rw [hg] at hob
    have hw:Region.wanted o (yielded l.toArray A.tmps)=true:=by simp [Region.wanted,hg]
    rw [if_pos hw]
    refine .inl ?_
    refine Oper.wp_mono (fun a w h=>?_) (upon_exits' hob)
    exact h
  | some p =>
    obtain ⟨j,b⟩:=p
    rw [hg] at hob
    obtain ⟨c,hc,hob⟩:=hob
    have hg2:=List.all_eq_true.1 hgu (o,anc.getD i []) (by
      rw [List.mem_iff_getElem?]
      refine ⟨i,?_⟩
      rw [List.getElem?_zip_eq_some]
      refine ⟨ho,?_⟩
      rw [List.getD_eq_getElem?_getD,List.getElem?_eq_getElem (by omega)]; rfl)
    simp only [hg,Bool.and_eq_true,List.contains_iff_mem] at hg2
    obtain ⟨hja,hjs⟩:=hg2
    have hjn:=hanlt j hja
    obtain ⟨t,ht⟩:=Option.isSome_iff_exists.1 hjs
    have hy:yielded l.toArray A.tmps j=c:=by
      unfold yielded
      have hdj:(l.toArray[j]?).bind (·.dst)=some t:=by
        have hj' : j<ds.length:=by omega
        rw [List.getD_eq_getElem?_getD,List.getElem?_eq_getElem hj'] at ht
        simp only [Option.getD_some] at ht
        subst hds
        have hj2:j<l.length:=by simpa using hj'
        rw [List.getElem_map] at ht
        simp [hj2,ht]
      rw [hdj]
      simp only [Option.bind_some,hslot j hjn t ht]
      rw [← hc]
      cases x j <;> rfl
    have hw:Region.wanted o (yielded l.toArray A.tmps)=(c == some b):=by simp [Region.wanted,hg,hy]
    rw [hw]
    by_cases hcb:c=some b
    · rw [if_pos hcb] at hob
      rw [if_pos (by simp [hcb])]
      exact .inl (upon_exits' hob)
    · rw [if_neg hcb] at hob
      rw [if_neg (by simpa using hcb)]
      exact hob
end
open Go.RowKit
theorem setRow_put (w:World) (g:Nat) (cur cs:Array Value) (t:TypeId) (fr:Nat × Nat) (hg:w.heap[g]?=some (.cells cur t fr)):w.setRow g cs={ w with heap:=w.heap.setIfInBounds g (.cells cs t fr) }:=by
 unfold World.setRow
 refine congrArg (fun x=>{ w with heap:=x }) ?_
 have hl:=(Array.getElem?_eq_some_iff.1 hg).1
 apply Array.ext_getElem?
 intro i
 rw [Array.getElem?_modify,Array.getElem?_setIfInBounds]
 by_cases hi:g=i
 ·subst hi
  rw [if_pos rfl,if_pos rfl,if_pos hl,hg]
  rfl
 ·rw [if_neg hi,if_neg hi]
def RB (g n:Nat) (c:UInt8) (bp:Nat):Pr:=Ex fun cur:Array Value=>Ex fun (_:n≤cur.size∧bp≤n∧cur.toList.take bp=cells8 (List.replicate bp c))=>Is g (.cells cur 5 (0,0))
theorem RB.rd {w0 w:World} {L:List Pr} {g n bp:Nat} {c:UInt8} (H:Sp w0 (RB g n c bp::L) w):Rd w (some ⟨g,0,none⟩) (cells8 (List.replicate bp c)):=by
 obtain ⟨cur,H⟩:=H.unex
 obtain ⟨⟨h1,h2,h3⟩,H⟩:=H.unex
 have hh:=H.is_ 0 rfl
 refine fun _=>⟨_,rfl,fun j u hu=>?_⟩
 have e1:(Addr.add ⟨g,0,none⟩ j)=⟨g,j,none⟩:=by
  unfold Addr.add; split
  ·rename_i h0; subst h0; rfl
  ·simp
 rw [e1]
 have hj:j<bp:=by
  have:=(List.getElem?_eq_some_iff.1 hu).1
  simpa [cells8] using this
 rw [← h3,List.getElem?_take_of_lt hj] at hu
 simp [World.cell?,hh]
 simpa using hu
theorem RB.byt {w0 w:World} {L:List Pr} {g n:Nat} {c:UInt8} (H:Sp w0 (RB g n c n::L) w) (hn:n≤maxLen):Byt w (.slice (some ⟨g,0,none⟩) n n) (List.replicate n c) :=
 ⟨some ⟨g,0,none⟩,n,by rw [List.length_replicate],RB.rd H,by rw [List.length_replicate]; exact Nat.le_refl _,hn⟩
theorem RB.copy {w0 w:World} {L:List Pr} {g n bp k:Nat} {c:UInt8} (H:Sp w0 (RB g n c bp::L) w) (a:Addr) (sLen sCap dCap:Nat) (ty:TypeId) (hk:k=min sLen (n - bp))
  (hsrc:∀ j u,(cells8 (List.replicate k c))[j]?=some u→w.cell? (a.add j)=some u) :
  ∃ w',(Builtin.copy_ #[25,25] ty #[.slice (some ⟨g,bp,none⟩) (n - bp) dCap,.slice (some a) sLen sCap]).run Tryd.prog w=.ok (.int .i64 (k:Int)) w'∧Sp w0 (RB g n c (bp+k)::L) w':=by
 obtain ⟨i0,hi0,hz0,hz1,hz2⟩:=info_parts info8
 obtain ⟨cur,H⟩:=H.unex
 obtain ⟨⟨h1,h2,h3⟩,H⟩:=H.unex
 have hg:=H.is_ 0 rfl
 have hl:(cells8 (List.replicate k c)).length=k:=by simp [cells8]
 have hr:=run_copy_row (P:=Tryd.prog) w 25 25 ty 5 g bp (n - bp) dCap a sLen sCap cur 5 (cells8 (List.replicate k c)) Tryd.underlying25 (by rw [hi0]; simp [hz1]) hg (by rw [hl]; exact hk) hsrc (by rw [hl]; omega) (cells8_one _)
 rw [hl] at hr
 refine ⟨_,hr,?_⟩
 rw [setRow_put w g cur _ _ _ hg]
 refine Sp.ex _ (Sp.ex ⟨?_,?_,?_⟩ (H.put _))
 ·simp [hl]; omega
 ·omega
 ·show List.take (bp+k) (cur.toList.take bp++cells8 (List.replicate k c)++cur.toList.drop (bp+k))=_
  have e1:(cur.toList.take bp++cells8 (List.replicate k c)).length=bp+k:=by
   rw [List.length_append,hl,List.length_take]
   simp only [Array.length_toList]
   omega
  rw [List.take_append_of_le_length (by omega),List.take_of_length_le (by omega),h3,← List.replicate_append_replicate]
  exact List.map_append.symm
set_option maxHeartbeats 1000000 in
theorem mul_one_ok (n:Nat) (hn:n≤65536) (w:World) :
  Calls Tryd.prog 156 #[.int .u64 1,.int .u64 (n:Int)] w fun e w'=>e=.returned (.tuple #[.int .u64 0,.int .u64 (n:Int)])∧w=w':=by
 have h1:bits .and .u64 (n:Int) 4294967295=(n:Int):=by
  rw [Go.Proofs.Mul64.maskN n (by omega)]
  omega
 have h2:(n:Int) / 4294967296=0:=by omega
 have h3:bits .and .u64 1 4294967295=1:=by decide +kernel
 have h4:bits .and .u64 0 4294967295=0:=by decide +kernel
 have hm:Calls Tryd.prog 164 #[.int .u64 1,.int .u64 (n:Int)] w fun e w'=>e=.returned (.tuple #[.int .u64 0,.int .u64 (n:Int)])∧w=w':=by
  go_enter Tryd.func164,Tryd.ntmps164
  go_wp2
  go_ret2
  exact ⟨rfl,rfl⟩
 go_enter Tryd.func156,Tryd.ntmps156
 go_wp2_with fail
 refine hm.mono ?_
 rintro _ _ ⟨rfl,rfl⟩
 go_wp2_with fail
 go_ret2
 exact ⟨rfl,rfl⟩
open Go.RowKit
section
variable {P:Program}
theorem addr_zero (g j:Nat):(⟨g,0,none⟩:Addr).add j=⟨g,j,none⟩:=by
 unfold Addr.add; split
 ·rename_i h0; subst h0; rfl
 ·simp
theorem run_load_whole {w:World} {g:Nat} {t te:TypeId} {cs:List Value} (hb:Blk w g te cs) (ha:∀ w,(isAgg t).run P w=.ok true w) (hs:∀ w,(sizeOf t).run P w=.ok cs.length w) :
  (Instr.loadAt t (.pointer (some ⟨g,0,none⟩))).run P w=.ok (.agg cs.toArray) w:=by
 have hl:=run_loadCells_list (P:=P) w ⟨g,0,none⟩ cs (fun j v hj=>by rw [addr_zero,hb.cell]; exact hj)
 simp [Instr.loadAt,Instr.sureAddr,loadVar,ha,hs,hl,Result.andThen]
theorem run_store_whole {w:World} {g:Nat} {t te:TypeId} {cs ds:List Value} (hb:Blk w g te cs) (hl:ds.length=cs.length) (ha:∀ w,(sizeOf t).run P w=.ok ds.length w) (h1:∀ v ∈ ds,v.oneCell'=true) :
  (Instr.storeAt t (.pointer (some ⟨g,0,none⟩)) (.agg ds.toArray)).run P w=.ok () { w with heap:=w.heap.setIfInBounds g (.cells ds.toArray te (0,0)) }:=by
 have hst:=run_storeCells_at P g 0 te ds 0 cs.toArray w hb (by simp; omega) h1
 rw [setRow_put w g _ _ _ _ hb] at hst
 have e:(List.take (0+0) cs.toArray.toList++ds++List.drop (0+0+ds.length) cs.toArray.toList).toArray=ds.toArray:=by
  simp [hl]
 rw [e] at hst
 simp [Instr.storeAt,Instr.sureAddr,storeVar,ha,hst,Result.andThen,Value.cells]
theorem wpList_load_whole {w:World} {ops:Array Oper} {rest:List Oper} {o:Oper} {a:Act} {Q:Exit→Act→World→Prop} (hgd:o.guard=none) (t:TypeId) (x:Operand) (ho:o.op=.load t x)
  (g:Nat) (te:TypeId) (cs:List Value) (hx:a.eval x=.pointer (some ⟨g,0,none⟩)) (hb:Blk w g te cs) (ha:∀ w,(isAgg t).run P w=.ok true w) (hs:∀ w,(sizeOf t).run P w=.ok cs.length w)
  (h:wpList P ops Q rest (a.put o.dst (.agg cs.toArray)) w):wpList P ops Q (o::rest) a w :=
 wpList_plain hgd fun K hK=>by
  unfold Oper.wp execOp
  simp only [ho,Sem.run_bind,Sem.run_pure,Result.andThen_ok,hx,run_load_whole hb ha hs]
  exact hK _ _ h
theorem wpList_store_whole {w0 w:World} {L:List Pr} {ops:Array Oper} {rest:List Oper} {o:Oper} {a:Act} {Q:Exit→Act→World→Prop} (hgd:o.guard=none) (t:TypeId) (x y:Operand) (ho:o.op=.store t x y)
  (g:Nat) (te:TypeId) (cs ds:List Value) (hx:a.eval x=.pointer (some ⟨g,0,none⟩)) (hy:a.eval y=.agg ds.toArray) (H:Sp w0 (Bk g te cs::L) w) (hl:ds.length=cs.length) (ha:∀ w,(sizeOf t).run P w=.ok ds.length w) (h1:∀ v ∈ ds,v.oneCell'=true)
  (h:∀ w',Sp w0 (Bk g te ds::L) w'→wpList P ops Q rest (a.put o.dst undef) w'):wpList P ops Q (o::rest) a w :=
 wpList_plain hgd fun K hK=>by
  unfold Oper.wp execOp
  simp only [ho,Sem.run_bind,Sem.run_pure,Result.andThen_ok,hx,hy,run_store_whole (H.blk 0 rfl) hl ha h1]
  exact hK _ _ (h _ (H.put _))
theorem wpList_make_sp {w0 w:World} {L:List Pr} {ops:Array Oper} {rest:List Oper} {o:Oper} {a:Act} {Q:Exit→Act→World→Prop} (hg:o.guard=none) (l c:Operand) (t:TypeId) (hop:o.op=Op.makeSlice t l c)
  (e:TypeId) (i:TypeInfo) (z:Value) (h1:P.underlying t=some (.slice e)) (h2:P.info? e=some i) (h3:i.zero=some z) (h4:i.size=1) (hz1:z.cells=#[z])
  (n:Nat) (hl:a.eval l=.int .i64 (n:Int)) (hc:a.eval c=.int .i64 (n:Int)) (b2:i.bytes * n≤281474976710656) (b3:n≤maxLen) (H:Sp w0 L w)
  (hK:∀ (ad:Addr) w',Sp w0 (Row e 1 (.slice (some ad) n n) n (List.replicate n z)::L) w'→wpList P ops Q rest (a.put o.dst (.slice (some ad) n n)) w') :
  wpList P ops Q (o::rest) a w:=by
 refine wpList_plain hg fun K hK'=>?_
 have hrun:=run_make (P:=P) w t e i z h1 h2 h3 .i64 .i64 (n:Int) (n:Int) (by omega) (Int.le_refl _) (by rw [← Int.natCast_mul]; omega) (by have h3:=b3; unfold maxLen at h3; omega)
 rw [hz1,h4,Nat.mul_one,show ((n:Int)).toNat=n from rfl] at hrun
 have hH:=(H.newBk (List.replicate n z) e).bkRow 1 n (by rw [List.length_replicate,Nat.mul_one]) b3
 unfold Oper.wp
 simp [execOp,hop,hl,hc,hrun,Result.andThen]
 refine hK' _ _ (hK _ _ ?_)
 have e2:madeCells #[z] n=(List.replicate n z).toArray:=by rw [← toList_madeCells_one]
 rw [e2]
 exact hH
end
open Go.RowKit
section
variable {P:Program}
theorem run_load_agg {w:World} {ad:Addr} {t:TypeId} {cs:List Value} (hc:∀ j v,cs[j]?=some v→w.cell? (ad.add j)=some v) (ha:∀ w,(isAgg t).run P w=.ok true w) (hs:∀ w,(sizeOf t).run P w=.ok cs.length w) :
  (Instr.loadAt t (.pointer (some ad))).run P w=.ok (.agg cs.toArray) w:=by
 have hl:=run_loadCells_list (P:=P) w ad cs hc
 simp [Instr.loadAt,Instr.sureAddr,loadVar,ha,hs,hl,Result.andThen]
theorem wp_load_agg {w:World} {o:Oper} {a:Act} {K:Act→World→Prop} {Q:Exit→Act→World→Prop} (t:TypeId) (x:Operand) (ho:o.op=.load t x)
  (ad:Addr) (cs:List Value) (hx:a.eval x=.pointer (some ad)) (hc:∀ j v,cs[j]?=some v→w.cell? (ad.add j)=some v) (ha:∀ w,(isAgg t).run P w=.ok true w) (hs:∀ w,(sizeOf t).run P w=.ok cs.length w)
  (h:K (a.put o.dst (.agg cs.toArray)) w):o.wp P a w K Q:=by
 unfold Oper.wp execOp
 simp only [ho,Sem.run_bind,Sem.run_pure,Result.andThen_ok,hx,run_load_agg hc ha hs]
 exact h
theorem wpList_load_agg {w:World} {ops:Array Oper} {rest:List Oper} {o:Oper} {a:Act} {Q:Exit→Act→World→Prop} (hgd:o.guard=none) (t:TypeId) (x:Operand) (ho:o.op=.load t x)
  (ad:Addr) (cs:List Value) (hx:a.eval x=.pointer (some ad)) (hc:∀ j v,cs[j]?=some v→w.cell? (ad.add j)=some v) (ha:∀ w,(isAgg t).run P w=.ok true w) (hs:∀ w,(sizeOf t).run P w=.ok cs.length w)
  (h:wpList P ops Q rest (a.put o.dst (.agg cs.toArray)) w):wpList P ops Q (o::rest) a w :=
 wpList_plain hgd fun _ hK=>wp_load_agg t x ho ad cs hx hc ha hs (hK _ _ h)
theorem Sp.rowStore {w0 w:World} {L:List Pr} {e:TypeId} {z n i:Nat} {v:Value} {xs ds:List Value} (H:Sp w0 (Row e z v n xs::L) w) (hi:i<n) (hd:ds.length=z) (h1:∀ v ∈ ds,v.oneCell'=true) :
  ∃ ad c w',v=.slice (some ad) n c∧n≤c∧(storeCells (ad.add (i * z)) ds 0).run P w=.ok () w'∧Sp w0 (Row e z v n (xs.take (i * z)++ds++xs.drop (i * z+z))::L) w':=by
 have h:=H.owns 0 rfl
 rcases h.2 with ⟨rfl,rfl⟩ | ⟨g,cap,cur,rfl,_,hh,h2,h3,h4,h5⟩
 ·omega
 ·have e1:((⟨g,0,none⟩:Addr).add (i * z))=⟨g,i * z,none⟩:=addr_zero g _
  have hiz:i * z+z≤n * z:=by rw [← Nat.succ_mul]; exact Nat.mul_le_mul_right _ hi
  have hnz:n * z≤cap * z:=Nat.mul_le_mul_right _ h2
  have hst:=run_storeCells_at P g (i * z) e ds 0 cur w hh (by rw [hd,h4]; omega) h1
  rw [setRow_put w g _ _ _ _ hh] at hst
  refine ⟨⟨g,0,none⟩,cap,_,rfl,h2,by rw [e1]; exact hst,?_⟩
  have hg:=(Array.getElem?_eq_some_iff.1 hh).1
  refine H.turn rfl rfl rfl fun s hs=>?_
  have hsg:s g:=by
   rcases hs.2 with ⟨hv,_⟩ | ⟨g',cap',cur',hv,hg',_⟩
   ·cases hv
   ·injection hv with hv
    injection hv with hv
    injection hv with hv
    subst hv
    exact (rs_some hg').1
  have hxl:xs.length=n * z:=h.1
  refine ⟨fun b _ hsb=>?_,?_,.inr ⟨g,cap,(cur.toList.take (i * z+0)++ds++cur.toList.drop (i * z+0+ds.length)).toArray,rfl,(rs_pos (.inl hsg)).trans ?_,h2,h3,?_,?_⟩⟩
  ·show (w.heap.setIfInBounds g _)[b]?=_
   rw [Array.getElem?_setIfInBounds,if_neg]
   rintro rfl
   exact hsb hsg
  ·rw [List.length_append,List.length_append,List.length_take,List.length_drop,hd,hxl]; omega
  ·show (w.heap.setIfInBounds g _)[g]?=_
   rw [Array.getElem?_setIfInBounds,if_pos rfl,if_pos hg]
  ·simp only [Nat.add_zero,List.size_toArray,List.length_append,List.length_take,List.length_drop,Array.length_toList,hd,h4]
   omega
  ·rw [Nat.add_zero,hd,← h5,List.take_take,Nat.min_eq_left (by omega),List.drop_take]
   have e2:(cur.toList.take (i * z)++ds).length=i * z+z:=by rw [List.length_append,List.length_take,Array.length_toList,h4,hd]; omega
   rw [List.toList_toArray,List.take_append,e2,List.take_of_length_le (by omega)]
theorem run_store_agg {w w' : World} {ad:Addr} {t:TypeId} {ds:List Value} (hst:(storeCells ad ds 0).run P w=.ok () w') (ha:∀ w,(sizeOf t).run P w=.ok ds.length w) :
  (Instr.storeAt t (.pointer (some ad)) (.agg ds.toArray)).run P w=.ok () w':=by
 simp [Instr.storeAt,Instr.sureAddr,storeVar,ha,hst,Result.andThen,Value.cells]
theorem wp_store_agg {w w' : World} {o:Oper} {a:Act} {K:Act→World→Prop} {Q:Exit→Act→World→Prop} (t:TypeId) (x y:Operand) (ho:o.op=.store t x y)
  (ad:Addr) (ds:List Value) (hx:a.eval x=.pointer (some ad)) (hy:a.eval y=.agg ds.toArray) (hst:(storeCells ad ds 0).run P w=.ok () w') (ha:∀ w,(sizeOf t).run P w=.ok ds.length w)
  (h:K (a.put o.dst undef) w'):o.wp P a w K Q:=by
 unfold Oper.wp execOp
 simp only [ho,Sem.run_bind,Sem.run_pure,Result.andThen_ok,hx,hy,run_store_agg hst ha]
 exact h
end
structure PK where
 c:Int
 s:Int
 p:Option Nat
def PK.ptr (x:PK):Value:=.pointer (x.p.map fun g=>⟨g,0,none⟩)
def PK.cells (x:PK):List Value:=[.int .i64 x.c,.int .i64 x.s,x.ptr]
def PK.val (x:PK):Value:=.agg #[.int .i64 x.c,.int .i64 x.s,x.ptr]
theorem PK.one (x:PK):∀ u ∈ x.cells,u.oneCell'=true:=by
 intro u hu
 simp only [PK.cells,List.mem_cons,List.not_mem_nil,or_false] at hu
 rcases hu with rfl | rfl | rfl <;> rfl
def pk0:PK:=⟨0,0,none⟩
def cellsK (l:List PK):List Value:=l.flatMap PK.cells
theorem cellsK_len (l:List PK):(cellsK l).length=l.length * 3:=by
 induction l with
 | nil=>rfl
 | cons x l ih =>
  show (x.cells++cellsK l).length=_
  rw [List.length_append,ih,List.length_cons]
  show 3+_=_
  omega
theorem cellsK_append (a b:List PK):cellsK (a++b)=cellsK a++cellsK b:=List.flatMap_append
theorem cellsK_one (l:List PK):∀ u ∈ cellsK l,u.oneCell'=true:=by
 intro u hu
 obtain ⟨x,_,hx⟩:=List.mem_flatMap.1 hu
 exact x.one u hx
theorem cellsK_get (l:List PK) (i j:Nat) (hi:i<l.length) (u:Value) (hj:(l.getD i pk0).cells[j]?=some u):(cellsK l)[i * 3+j]?=some u:=by
 induction l generalizing i with
 | nil=>simp at hi
 | cons x l ih =>
  have hj3:j<3:=by
   have:=(List.getElem?_eq_some_iff.1 hj).1
   exact this
  show (x.cells++cellsK l)[i * 3+j]?=_
  cases i with
  | zero =>
   rw [List.getElem?_append_left (by show _<3; omega),Nat.zero_mul,Nat.zero_add]
   exact hj
  | succ i =>
   rw [List.getElem?_append_right (by show 3≤_; omega),show (i+1) * 3+j - x.cells.length=i * 3+j by show _ - 3=_; omega]
   exact ih i (by simpa using hi) (by simpa using hj)
theorem cellsK_set (l:List PK) (i:Nat) (hi:i<l.length) (x:PK):(cellsK l).take (i * 3)++x.cells++(cellsK l).drop (i * 3+3)=cellsK (l.set i x):=by
 have h1:l=l.take i++l.getD i pk0::l.drop (i+1):=by
  rw [List.getD_eq_getElem?_getD,List.getElem?_eq_getElem hi]
  simp
 obtain ⟨a,ha⟩:∃ a,l.take i=a:=⟨_,rfl⟩
 obtain ⟨b,hb⟩:∃ b,l.drop (i+1)=b:=⟨_,rfl⟩
 rw [ha,hb] at h1
 have hal:a.length=i:=by rw [← ha,List.length_take]; omega
 generalize l.getD i pk0=y at h1
 subst h1
 rw [SS.set_app a b y x hal,cellsK_append,cellsK_append]
 have e1:(cellsK a).length=i * 3:=by rw [cellsK_len,hal]
 rw [List.take_append_of_le_length (by omega),List.take_of_length_le (by omega),List.drop_append,e1]
 rw [List.drop_eq_nil_of_le (by omega),show i * 3+3 - i * 3=3 by omega]
 show cellsK a++x.cells++([]++(y.cells++cellsK b).drop 3)=cellsK a++(x.cells++cellsK b)
 rw [List.append_assoc]
 rfl
def RowK (v:Value) (l:List PK):Pr:=Row 141 3 v l.length (cellsK l)
theorem RowK.form {w0 w:World} {L:List Pr} (H:Sp w0 L w) (k:Nat) {v:Value} {l:List PK} (hk:L[k]?=some (RowK v l)):∃ A c,v=.slice A l.length c∧l.length≤c∧c≤maxLen:=Row.form H k hk
theorem RowK.rd {w0 w:World} {L:List Pr} (H:Sp w0 L w) (k:Nat) {ad:Addr} {n c:Nat} {l:List PK} (hk:L[k]?=some (RowK (.slice (some ad) n c) l)) (i:Nat) (hi:i<l.length) :
  ∀ j v,(l.getD i pk0).cells[j]?=some v→w.cell? ((ad.add (i * 3)).add j)=some v:=fun j v hj=>by
 obtain ⟨A,c2,e,hr,_,_⟩:=H.row_rd k hk
 injection e with e
 obtain ⟨ad',e2,hc⟩:=hr (by intro h0; have:=cellsK_len l; rw [h0] at this; simp at this; omega)
 rw [← e] at e2
 injection e2 with e2
 subst e2
 rw [Go.Addr.add_add]
 exact hc _ _ (cellsK_get l i j hi v hj)
theorem RowK.store {w0 w:World} {L:List Pr} {ad:Addr} {n c i:Nat} {l:List PK} (x:PK) (H:Sp w0 (RowK (.slice (some ad) n c) l::L) w) (hi:i<l.length) :
  ∃ w',(storeCells (ad.add (i * 3)) x.cells 0).run Tryd.prog w=.ok () w'∧Sp w0 (RowK (.slice (some ad) n c) (l.set i x)::L) w':=by
 obtain ⟨ad',c',w',e,_,hr,H'⟩:=Sp.rowStore (P:=Tryd.prog) (ds:=x.cells) H hi rfl x.one
 injection e with e
 injection e with e
 subst e
 refine ⟨w',hr,?_⟩
 rw [cellsK_set l i hi x] at H'
 unfold RowK
 rw [List.length_set]
 exact H'
namespace PH
def bad (n:Int):Bool:=decide (n<0∨15<n)
def may (l:List Int):Bool:=decide (l.length≤1024) && !l.any bad
def tal (l:List Nat) (n:Nat):Nat:=if n=0 then 0 else l.count n
theorem tal_le (l:List Nat) (n:Nat):tal l n≤l.length:=by
 unfold tal
 split
 ·exact Nat.zero_le _
 ·exact List.count_le_length
theorem may_nat {l:List Int} (h:may l=true):∃ m:List Nat,l=m.map (fun n:Nat=>(n:Int))∧m.length≤1024∧∀ n ∈ m,n≤15:=by
 unfold may at h
 simp only [Bool.and_eq_true,decide_eq_true_eq,Bool.not_eq_true',List.any_eq_false] at h
 refine ⟨l.map Int.toNat,?_,by rw [List.length_map]; exact h.1,?_⟩
 ·rw [List.map_map]
  refine (List.map_id l).symm.trans (List.map_congr_left fun n hn=>?_)
  have:=h.2 n hn
  unfold bad at this
  simp only [decide_eq_true_eq] at this
  show n=((n.toNat:Nat):Int)
  omega
 ·intro n hn
  obtain ⟨x,hx,rfl⟩:=List.mem_map.1 hn
  have:=h.2 x hx
  unfold bad at this
  simp only [decide_eq_true_eq] at this
  omega
def share (l:List Nat):Nat→Nat
 | 0=>0
 | n+1=>share l n+tal l n * 2 ^ (15 - n)
theorem share_le (l:List Nat) (n:Nat):share l n≤n * (l.length * 32768):=by
 induction n with
 | zero=>exact Nat.zero_le _
 | succ n ih =>
  unfold share
  have h1:=tal_le l n
  have h2:2 ^ (15 - n)≤32768:=by
   have:(2:Nat) ^ (15 - n)≤2 ^ 15:=Nat.pow_le_pow_right (by omega) (by omega)
   exact this
  have h3:tal l n * 2 ^ (15 - n)≤l.length * 32768:=Nat.mul_le_mul h1 h2
  rw [Nat.succ_mul]
  omega
def sum (l:List Nat):Nat:=share l 16
def state (l:List Nat):Int:=if sum l<32768 then -1 else if 32768<sum l then 1 else 0
def fst (l:List Nat):Nat→Nat
 | 0=>0
 | 1=>0
 | n+2=>(fst l (n+1)+tal l (n+1)) * 2
theorem fst_share (l:List Nat) (n:Nat) (h1:1≤n) (h:n≤16):fst l n * 2 ^ (16 - n)=2 * share l n:=by
 induction n with
 | zero=>omega
 | succ n ih =>
  cases n with
  | zero =>
   show 0 * _=2 * (share l 0+tal l 0 * 2 ^ 15)
   simp [share,tal]
  | succ n =>
   have:=ih (by omega) (by omega)
   rw [show fst l (n+1+1)=(fst l (n+1)+tal l (n+1)) * 2 from rfl,show share l (n+1+1)=share l (n+1)+tal l (n+1) * 2 ^ (15 - (n+1)) from rfl]
   have e1:16 - (n+1)=(16 - (n+1+1))+1:=by omega
   have e2:15 - (n+1)=16 - (n+1+1):=by omega
   rw [e1,Nat.pow_succ] at this
   rw [e2]
   generalize 2 ^ (16 - (n+1+1))=p at this ⊢
   generalize fst l (n+1)=a at this ⊢
   generalize tal l (n+1)=b
   generalize share l (n+1)=c at this ⊢
   have h3:(a+b) * 2 * p=a * (p * 2)+2 * (b * p):=by
    rw [Nat.add_mul,Nat.add_mul,Nat.mul_assoc,Nat.mul_assoc b 2 p,Nat.mul_comm 2 p,← Nat.mul_assoc b p 2,Nat.mul_comm (b * p) 2]
   rw [h3,this,Nat.mul_add]
theorem share_mono (l:List Nat) (n k:Nat) (h:n≤k):share l n≤share l k:=by
 obtain ⟨d,rfl⟩:∃ d,k=n+d:=⟨k - n,by omega⟩
 clear h
 induction d with
 | zero=>exact Nat.le_refl _
 | succ d ih=>rw [← Nat.add_assoc,share]; omega
theorem fst_le (l:List Nat) (n:Nat) (h:n≤16) (hs:sum l≤32768):fst l n≤65536:=by
 rcases Nat.eq_zero_or_pos n with h0 | h0
 ·subst h0; exact Nat.zero_le _
 ·have h1:=fst_share l n h0 h
  have h2:=share_mono l n 16 h
  have h3:1≤2 ^ (16 - n):=Nat.one_le_two_pow
  have h4:fst l n * 1≤fst l n * 2 ^ (16 - n):=Nat.mul_le_mul_left _ h3
  unfold sum at hs
  omega
def codeAt (l:List Nat) (k:Nat):Nat:=if l.getD k 0=0 then 0 else fst l (l.getD k 0)+(l.take k).count (l.getD k 0)
def codes (l:List Nat):List Nat:=(List.range l.length).map (codeAt l)
def idx (l:List Nat) (n k:Nat):List Nat:=(List.range k).filter fun i=>l.getD i 0 == n
theorem idx_succ (l:List Nat) (n k:Nat):idx l n (k+1)=if l.getD k 0=n then idx l n k++[k] else idx l n k:=by
 unfold idx
 rw [List.range_succ,List.filter_append]
 have e:List.filter (fun i=>l.getD i 0 == n) [k]=if l.getD k 0=n then [k] else []:=by
  rw [List.filter_cons]
  by_cases h:l.getD k 0=n
  ·rw [if_pos h,if_pos (by rw [h]; exact beq_self_eq_true n)]; rfl
  ·rw [if_neg h,if_neg (by rw [beq_iff_eq]; exact h)]; rfl
 rw [e]
 split
 ·rfl
 ·rw [List.append_nil]
theorem idx_zero (l:List Nat) (n:Nat):idx l n 0=[]:=rfl
def rowsB (l:List Nat):Nat→List Nat
 | 0=>[]
 | n+1=>rowsB l n++idx l (n+1) l.length
def rows (l:List Nat):List Nat:=rowsB l 15
theorem idx_len (l:List Nat) (n k:Nat):(idx l n k).length≤k:=by
 have:=List.length_filter_le (fun i=>l.getD i 0 == n) (List.range k)
 rwa [List.length_range] at this
theorem rowsB_len (l:List Nat) (n:Nat):(rowsB l n).length≤n * l.length:=by
 induction n with
 | zero=>exact Nat.zero_le _
 | succ n ih =>
  rw [rowsB,List.length_append,Nat.succ_mul]
  have:=idx_len l (n+1) l.length
  omega
end PH
open Go.RowKit
theorem Rd.at64 {w:World} {A:Option Addr} {l:List Int} (h:Rd w A (cells64 l)) {k:Nat} (hk:k<l.length) :
  ∃ ad,A=some ad∧w.cell? (ad.add k)=some (.int .i64 l[k]):=by
 obtain ⟨ad,e,hc⟩:=h.at_ (k:=k) (by simpa [cells64] using hk)
 exact ⟨ad,e,by simpa [cells64] using hc⟩
theorem bad_ok (n:Int) (w:World):Calls Tryd.prog 161 #[.int .i64 n] w fun e w'=>e=.returned (.bool (PH.bad n))∧w=w':=by
 obtain ⟨r,hr⟩:∃ r,PH.bad n=r:=⟨_,rfl⟩
 have HR:=Lib.hid hr
 rw [hr]
 clear hr
 go_enter Tryd.func161,Tryd.ntmps161
 go_wp2
 all_goals (
  go_ret
  refine ⟨ret_bool ?_,rfl⟩
  rw [← HR.out]
  unfold PH.bad
  first
   | exact (decide_eq_true (by omega)).symm
   | exact (decide_eq_false (by omega)).symm
   | (rw [Bool.eq_iff_iff]; simp only [Bool.or_eq_true,decide_eq_true_eq]; done)
   | (rw [Bool.eq_iff_iff]; simp only [Bool.or_eq_true,decide_eq_true_eq]; omega))
set_option maxRecDepth 100000 in
theorem index_ok (A:Option Addr) (n c:Nat) (l:List Int) {w0 w:World} {L:List Pr} (H:Sp w0 L w) (hn:n=l.length) (hb:Ent L fun w=>Rd w A (cells64 l)) (hl:n≤1000000000) :
  Calls Tryd.prog 166 #[.slice A n c,.func (.func 161) #[] #[]] w fun e w'=>∃ r:Int,e=.returned (.int .i64 r)∧(0≤r↔l.any PH.bad=true)∧Sp w0 L w':=by
 have HN:=Lib.hid hn
 have HB:=Lib.hid hb
 clear hn hb
 obtain ⟨z,hz⟩:∃ z,l.any PH.bad=z:=⟨_,rfl⟩
 rw [hz]
 have HZ:=Lib.hid hz
 clear hz
 go_enter Tryd.func166,Tryd.ntmps166
 go_wp2_with fail
 go_loopw [8] (fun iv wr=>∃ i:Nat,iv=.int .i64 (i:Int)∧i≤n∧(l.take i).any PH.bad=false∧Sp w0 L wr) (fun iv _=>n - (intOf iv).toNat)
 case atStart=>exact ⟨0,rfl,Nat.zero_le _,rfl,H⟩
 case round =>
  obtain ⟨i,rfl,hi,hno,H⟩:=hrel
  have HNO:=Lib.hid hno
  clear hno
  by_cases hin:i<n
  ·have k1:(i:Int)<(n:Int):=by omega
   have hiX:i<l.length:=by rw [← HN.out]; exact hin
   obtain ⟨ad,rfl,hc⟩:=(HB.out _ _ H).at64 hiX
   obtain ⟨x,hx⟩:∃ x,l[i]=x:=⟨_,rfl⟩
   rw [hx] at hc
   have htk:(l.take (i+1)).any PH.bad=PH.bad x:=by
    rw [List.take_succ_eq_append_getElem hiX,List.any_append,HNO.out,hx]
    simp
   have HTK:=Lib.hid htk
   have hmem:x ∈ l:=by rw [← hx]; exact List.getElem_mem hiX
   have HMEM:=Lib.hid hmem
   clear htk hx hmem
   go_wp2_with fail
   refine (bad_ok x _).mono ?_
   rintro _ _ ⟨rfl,rfl⟩
   cases hbx:PH.bad x
   ·rw [hbx] at HTK
    go_wp2_with fail
    go_roundw
    case rel=>exact ⟨i+1,by go_num,by omega,HTK.out,H⟩
    case measure=>first | (simp [intOf]; omega) | simp [intOf]
   ·have HBX:=Lib.hid hbx
    clear hbx
    go_wp2_with fail
    go_ret
    exact ⟨_,rfl,⟨fun _=>by rw [← HZ.out]; exact List.any_eq_true.2 ⟨x,HMEM.out,HBX.out⟩,fun _=>by omega⟩,H⟩
  ·have k1:¬ (i:Int)<(n:Int):=by omega
   go_wp2_with fail
   go_ret
   have h0:=HNO.out
   rw [List.take_of_length_le (by rw [← HN.out]; omega),HZ.out] at h0
   refine ⟨_,rfl,?_,H⟩
   rw [h0]
   exact ⟨fun h=>absurd h (by omega),fun h=>by cases h⟩
set_option maxRecDepth 100000 in
set_option maxHeartbeats 1000000 in
theorem contains_ok (A:Option Addr) (n c:Nat) (l:List Int) {w0 w:World} {L:List Pr} (H:Sp w0 L w) (hn:n=l.length) (hb:Ent L fun w=>Rd w A (cells64 l)) (hl:n≤1000000000) :
  Calls Tryd.prog 160 #[.slice A n c,.func (.func 161) #[] #[]] w fun e w'=>e=.returned (.bool (l.any PH.bad))∧Sp w0 L w':=by
 have hix:=index_ok A n c l H hn hb hl
 obtain ⟨z,hz⟩:∃ z,l.any PH.bad=z:=⟨_,rfl⟩
 rw [hz] at hix ⊢
 have HIX:=Lib.hid hix
 clear hix hz hb hn
 go_enter Tryd.func160,Tryd.ntmps160
 go_wp2_with fail
 refine HIX.out.mono ?_
 rintro _ w2 ⟨r,rfl,hr,H2⟩
 clear HIX
 by_cases h0:0≤r
 ·have h1:=hr.1 h0
  subst h1
  clear hr
  go_wp2
  go_ret
  exact ⟨rfl,H2⟩
 ·have h1:z=false:=by
   cases z
   ·rfl
   ·exact absurd (hr.2 rfl) h0
  subst h1
  have k:decide (0≤r)=false:=decide_eq_false h0
  clear hr h0
  go_wp2
  go_ret
  exact ⟨rfl,H2⟩
set_option maxRecDepth 100000 in
set_option maxHeartbeats 1000000 in
theorem hmay_ok (A:Option Addr) (n c:Nat) (l:List Int) {w0 w:World} {L:List Pr} (H:Sp w0 L w) (hn:n=l.length) (hb:Ent L fun w=>Rd w A (cells64 l)) (hl:n≤1000000000) :
  Calls Tryd.prog 143 #[.slice A n c] w fun e w'=>e=.returned (.bool (PH.may l))∧Sp w0 L w':=by
 have hc:=contains_ok A n c l H hn hb hl
 obtain ⟨z,hz⟩:∃ z,l.any PH.bad=z:=⟨_,rfl⟩
 obtain ⟨m,hm⟩:∃ m,PH.may l=m:=⟨_,rfl⟩
 rw [hz] at hc
 rw [hm]
 have HC:=Lib.hid hc
 have hmz:m=(decide (n≤1024) && !z):=by rw [← hm,← hz,hn]; rfl
 have HMZ:=Lib.hid hmz
 clear hc hz hm hmz hb hn
 by_cases h:n≤1024
 ·have k1:decide ((n:Int)≤1024)=true:=decide_eq_true (by omega)
  go_enter Tryd.func143,Tryd.ntmps143
  go_wp2_with fail
  refine HC.out.mono ?_
  rintro _ w2 ⟨rfl,H2⟩
  go_wp2
  go_ret
  exact ⟨ret_bool (by rw [HMZ.out,decide_eq_true h]; rfl),H2⟩
 ·have k1:decide ((n:Int)≤1024)=false:=decide_eq_false (by omega)
  go_enter Tryd.func143,Tryd.ntmps143
  go_wp2
  go_ret
  exact ⟨ret_bool (by rw [HMZ.out,decide_eq_false h]; rfl),H⟩
end Go.Proofs.YtloijdbkikccgaaDoor

