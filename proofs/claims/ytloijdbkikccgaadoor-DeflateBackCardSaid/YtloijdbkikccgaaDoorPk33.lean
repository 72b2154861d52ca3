/- A pack of texts: DefJ DefM. -/
import Derived.Test.YtloijdbkikccgaaDoorPk31
import Derived.Test.YtloijdbkikccgaaDoorPk32
namespace Go.Proofs.YtloijdbkikccgaaDoor
set_option linter.unusedVariables false
set_option linter.unusedSimpArgs false
open Go.RowKit
def BP.dyn (p:BP):List Bool:=PBits.bitsOf (p.A.length - 257) 5++(PBits.bitsOf (p.D.length - 1) 5++(PBits.bitsOf (PD.told p.F - 4) 4++(PI.firstsW p.F (PI.orderT.take (PD.told p.F))++PD.layW p.F [] p.R)))++PD.layW p.A p.D p.W
def BP.lay (p:BP) (k a:Nat):List Bool:=[p.last]++PBits.bitsOf k 2++(if k=0 then List.replicate (PD.pad (a+3)) false++PI.storedW p.b else if k=1 then PD.layW PI.fixedL PI.fixedD p.W else p.dyn)
def BP.fixN (p:BP):Nat:=3+PD.costW PI.fixedL PI.fixedD p.W
def BP.dynN (p:BP):Nat:=17+3 * PD.told p.F+PD.costW p.F [] p.R+PD.costW p.A p.D p.W
def BP.kind (p:BP) (a:Nat):Nat:=PD.pick (PD.sto p.b.length a) p.fixN p.dynN
structure BP.Ok (p:BP):Prop where
 hA1:257≤p.A.length
 hA2:p.A.length≤286
 hD1:1≤p.D.length
 hD2:p.D.length≤30
 hA:∀ x ∈ p.A,x≤15
 hD:∀ x ∈ p.D,x≤15
 hAs:PH.sum p.A≤32768
 hDs:PH.sum p.D≤32768
 hF:p.F.length=19
 hF7:∀ x ∈ p.F,x≤7
 hFs:PH.sum p.F≤32768
 hokR:∀ t ∈ p.R,PD.WdOk p.F [] t
 hokW:∀ t ∈ p.W,PD.WdOk p.A p.D t
 hokX:∀ t ∈ p.W,PD.WdOk PI.fixedL PI.fixedD t
 hRl:p.R.length≤1000
 hWl:p.W.length≤2000000
 hbl:p.b.length≤100000000
def two (s:Int) (f:Nat):Nat:=if 0≤s∧s≤(f:Int) then 0 else 1
theorem pick_two (s:Int) (f d:Nat):PD.pick s f d=if (d:Int)<(if two s f=0 then s else (f:Int)) then 2 else two s f:=by
 by_cases h0:0≤s
 ·by_cases h1:(f:Int)<s
  ·have e:two s f=1:=by unfold two; rw [if_neg (by omega)]
   unfold PD.pick
   rw [e,if_pos h0,if_pos h1,if_neg (by decide:¬ (1:Nat)=0)]
   by_cases h2:d<f
   ·rw [if_pos h2,if_pos (by omega)]
   ·rw [if_neg h2,if_neg (by omega)]
  ·have e:two s f=0:=by unfold two; rw [if_pos (by omega)]
   unfold PD.pick
   rw [e,if_pos h0,if_neg h1,if_pos rfl]
 ·have e:two s f=1:=by unfold two; rw [if_neg (by omega)]
  unfold PD.pick
  rw [e,if_neg h0,if_neg (by decide:¬ (1:Nat)=0)]
  by_cases h2:d<f
  ·rw [if_pos h2,if_pos (by omega)]
  ·rw [if_neg h2,if_neg (by omega)]
set_option maxRecDepth 100000 in
set_option maxHeartbeats 8000000 in
theorem dput_ok (g gw:Nat) (dv:DV) (p:BP) (B:List Bool) {TL TF:Option Addr} {cl cf:Nat} {w0 w:World} {L:List Pr} (H:Sp w0 (WB gw B::L) w) (hb:Ent L (DBr g dv p)) (hT:Ent L (DTabs TL TF cl cf)) (hok:p.Ok) (hB:B.length≤800000000) :
  Calls Tryd.prog 54 #[.pointer (some ⟨g,0,none⟩),.pointer (some ⟨gw,0,none⟩)] w fun e w'=>e=.returned (.tuple #[])∧Sp w0 (WB gw (B++p.lay (p.kind B.length) B.length)::L) w':=by
 have hmf:∀ (fn:Fn) (first cap:Array Value) (w:World),(Instr.makeFunc fn first cap).run Tryd.prog w=.ok (.func fn first cap) w:=fun _ _ _ _=>rfl
 have hi0:∀ (a b c:Value) (w:World),(Instr.index 43 (.agg #[a,b,c]) (.int .i64 0)).run Tryd.prog w=.ok a w:=fun _ _ _ _=>rfl
 have hi1:∀ (a b c:Value) (w:World),(Instr.index 43 (.agg #[a,b,c]) (.int .i64 1)).run Tryd.prog w=.ok b w:=fun _ _ _ _=>rfl
 have hi2:∀ (a b c:Value) (w:World),(Instr.index 43 (.agg #[a,b,c]) (.int .i64 2)).run Tryd.prog w=.ok c w:=fun _ _ _ _=>rfl
 obtain ⟨s,hs⟩:∃ s,PD.sto p.b.length B.length=s:=⟨_,rfl⟩
 obtain ⟨f,hf⟩:∃ f,p.fixN=f:=⟨_,rfl⟩
 obtain ⟨d,hd⟩:∃ d,p.dynN=d:=⟨_,rfl⟩
 have HB:=Lib.hid hb
 have HT:=Lib.hid hT
 have HOK:=Lib.hid hok
 have HSZ:Hid (∀ (L2:List Pr) (w2:World),Sp w0 (L2++L) w2→(∀ φ,Ent L φ→Ent (L2++L) φ)→Calls Tryd.prog 83 #[.pointer (some ⟨g,0,none⟩),.int .i64 (B.length:Int)] w2 fun e w'=>e=.returned (.agg #[.int .i64 s,.int .i64 (f:Int),.int .i64 (d:Int)])∧Sp w0 (L2++L) w'):=Lib.hid fun L2 w2 H2 hE=>by
  have h:=dsizes_ok g B.length dv p H2 (hE _ hb) (hE _ hT) hok.hbl hok.hA hok.hD hok.hF hok.hF7 hok.hokR hok.hokW hok.hokX hok.hRl hok.hWl (by omega)
  rw [hs,show (3+PD.costW PI.fixedL PI.fixedD p.W:Nat)=f from hf,show (17+3 * PD.told p.F+PD.costW p.F [] p.R+PD.costW p.A p.D p.W:Nat)=d from hd] at h
  exact h
 have HSTO:Hid (PD.pick s f d=0→p.b.length≤65535):=Lib.hid fun h=>by
  have h2:=PD.pick_sto h
  rw [← hs] at h2
  unfold PD.sto at h2
  split at h2
  ·assumption
  ·omega
 have hkind:p.kind B.length=PD.pick s f d:=by unfold BP.kind; rw [hs,hf,hd]
 rw [hkind]
 have HX:=Lib.hid H
 clear hb hT hok H hs hf hd hkind
 go_enter Tryd.func54,Tryd.ntmps54
 go_wp2_with (refine wpList_store_whole rfl 169 _ _ rfl w.heap.size 169 _ [.func (.func 80) #[.pointer (some ⟨g,0,none⟩)] #[],.func (.func 81) #[.pointer (some ⟨g,0,none⟩)] #[],.func (.func 82) #[.pointer (some ⟨g,0,none⟩)] #[]] rfl rfl (HX.out.newBk _ _) rfl Tryd.sizeOf169 (by intro u hu; simp only [List.mem_cons,List.not_mem_nil,or_false] at hu; rcases hu with rfl | rfl | rfl <;> rfl) ?_)
 intro w1 H1
 have HX1:=Lib.hid (H1.pick 2 [1,0])
 clear H1 HX
 generalize w.heap.size=g4 at HX1 ⊢
 go_wp2_with fail
 refine (wb_len gw B HX1.out (by omega)).mono ?_
 rintro _ w2 ⟨rfl,H2⟩
 clear HX1
 have HSZ2:=Lib.hid (HSZ.out [WB gw B,Bk g4 169 [.func (.func 80) #[.pointer (some ⟨g,0,none⟩)] #[],.func (.func 81) #[.pointer (some ⟨g,0,none⟩)] #[],.func (.func 82) #[.pointer (some ⟨g,0,none⟩)] #[]]] w2 H2 (fun φ hφ w0 w h=>hφ _ _ (h.pick 2 [])))
 clear HSZ H2
 go_wp2_with fail
 refine HSZ2.out.mono ?_
 rintro _ w3 ⟨rfl,H3⟩
 clear HSZ2
 have HX3:=Lib.hid (Sp.newBk (L:=WB gw B::Bk g4 169 [.func (.func 80) #[.pointer (some ⟨g,0,none⟩)] #[],.func (.func 81) #[.pointer (some ⟨g,0,none⟩)] #[],.func (.func 82) #[.pointer (some ⟨g,0,none⟩)] #[]]::L) H3 [.int .i64 s,.int .i64 (f:Int),.int .i64 (d:Int)] 43)
 have t0:=HX3.out.cell 0 rfl 0
 have t1:=HX3.out.cell 0 rfl 1
 have t2:=HX3.out.cell 0 rfl 2
 simp only [List.getElem?_cons_zero,List.getElem?_cons_succ] at t0 t1 t2
 clear H3
 go_wp2_with fail
 generalize w3.heap.size=g6 at HX3 t0 t1 t2 ⊢
 clear t0 t1 t2
 go_loopw [5,21] (fun bv kv wr=>((kv=.int .i64 0∧bv=.int .i64 (-1))∨(kv=.int .i64 1∧bv=.int .i64 (if 0≤s then 0 else -1))∨(kv=.int .i64 2∧bv=.int .i64 (two s f:Nat))∨(kv=.int .i64 3∧bv=.int .i64 (PD.pick s f d:Nat)))∧Sp w0 (Bk g6 43 [.int .i64 s,.int .i64 (f:Int),.int .i64 (d:Int)]::WB gw B::Bk g4 169 [.func (.func 80) #[.pointer (some ⟨g,0,none⟩)] #[],.func (.func 81) #[.pointer (some ⟨g,0,none⟩)] #[],.func (.func 82) #[.pointer (some ⟨g,0,none⟩)] #[]]::L) wr) (fun _ kv _=>3 - (intOf kv).toNat)
 case atStart=>exact ⟨.inl ⟨rfl,rfl⟩,HX3.out⟩
 case round =>
  obtain ⟨hst,H4⟩:=hrel
  clear HX3
  have HY:=Lib.hid H4
  have t0:=H4.cell 0 rfl 0
  have t1:=H4.cell 0 rfl 1
  have t2:=H4.cell 0 rfl 2
  simp only [List.getElem?_cons_zero,List.getElem?_cons_succ] at t0 t1 t2
  clear H4
  rcases hst with ⟨rfl,rfl⟩ | ⟨rfl,rfl⟩ | ⟨rfl,rfl⟩ | ⟨rfl,rfl⟩
  ·by_cases h0:0≤s
   ·have k0:s≥0:=h0
    go_wp2_with fail
    go_roundw
    case rel=>exact ⟨.inr (.inl ⟨by go_num,by rw [if_pos h0]⟩),HY.out⟩
    case measure=>first | (simp [intOf]; omega) | simp [intOf]
   ·have k0:¬ s≥0:=h0
    go_wp2_with fail
    go_roundw
    case rel=>exact ⟨.inr (.inl ⟨by go_num,by rw [if_neg h0]⟩),HY.out⟩
    case measure=>first | (simp [intOf]; omega) | simp [intOf]
  ·have kf:(f:Int)≥0:=by omega
   by_cases h0:0≤s
   ·rw [if_pos h0]
    by_cases h1:(f:Int)<s
    ·have e:two s f=1:=by unfold two; rw [if_neg (by omega)]
     go_wp2_with fail
     go_roundw
     case rel=>exact ⟨.inr (.inr (.inl ⟨by go_num,by rw [e]; first | done | rfl⟩)),HY.out⟩
     case measure=>first | (simp [intOf]; omega) | simp [intOf]
    ·have e:two s f=0:=by unfold two; rw [if_pos (by omega)]
     go_wp2_with fail
     go_roundw
     case rel=>exact ⟨.inr (.inr (.inl ⟨by go_num,by rw [e]; first | done | rfl⟩)),HY.out⟩
     case measure=>first | (simp [intOf]; omega) | simp [intOf]
   ·rw [if_neg h0]
    have e:two s f=1:=by unfold two; rw [if_neg (by omega)]
    go_wp2_with fail
    go_roundw
    case rel=>exact ⟨.inr (.inr (.inl ⟨by go_num,by rw [e]; first | done | rfl⟩)),HY.out⟩
    case measure=>first | (simp [intOf]; omega) | simp [intOf]
  ·have kd:(d:Int)≥0:=by omega
   have hp:=pick_two s f d
   have h01:two s f=0∨two s f=1:=by unfold two; split <;> simp
   rcases h01 with e | e
   ·rw [e] at hp ⊢
    rw [if_pos rfl] at hp
    by_cases h1:(d:Int)<s
    ·rw [if_pos h1] at hp
     go_wp2_with fail
     go_roundw
     case rel=>exact ⟨.inr (.inr (.inr ⟨by go_num,by rw [hp]; first | done | rfl⟩)),HY.out⟩
     case measure=>first | (simp [intOf]; omega) | simp [intOf]
    ·rw [if_neg h1] at hp
     go_wp2_with fail
     go_roundw
     case rel=>exact ⟨.inr (.inr (.inr ⟨by go_num,by rw [hp]; first | done | rfl⟩)),HY.out⟩
     case measure=>first | (simp [intOf]; omega) | simp [intOf]
   ·rw [e] at hp ⊢
    rw [if_neg (by decide:¬ (1:Nat)=0)] at hp
    by_cases h1:(d:Int)<(f:Int)
    ·rw [if_pos h1] at hp
     have h2:d<f:=by omega
     go_wp2_with fail
     go_roundw
     case rel=>exact ⟨.inr (.inr (.inr ⟨by go_num,by rw [hp]; first | done | rfl⟩)),HY.out⟩
     case measure=>first | (simp [intOf]; omega) | simp [intOf]
    ·rw [if_neg h1] at hp
     have h2:¬ d<f:=by omega
     go_wp2_with fail
     go_roundw
     case rel=>exact ⟨.inr (.inr (.inr ⟨by go_num,by rw [hp]; first | done | rfl⟩)),HY.out⟩
     case measure=>first | (simp [intOf]; omega) | simp [intOf]
  ·have h9:PD.pick s f d=0∨PD.pick s f d=1∨PD.pick s f d=2:=by have:=PD.pick_lt s f d; omega
   have u0:=HY.out.cell 2 rfl 0
   have u1:=HY.out.cell 2 rfl 1
   have u2:=HY.out.cell 2 rfl 2
   simp only [List.getElem?_cons_zero,List.getElem?_cons_succ] at u0 u1 u2
   have hz:Sp w0 (WB gw B::Bk g4 169 [.func (.func 80) #[.pointer (some ⟨g,0,none⟩)] #[],.func (.func 81) #[.pointer (some ⟨g,0,none⟩)] #[],.func (.func 82) #[.pointer (some ⟨g,0,none⟩)] #[]]::L) wr:=HY.out.pick 3 [1,2]
   have HZ:=Lib.hid hz
   clear hz
   clear HY t0 t1 t2
   rcases h9 with e | e | e
   ·rw [e]
    have h:=dstored_ok g gw dv p B HZ.out (fun w0 w h=>HB.out w0 w (h.pick 1 [])) (HSTO.out e) hB
    have HC:=Lib.hid h
    clear h
    go_wp2_with fail
    refine HC.out.mono ?_
    rintro _ w5 ⟨rfl,H5⟩
    go_wp2
    go_end0
    refine ⟨rfl,?_⟩
    have h:Sp w0 (WB gw _::L) w5:=H5.pick 2 [0]
    unfold BP.lay
    rw [e,if_pos rfl]
    exact h
   ·rw [e]
    have h:=dfixedB_ok g gw dv p B HZ.out (fun w0 w h=>HB.out w0 w (h.pick 1 [])) HOK.out.hokX HOK.out.hWl hB
    have HC:=Lib.hid h
    clear h
    go_wp2_with fail
    refine HC.out.mono ?_
    rintro _ w5 ⟨rfl,H5⟩
    go_wp2
    go_end0
    refine ⟨rfl,?_⟩
    have h:Sp w0 (WB gw _::L) w5:=H5.pick 2 [0]
    unfold BP.lay
    rw [e,if_neg (by decide),if_pos rfl]
    exact h
   ·rw [e]
    have h:=ddyn_ok g gw dv p B HZ.out (fun w0 w h=>HB.out w0 w (h.pick 1 [])) (fun w0 w h=>HT.out w0 w (h.pick 1 [])) HOK.out.hA1 HOK.out.hA2 HOK.out.hD1 HOK.out.hD2 HOK.out.hA HOK.out.hD HOK.out.hAs HOK.out.hDs HOK.out.hF HOK.out.hF7 HOK.out.hFs HOK.out.hokR HOK.out.hokW HOK.out.hRl HOK.out.hWl hB
    have HC:=Lib.hid h
    clear h
    go_wp2_with fail
    refine HC.out.mono ?_
    rintro _ w5 ⟨rfl,H5⟩
    go_wp2
    go_end0
    refine ⟨rfl,?_⟩
    have h:Sp w0 (WB gw _::L) w5:=H5.pick 2 [0]
    unfold BP.lay
    rw [e,if_neg (by decide),if_neg (by decide)]
    exact h
set_option linter.unusedVariables false
set_option linter.unusedSimpArgs false
open Go.RowKit
namespace PD
theorem tells_each {m:List Nat} : ∀ (l:List (Nat × Nat)) (acc:List Nat),PI.TellsOk m acc l→∀ t ∈ l,PI.Has m t.1∧t.2<2 ^ PI.tellB t.1:=by
 intro l
 induction l with
 | nil=>intro acc _ t ht; cases ht
 | cons u l ih =>
  intro acc h t ht
  rcases List.mem_cons.1 ht with rfl | ht
  ·exact ⟨h.1.1,h.1.2.1⟩
  ·exact ih _ h.2 t ht
theorem tellB_13 (s:Nat):PI.tellB s≤13:=by unfold PI.tellB; split <;> (try split) <;> (try split) <;> omega
theorem rowY_len (Y:List PM.St):(rowY Y).length≤316:=by
 have h:=rl_len (lenA Y++lenB Y).length 0 (lenA Y++lenB Y)
 have h2:(lenA Y++lenB Y).length≤316:=by
  have h3:=(lenA_ok Y).2.2.1
  have h4:=(lenB_ok Y).2.2.1
  rw [List.length_append]; omega
 exact Nat.le_trans h h2
theorem firstsW_len (F l:List Nat):(PI.firstsW F l).length=3 * l.length:=by
 induction l with
 | nil=>rfl
 | cons s l ih =>
  show (PBits.bitsOf _ 3++PI.firstsW F l).length=_
  rw [List.length_append,PBits.bitsOf_length,ih,List.length_cons]; omega
end PD
theorem bp_ok (Y:List PM.St) (b:List UInt8) (last:Bool) (n:Nat) (hY:PM.mays Y n) (hl:Y.length≤100000) (hb:b.length≤100000000):(BP.of Y b last).Ok:=by
 obtain ⟨a1,a2,a3,a4,a5⟩:=PD.lenA_ok Y
 obtain ⟨b1,b2,b3,b4,b5⟩:=PD.lenB_ok Y
 obtain ⟨c1,c2,c3,c4⟩:=PD.fst7_ok Y
 have hr:=PD.row_ok Y
 have hrl:=PD.rowY_len Y
 have hwl:=PD.words_len Y
 have hW:=PD.words_ok hY a5 b5
 have hX:=PD.words_ok (A:=PI.fixedL) (B:=PI.fixedD) hY (fun s _ hs=>PI.fixed_has s (by omega)) (fun s _ hs=>PI.fixed_hasD s (by omega))
 unfold BP.of
 generalize PD.lenA Y=A at *
 generalize PD.lenB Y=D at *
 generalize PD.fst7 Y=F at *
 generalize PD.rowY Y=R at *
 refine ⟨a2,a3,b2,b3,a4,b4,PI.book_sum a1,PI.book_sum b1,c2,c3,PI.book_sum c1,?_,hW,hX,by simpa using Nat.le_trans hrl (by decide),by show (PD.words Y).length≤_; omega,hb⟩
 intro t ht
 obtain ⟨q,hq,rfl⟩:=List.mem_map.1 ht
 obtain ⟨h1,h2⟩:=PD.tells_each R [] hr.2 q hq
 exact ⟨by show 0<2; decide,h1,h2,PD.tellB_13 _⟩
theorem bp_dyn (Y:List PM.St) (b:List UInt8) (last:Bool):(BP.of Y b last).dyn=PD.dynW Y:=by
 unfold BP.dyn BP.of PD.dynW PI.headW
 simp only
 rw [PD.lay_words,PD.lay_row]
theorem bp_lay (Y:List PM.St) (b:List UInt8) (last:Bool) (k a:Nat):(BP.of Y b last).lay k a=PD.layD k Y b last a:=by
 unfold BP.lay PD.layD PD.bodyD
 rw [bp_dyn]
 show [last]++PBits.bitsOf k 2++(if k=0 then _ else if k=1 then PD.layW PI.fixedL PI.fixedD (PD.words Y) else _)=_
 rw [PD.lay_words]
 rfl
theorem bp_kind (Y:List PM.St) (b:List UInt8) (last:Bool) (a:Nat):(BP.of Y b last).kind a=PD.kind Y b a:=by
 have h1:(BP.of Y b last).fixN=PD.fixN Y:=by
  show 3+PD.costW PI.fixedL PI.fixedD (PD.words Y)=3+(PD.fixW Y).length
  rw [← PD.layW_len,PD.lay_words]; rfl
 have h2:(BP.of Y b last).dynN=PD.dynN Y:=by
  have ht:=(PD.told_ok (PD.fst7 Y)).2
  unfold BP.dynN BP.of PD.dynN PD.dynW PI.headW
  simp only
  rw [← PD.layW_len,← PD.layW_len,PD.lay_words,PD.lay_row]
  have ho:PI.orderT.length=19:=rfl
  generalize PD.told (PD.fst7 Y)=m at ht ⊢
  generalize PD.fst7 Y=F
  generalize PD.rowY Y=R
  generalize PD.lenA Y=A
  generalize PD.lenB Y=D
  simp only [List.length_append,PBits.bitsOf_length,PD.firstsW_len,List.length_take,ho]
  omega
 unfold BP.kind PD.kind
 rw [h1,h2]
 rfl
end Go.Proofs.YtloijdbkikccgaaDoor

