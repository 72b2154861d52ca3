/- A pack. -/
import Derived.Test.YteajimobgkempaaGreatDoorPk37
set_option linter.all false
set_option maxRecDepth 100000
set_option maxHeartbeats 8000000
namespace Go.Proofs.YteajimobgkempaaGreatDoor
variable {w0 w:World} {L:List Pr}
open Go.RowKit
def BP.dyn (p:BP):List Bool:=PBits.bitsOf (p.A.length - 257) 5++(PBits.bitsOf (p.D.length - 1) 5++(PBits.bitsOf (PD.told p.F - 4) 4++(PI.firstsW p.F (PI.orderT.take (PD.told p.F))++PD.layW p.F [] p.R)))++PD.layW p.A p.D p.W
def BP.lay (p:BP) (k a:Nat):List Bool:=[p.last]++PBits.bitsOf k 2++(if k=0 then List.replicate (PD.pad (a+3)) false++PI.storedW p.b else if k=1 then PD.layW PI.fixedL PI.fixedD p.W else p.dyn)
def BP.fixN (p:BP):Nat:=3+PD.costW PI.fixedL PI.fixedD p.W
def BP.dynN (p:BP):Nat:=17+3 * PD.told p.F+PD.costW p.F [] p.R+PD.costW p.A p.D p.W
def BP.kind (p:BP) (a:Nat):Nat:=PD.pick (PD.sto p.b.length a) p.fixN p.dynN
structure BP.Ok (p:BP):Prop where
 hA1:257<=p.A.length
 hA2:p.A.length<=286
 hD1:1<=p.D.length
 hD2:p.D.length<=30
 hA:∀x ∈ p.A,x<=15
 hD:∀x ∈ p.D,x<=15
 hAs:PH.sum p.A<=32768
 hDs:PH.sum p.D<=32768
 hF:p.F.length=19
 hF7:∀x ∈ p.F,x<=7
 hFs:PH.sum p.F<=32768
 hokR:∀t ∈ p.R,PD.WdOk p.F [] t
 hokW:∀t ∈ p.W,PD.WdOk p.A p.D t
 hokX:∀t ∈ p.W,PD.WdOk PI.fixedL PI.fixedD t
 hRl:p.R.length<=1000
 hWl:p.W.length<=2000000
 hbl:p.b.length<=100000000
def two (s:Int) (f:Nat):Nat:=if 0<=s/\s<=(f:Int) then 0 else 1
theorem UI (s:Int) (f d:Nat):PD.pick s f d=if (d:Int)<(if two s f=0 then s else (f:Int)) then 2 else two s f:=by
 by_cases b:0<=s
 ·by_cases c:(f:Int)<s
  ·have e:two s f=1:=by unfold two; rw [if_neg (by omega)]
   unfold PD.pick;rw [e,if_pos b,if_pos c,if_neg (by decide:¬ (1:Nat)=0)];by_cases a:d<f
   ·rw [if_pos a,if_pos (by omega)]
   ·rw [if_neg a,if_neg (by omega)]
  ·have e:two s f=0:=by unfold two; rw [if_pos (by omega)]
   unfold PD.pick;rw [e,if_pos b,if_neg c,if_pos rfl]
 ·have e:two s f=1:=by unfold two; rw [if_neg (by omega)]
  unfold PD.pick;rw [e,if_neg b,if_neg (by decide:¬ (1:Nat)=0)];by_cases a:d<f
  ·rw [if_pos a,if_pos (by omega)]
  ·rw [if_neg a,if_neg (by omega)]
theorem Tx (g gw:Nat) (dv:DV) (p:BP) (B:List Bool) {TL TF:Option Addr} {cl cf:Nat} (H:Sp w0 (WB gw B::L) w) (hb:Ent L (DBr g dv p)) (hT:Ent L (DTabs TL TF cl cf)) (hok:p.Ok) (hB:B.length<=800000000) :
  Calls Tryz.prog 48 #[.pointer (some ⟨g,0,none⟩),.pointer (some ⟨gw,0,none⟩)] w fun e w'=>e=.returned (.tuple #[])/\Sp w0 (WB gw (B++p.lay (p.kind B.length) B.length)::L) w':=by
 have T:∀(fn:Fn) (first cap:Array Value) (w:World),(Instr.makeFunc fn first cap).run Tryz.prog w=.ok (.func fn first cap) w:=fun _ _ _ _=>rfl;have U:∀(a b c:Value) (w:World),(Instr.index 34 (.agg #[a,b,c]) (.int .i64 0)).run Tryz.prog w=.ok a w:=fun _ _ _ _=>rfl;have V:∀(a b c:Value) (w:World),(Instr.index 34 (.agg #[a,b,c]) (.int .i64 1)).run Tryz.prog w=.ok b w:=fun _ _ _ _=>rfl;have W:∀(a b c:Value) (w:World),(Instr.index 34 (.agg #[a,b,c]) (.int .i64 2)).run Tryz.prog w=.ok c w:=fun _ _ _ _=>rfl;obtain⟨s,F⟩:=exq (PD.sto p.b.length B.length);obtain⟨f,G⟩:=exq p.fixN;obtain⟨d,I⟩:=exq p.dynN;have J:=hid hb;have X:=hid hT;have i:=hid hok;have y:Hid (∀(L2:List Pr) (w2:World),Sp w0 (L2++L) w2->(∀φ,Ent L φ->Ent (L2++L) φ)->Calls Tryz.prog 28 #[.pointer (some ⟨g,0,none⟩),.int .i64 B.length] w2 fun e w'=>e=.returned (.agg #[.int .i64 s,.int .i64 f,.int .i64 d])/\Sp w0 (L2++L) w'):=hid fun L2 w2 H2 hE=>by
  have h:=VX g B.length dv p H2 (hE _ hb) (hE _ hT) hok.hbl hok.hA hok.hD hok.hF hok.hF7 hok.hokR hok.hokW hok.hokX hok.hRl hok.hWl (by omega);rw [F,show(3+PD.costW PI.fixedL PI.fixedD p.W:Nat)=f from G,show(17+3 * PD.told p.F+PD.costW p.F [] p.R+PD.costW p.A p.D p.W:Nat)=d from I] at h;exact h
 have z:Hid (PD.pick s f d=0->p.b.length<=65535):=hid fun h=>by
  have A:=PD.pick_sto h;rw [<- F] at A;unfold PD.sto at A;split at A
  ·assumption
  ·omega
 have m:p.kind B.length=PD.pick s f d:=by unfold BP.kind; rw [F,G,I]
 rw [m];have O:=hid H;clear hb hT hok H F G I m;go_enter Tryz.func48,Tryz.ntmps48
 go_wp2_with (refine Zn rfl 133 _ _ rfl w.heap.size 133 _ [.func (.func 78) #[.pointer (some ⟨g,0,none⟩)] #[],.func (.func 79) #[.pointer (some ⟨g,0,none⟩)] #[],.func (.func 80) #[.pointer (some ⟨g,0,none⟩)] #[]] rfl rfl (O.out.newBk _ _) rfl Tryz.sizeOf133 (by intro u P; simp only [List.mem_cons,List.not_mem_nil,or_false] at P; rcases P with rfl | rfl | rfl <;> rfl) ?_)
 intro w1 Q;have o:=hid (Q.pick 2 [1,0]);clear Q O;generalize w.heap.size=g4 at o ⊢;go_wp2_with fail
 refine(TS gw B o.out (by omega)).mono ?_;rintro _ w2 ⟨rfl,H2⟩;clear o;have n:=hid (y.out [WB gw B,Bk g4 133 [.func (.func 78) #[.pointer (some ⟨g,0,none⟩)] #[],.func (.func 79) #[.pointer (some ⟨g,0,none⟩)] #[],.func (.func 80) #[.pointer (some ⟨g,0,none⟩)] #[]]] w2 H2 (fun φ hφ w0 w h=>hφ _ _ (h.pick 2 [])));clear y H2;go_wp2_with fail
 refine n.out.mono ?_;rintro _ Y ⟨rfl,R⟩;clear n;have k:=hid (Sp.newBk (L:=WB gw B::Bk g4 133 [.func (.func 78) #[.pointer (some ⟨g,0,none⟩)] #[],.func (.func 79) #[.pointer (some ⟨g,0,none⟩)] #[],.func (.func 80) #[.pointer (some ⟨g,0,none⟩)] #[]]::L) R [.int .i64 s,.int .i64 f,.int .i64 d] 34);have r:=k.out.cell 0 rfl 0;have t:=k.out.cell 0 rfl 1;have v:=k.out.cell 0 rfl 2;simp only [List.getElem?_cons_zero,List.getElem?_cons_succ] at r t v;clear R;go_wp2_with fail
 generalize Y.heap.size=g6 at k r t v ⊢;clear r t v;go_loopw [5,21] (fun bv kv wr=>((kv=.int .i64 0/\bv=.int .i64 (-1))∨(kv=.int .i64 1/\bv=.int .i64 (if 0<=s then 0 else -1))∨(kv=.int .i64 2/\bv=.int .i64 (two s f:Nat))∨(kv=.int .i64 3/\bv=.int .i64 (PD.pick s f d:Nat)))/\Sp w0 (Bk g6 34 [.int .i64 s,.int .i64 f,.int .i64 d]::WB gw B::Bk g4 133 [.func (.func 78) #[.pointer (some ⟨g,0,none⟩)] #[],.func (.func 79) #[.pointer (some ⟨g,0,none⟩)] #[],.func (.func 80) #[.pointer (some ⟨g,0,none⟩)] #[]]::L) wr) (fun _ kv _=>3 - (intOf kv).toNat)
 case atStart=>exact⟨.inl ⟨rfl,rfl⟩,k.out⟩
 case round =>
  obtain⟨K,C⟩:=hrel;clear k;have j:=hid C;have r:=C.cell 0 rfl 0;have t:=C.cell 0 rfl 1;have v:=C.cell 0 rfl 2;simp only [List.getElem?_cons_zero,List.getElem?_cons_succ] at r t v;clear C;rcases K with ⟨rfl,rfl⟩ | ⟨rfl,rfl⟩ | ⟨rfl,rfl⟩ | ⟨rfl,rfl⟩
  ·by_cases q:0<=s
   ·have Z:s≥0:=q;go_wp2_with fail
    go_roundw
    case rel=>exact⟨.inr (.inl ⟨by go_num,by rw [if_pos q]⟩),j.out⟩
    case measure=>first | (simp [intOf]; omega) | simp [intOf]
   ·have Z:¬ s≥0:=q;go_wp2_with fail
    go_roundw
    case rel=>exact⟨.inr (.inl ⟨by go_num,by rw [if_neg q]⟩),j.out⟩
    case measure=>first | (simp [intOf]; omega) | simp [intOf]
  ·have kf:(f:Int)≥0:=by omega
   by_cases q:0<=s
   ·rw [if_pos q];by_cases x:(f:Int)<s
    ·have e:two s f=1:=by unfold two; rw [if_neg (by omega)]
     go_wp2_with fail
     go_roundw
     case rel=>exact⟨.inr (.inr (.inl ⟨by go_num,by rw [e]; first | done | rfl⟩)),j.out⟩
     case measure=>first | (simp [intOf]; omega) | simp [intOf]
    ·have e:two s f=0:=by unfold two; rw [if_pos (by omega)]
     go_wp2_with fail
     go_roundw
     case rel=>exact⟨.inr (.inr (.inl ⟨by go_num,by rw [e]; first | done | rfl⟩)),j.out⟩
     case measure=>first | (simp [intOf]; omega) | simp [intOf]
   ·rw [if_neg q];have e:two s f=1:=by unfold two; rw [if_neg (by omega)]
    go_wp2_with fail
    go_roundw
    case rel=>exact⟨.inr (.inr (.inl ⟨by go_num,by rw [e]; first | done | rfl⟩)),j.out⟩
    case measure=>first | (simp [intOf]; omega) | simp [intOf]
  ·have kd:(d:Int)≥0:=by omega
   have l:=UI s f d;have M:two s f=0∨two s f=1:=by unfold two; split <;> simp
   rcases M with e | e
   ·rw [e] at l ⊢;rw [if_pos rfl] at l;by_cases x:(d:Int)<s
    ·rw [if_pos x] at l;go_wp2_with fail
     go_roundw
     case rel=>exact⟨.inr (.inr (.inr ⟨by go_num,by rw [l]; first | done | rfl⟩)),j.out⟩
     case measure=>first | (simp [intOf]; omega) | simp [intOf]
    ·rw [if_neg x] at l;go_wp2_with fail
     go_roundw
     case rel=>exact⟨.inr (.inr (.inr ⟨by go_num,by rw [l]; first | done | rfl⟩)),j.out⟩
     case measure=>first | (simp [intOf]; omega) | simp [intOf]
   ·rw [e] at l ⊢;rw [if_neg (by decide:¬ (1:Nat)=0)] at l;by_cases x:(d:Int)<(f:Int)
    ·rw [if_pos x] at l;have A:d<f:=by omega
     go_wp2_with fail
     go_roundw
     case rel=>exact⟨.inr (.inr (.inr ⟨by go_num,by rw [l]; first | done | rfl⟩)),j.out⟩
     case measure=>first | (simp [intOf]; omega) | simp [intOf]
    ·rw [if_neg x] at l;have A:¬ d<f:=by omega
     go_wp2_with fail
     go_roundw
     case rel=>exact⟨.inr (.inr (.inr ⟨by go_num,by rw [l]; first | done | rfl⟩)),j.out⟩
     case measure=>first | (simp [intOf]; omega) | simp [intOf]
  ·have h9:PD.pick s f d=0∨PD.pick s f d=1∨PD.pick s f d=2:=by have:=PD.pick_lt s f d; omega
   have u0:=j.out.cell 2 rfl 0;have u1:=j.out.cell 2 rfl 1;have u2:=j.out.cell 2 rfl 2;simp only [List.getElem?_cons_zero,List.getElem?_cons_succ] at u0 u1 u2;have S:Sp w0 (WB gw B::Bk g4 133 [.func (.func 78) #[.pointer (some ⟨g,0,none⟩)] #[],.func (.func 79) #[.pointer (some ⟨g,0,none⟩)] #[],.func (.func 80) #[.pointer (some ⟨g,0,none⟩)] #[]]::L) wr:=j.out.pick 3 [1,2];have N:=hid S;clear S;clear j r t v;rcases h9 with e | e | e
   ·rw [e];have h:=WU g gw dv p B N.out (fun w0 w h=>J.out w0 w (h.pick 1 [])) (z.out e) hB;have D:=hid h;clear h;go_wp2_with fail
    refine D.out.mono ?_;rintro _ w5 ⟨rfl,E⟩;go_wp2;go_end0;refine⟨rfl,?_⟩;have h:Sp w0 (WB gw _::L) w5:=E.pick 2 [0];unfold BP.lay;rw [e,if_pos rfl];exact h
   ·rw [e];have h:=WW g gw dv p B N.out (fun w0 w h=>J.out w0 w (h.pick 1 [])) i.out.hokX i.out.hWl hB;have D:=hid h;clear h;go_wp2_with fail
    refine D.out.mono ?_;rintro _ w5 ⟨rfl,E⟩;go_wp2;go_end0;refine⟨rfl,?_⟩;have h:Sp w0 (WB gw _::L) w5:=E.pick 2 [0];unfold BP.lay;rw [e,if_neg (by decide),if_pos rfl];exact h
   ·rw [e];have h:=Tw g gw dv p B N.out (fun w0 w h=>J.out w0 w (h.pick 1 [])) (fun w0 w h=>X.out w0 w (h.pick 1 [])) i.out.hA1 i.out.hA2 i.out.hD1 i.out.hD2 i.out.hA i.out.hD i.out.hAs i.out.hDs i.out.hF i.out.hF7 i.out.hFs i.out.hokR i.out.hokW i.out.hRl i.out.hWl hB;have D:=hid h;clear h;go_wp2_with fail
    refine D.out.mono ?_;rintro _ w5 ⟨rfl,E⟩;go_wp2;go_end0;refine⟨rfl,?_⟩;have h:Sp w0 (WB gw _::L) w5:=E.pick 2 [0];unfold BP.lay;rw [e,if_neg (by decide),if_neg (by decide)];exact h
namespace PD
theorem tells_each {m:List Nat} : ∀(l:List (Nat × Nat)) (acc:List Nat),PI.TellsOk m acc l->∀t ∈ l,PI.Has m t.1/\t.2<2 ^ PI.tellB t.1:=by
 intro l;induction l with
 | nil=>intro acc _ t a; cases a
 | cons u l ih =>
  intro acc h t a;rcases List.mem_cons.1 a with rfl | a
  ·exact⟨h.1.1,h.1.2.1⟩
  ·exact ih _ h.2 t a
theorem tellB_13 (s:Nat):PI.tellB s<=13:=by unfold PI.tellB; split <;> (try split) <;> (try split) <;> omega
theorem rowY_len (Y:List PM.St):(rowY Y).length<=316:=by
 have h:=rl_len (lenA Y++lenB Y).length 0 (lenA Y++lenB Y);have a:(lenA Y++lenB Y).length<=316:=by
  have b:=(lenA_ok Y).2.2.1;have c:=(lenB_ok Y).2.2.1;rw [List.length_append]; omega
 exact Nat.le_trans h a
theorem firstsW_len (F l:List Nat):(PI.firstsW F l).length=3 * l.length:=by
 induction l with
 | nil=>rfl
 | cons s l ih =>
  show(PBits.bitsOf _ 3++PI.firstsW F l).length=_;rw [List.length_append,PBits.bitsOf_length,ih,List.length_cons]; omega
end PD
theorem TV (Y:List PM.St) (b:List UInt8) (last:Bool) (n:Nat) (hY:PM.mays Y n) (hl:Y.length<=100000) (hb:b.length<=100000000):(BP.of Y b last).Ok:=by
 obtain⟨c,d,e,f,g⟩:=PD.lenA_ok Y;obtain⟨h,i,j,k,l⟩:=PD.lenB_ok Y;obtain⟨m,o,p,E⟩:=PD.fst7_ok Y;have r:=PD.row_ok Y;have a:=PD.rowY_len Y;have u:=PD.words_len Y;have v:=PD.words_ok hY g l;have w:=PD.words_ok (A:=PI.fixedL) (B:=PI.fixedD) hY (fun s _ hs=>PI.fixed_has s (by omega)) (fun s _ hs=>PI.fixed_hasD s (by omega));unfold BP.of;generalize PD.lenA Y=A at *;generalize PD.lenB Y=D at *;generalize PD.fst7 Y=F at *;generalize PD.rowY Y=R at *;refine⟨d,e,i,j,f,k,PI.book_sum c,PI.book_sum h,o,p,PI.book_sum m,?_,v,w,by simpa using Nat.le_trans a (by decide),by show(PD.words Y).length<=_; omega,hb⟩;intro t x;obtain⟨q,y,rfl⟩:=List.mem_map.1 x;obtain⟨z,C⟩:=PD.tells_each R [] r.2 q y;exact⟨by show 0<2; decide,z,C,PD.tellB_13 _⟩
theorem TW (Y:List PM.St) (b:List UInt8) (last:Bool):(BP.of Y b last).dyn=PD.dynW Y:=by
 unfold BP.dyn BP.of PD.dynW PI.headW;simp only;rw [PD.lay_words,PD.lay_row]
theorem UY (Y:List PM.St) (b:List UInt8) (last:Bool) (k a:Nat):(BP.of Y b last).lay k a=PD.layD k Y b last a:=by
 unfold BP.lay PD.layD PD.bodyD;rw [TW];show [last]++PBits.bitsOf k 2++(if k=0 then _ else if k=1 then PD.layW PI.fixedL PI.fixedD (PD.words Y) else _)=_;rw [PD.lay_words];rfl
theorem Ty (Y:List PM.St) (b:List UInt8) (last:Bool) (a:Nat):(BP.of Y b last).kind a=PD.kind Y b a:=by
 have c:(BP.of Y b last).fixN=PD.fixN Y:=by
  show 3+PD.costW PI.fixedL PI.fixedD (PD.words Y)=3+(PD.fixW Y).length;rw [<- PD.layW_len,PD.lay_words]; rfl
 have d:(BP.of Y b last).dynN=PD.dynN Y:=by
  have e:=(PD.told_ok (PD.fst7 Y)).2;unfold BP.dynN BP.of PD.dynN PD.dynW PI.headW;simp only;rw [<- PD.layW_len,<- PD.layW_len,PD.lay_words,PD.lay_row];have f:PI.orderT.length=19:=rfl;generalize PD.told (PD.fst7 Y)=m at e ⊢;generalize PD.fst7 Y=F;generalize PD.rowY Y=R;generalize PD.lenA Y=A;generalize PD.lenB Y=D;simp only [List.length_append,PBits.bitsOf_length,PD.firstsW_len,List.length_take,f];omega
 unfold BP.kind PD.kind;rw [c,d];rfl
end Go.Proofs.YteajimobgkempaaGreatDoor

