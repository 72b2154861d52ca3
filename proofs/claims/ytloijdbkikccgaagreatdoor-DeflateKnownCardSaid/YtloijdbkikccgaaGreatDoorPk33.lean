/- A pack of texts: InfN InfTells InfEnd DefO DefShP DefFew DefRows DefTells. -/
import Derived.OwnWalk
import Derived.Test.YtloijdbkikccgaaGreatDoorPk03
import Derived.Test.YtloijdbkikccgaaGreatDoorPk15
import Derived.Test.YtloijdbkikccgaaGreatDoorPk21
import Derived.Test.YtloijdbkikccgaaGreatDoorPk22
import Derived.Test.YtloijdbkikccgaaGreatDoorPk23
import Derived.Test.YtloijdbkikccgaaGreatDoorPk27
import Derived.Test.YtloijdbkikccgaaGreatDoorPk28
import Derived.Test.YtloijdbkikccgaaGreatDoorPk30
import Derived.Test.YtloijdbkikccgaaGreatDoorPk32
namespace Go.Proofs.YtloijdbkikccgaaGreatDoor
set_option linter.unusedVariables false
set_option linter.unusedSimpArgs false
open Go.RowKit
def AEnd (w0:World) (L:List Pr) (T:Except Nat (Nat × List UInt8 × List PI.Blk)) (e:Ending) (w' : World):Prop :=
 match T with
 | .error c=>e=.returned (.tuple #[.slice none 0 0,.int .i64 0,.int .i64 (c:Int)])/\Sp w0 L w'
 | .ok r=>∃vo,e=.returned (.tuple #[vo,.int .i64 (((r.1+7) / 8:Nat):Int),.int .i64 0])/\Sp w0 (Row 5 1 vo r.2.1.length (cells8 r.2.1)::L) w'
def BEnd (w0:World) (L:List Pr) (T:Except Nat (Nat × List UInt8 × List PI.Blk)) (e:Ending) (w' : World):Prop :=
 match T with
 | .error c=>e=.returned (.tuple #[.slice none 0 0,.int .i64 (c:Int)])/\Sp w0 L w'
 | .ok r=>∃vb,e=.returned (.tuple #[vb,.int .i64 0])/\Sp w0 (Row 72 4 vb r.2.2.length (cellsB r.2.2)::L) w'
theorem AEnd.no {w0:World} {L:List Pr} {T:Except Nat (Nat × List UInt8 × List PI.Blk)} {w' : World} {c:Nat} (h:T=.error c) (H:Sp w0 L w'):AEnd w0 L T (.returned (.tuple #[.slice none 0 0,.int .i64 0,.int .i64 (c:Int)])) w':=by
 subst h; exact⟨rfl,H⟩
theorem AEnd.yes {w0:World} {L:List Pr} {T:Except Nat (Nat × List UInt8 × List PI.Blk)} {w' : World} {r:Nat × List UInt8 × List PI.Blk} {vo:Value} {n:Int} (h:T=.ok r) (hn:n=(((r.1+7) / 8:Nat):Int)) (H:Sp w0 (Row 5 1 vo r.2.1.length (cells8 r.2.1)::L) w'):AEnd w0 L T (.returned (.tuple #[vo,.int .i64 n,.int .i64 0])) w':=by
 subst h hn; exact⟨vo,rfl,H⟩
theorem BEnd.no {w0:World} {L:List Pr} {T:Except Nat (Nat × List UInt8 × List PI.Blk)} {w' : World} {c:Nat} (h:T=.error c) (H:Sp w0 L w'):BEnd w0 L T (.returned (.tuple #[.slice none 0 0,.int .i64 (c:Int)])) w':=by
 subst h; exact⟨rfl,H⟩
theorem BEnd.yes {w0:World} {L:List Pr} {T:Except Nat (Nat × List UInt8 × List PI.Blk)} {w' : World} {r:Nat × List UInt8 × List PI.Blk} {vb:Value} (h:T=.ok r) (H:Sp w0 (Row 72 4 vb r.2.2.length (cellsB r.2.2)::L) w'):BEnd w0 L T (.returned (.tuple #[vb,.int .i64 0])) w':=by
 subst h; exact⟨vb,rfl,H⟩
set_option maxRecDepth 100000 in
set_option maxHeartbeats 4000000 in
theorem xall_ok (v:Value) (l:List UInt8) (most:Nat) (TL TA:Option Addr) (cl ca:Nat) {w0 w:World} {L:List Pr} (H:Sp w0 L w) (hb:Ent L fun w=>Byt w v l) (hl:l.length<=100000000) (hm:most<=1000000000) (hT:Ent L (Tabs TL TA cl ca)) :
  Calls Tryz.prog 37 #[v,.int .i64 (most:Int)] w (AEnd w0 L (PI.all (PBits.ofB l) most)):=by
 have HX:=Lib.hid (xexpand_ok v l most TL TA cl ca H hb hl hm hT)
 clear hT hb
 go_enter Tryz.func37,Tryz.ntmps37
 go_wp2_with fail
 refine HX.out.mono ?_
 intro e9 w1 h9
 unfold XEnd at h9
 cases hr:PI.all (PBits.ofB l) most with
 | error c =>
  rw [hr] at h9
  obtain⟨rfl,H1⟩:=h9
  have hc:=PI.all_err hr
  have k1:((c:Int) != 0)=true:=by simp; omega
  have k1' : ¬ (c:Int)=0:=by omega
  have HE:=Lib.hid hr
  clear hr HX hc
  go_wp2_with fail
  go_ret3
  exact AEnd.no HE.out H1
 | ok r =>
  rw [hr] at h9
  obtain⟨gx,rfl,H1⟩:=h9
  obtain⟨gr,vo,vb,H2⟩:=xd_open H1
  obtain⟨at_,out,bl⟩:=r
  simp only at H2
  obtain⟨VO,vc,rfl,hvn,hvm⟩:=Row.form H2 2 rfl
  have hat:=(PI.all_pos hr).1
  rw [PBits.ofB_length] at hat
  simp only at hat
  obtain⟨A3,e3,H3,hb3,r0,r1,r2⟩:=rr_open H2
  have d0:w1.cell? ⟨gx,0,none⟩=some (.pointer (some ⟨gr,0,none⟩)):=H2.cell 1 rfl 0
  have d1:w1.cell? ⟨gx,1,none⟩=some (.slice VO out.length vc):=H2.cell 1 rfl 1
  have HE:=Lib.hid hr
  obtain⟨n8,hn8⟩:∃n8,(at_+7) / 8=n8:=⟨_,rfl⟩
  obtain⟨n7,hn7⟩:∃n7,at_+7=n7:=⟨_,rfl⟩
  have y0:(at_:Int)+7=(n7:Int):=by omega
  have y1:(n7:Int) / 8=(n8:Int):=by omega
  have HN8:=Lib.hid hn8
  have Q:Hid (∀m:Nat,Calls Tryz.prog 63 #[.pointer (some ⟨gr,0,none⟩)] (w1.drewN m) fun e w'=>e=.returned (.int .i64 (at_:Int))/\w'=w1.drewN m):=Lib.hid fun m=>(at_ok gr at_ (w:=w1.drewN m) r1 r2).mono fun _ _ h=>⟨h.1,h.2.symm⟩
  clear hr HX H1 H3 hb3 r0 hn8 hn7
  go_wp2_with fail
  go_quiet ((go_at_call 63; exact Calls.quiet_of_same (Q.out _)))
  have H4:=H2.drewN nq
  generalize w1.drewN nq=w7 at H4 ⊢
  go_wp2
  go_ret3
  refine AEnd.yes HE.out (by rw [<- HN8.out]) ?_
  exact H4.pick 4 [2]
set_option maxRecDepth 100000 in
set_option maxHeartbeats 4000000 in
theorem xblocks_ok (v:Value) (l:List UInt8) (most:Nat) (TL TA:Option Addr) (cl ca:Nat) {w0 w:World} {L:List Pr} (H:Sp w0 L w) (hb:Ent L fun w=>Byt w v l) (hl:l.length<=100000000) (hm:most<=1000000000) (hT:Ent L (Tabs TL TA cl ca)) :
  Calls Tryz.prog 33 #[v,.int .i64 (most:Int)] w (BEnd w0 L (PI.all (PBits.ofB l) most)):=by
 have HX:=Lib.hid (xexpand_ok v l most TL TA cl ca H hb hl hm hT)
 clear hT hb
 go_enter Tryz.func33,Tryz.ntmps33
 go_wp2_with fail
 refine HX.out.mono ?_
 intro e9 w1 h9
 unfold XEnd at h9
 cases hr:PI.all (PBits.ofB l) most with
 | error c =>
  rw [hr] at h9
  obtain⟨rfl,H1⟩:=h9
  have hc:=PI.all_err hr
  have k1:((c:Int) != 0)=true:=by simp; omega
  have k1' : ¬ (c:Int)=0:=by omega
  have HE:=Lib.hid hr
  clear hr HX hc
  go_wp2_with fail
  go_ret2
  exact BEnd.no HE.out H1
 | ok r =>
  rw [hr] at h9
  obtain⟨gx,rfl,H1⟩:=h9
  obtain⟨gr,vo,vb,H2⟩:=xd_open H1
  have d1:w1.cell? ⟨gx,3,none⟩=some vb:=H2.cell 1 rfl 3
  have HE:=Lib.hid hr
  clear hr HX H1
  go_wp2_with fail
  go_ret2
  exact BEnd.yes HE.out (H2.pick 4 [3])
namespace PI
set_option maxRecDepth 100000 in
theorem row_a:(all (PBits.ofB [3,0]) 0).toOption.map (fun r=>((r.1+7) / 8,r.2.1))=some (2,[]):=by decide +kernel
end PI
theorem AEnd.row {w0:World} {L:List Pr} {T:Except Nat (Nat × List UInt8 × List PI.Blk)} {n:Nat} {o:List UInt8} (h:T.toOption.map (fun r=>((r.1+7) / 8,r.2.1))=some (n,o)) {e:Ending} {w' : World} (k:AEnd w0 L T e w') :
  ∃A c,e=.returned (.tuple #[.slice A o.length c,.int .i64 (n:Int),.int .i64 0])/\Sp w0 (Row 5 1 (.slice A o.length c) o.length (cells8 o)::L) w':=by
 cases T with
 | error c=>cases h
 | ok r =>
  have h2:((r.1+7) / 8,r.2.1)=(n,o):=Option.some.inj h
  injection h2 with h3 h4
  obtain⟨vo,rfl,H⟩:=k
  rw [h4] at H
  obtain⟨A,c,rfl,_,_⟩:=Row.form H 0 rfl
  exact⟨A,c,by rw [h3],H⟩
def blC (b:PI.Blk):List Value:=[.int .i64 (b.kind:Int),.bool b.last,.int .i64 (b.from_:Int),.int .i64 (b.to_:Int)]
theorem rdBlk {w:World} {A:Option Addr} {l:List PI.Blk} (h:Rd w A (cellsB l)) {i:Nat} {b:PI.Blk} (hi:l[i]?=some b):∃ad,A=some ad/\∀j v,(blC b)[j]?=some v->w.cell? ((ad.add (i * 4)).add j)=some v:=by
 have hil:i<l.length:=(List.getElem?_eq_some_iff.1 hi).1
 have hc:cellsB l=l.flatMap blC:=rfl
 rw [hc] at h
 obtain⟨ad,e,hc⟩:=h (fun h0=>by
  have:=congrArg List.length h0
  rw [flat_len blC 4 (fun _=>rfl)] at this
  simp at this
  omega)
 refine⟨ad,e,fun j v hj=>?_⟩
 have hj4:j<4:=(List.getElem?_eq_some_iff.1 hj).1
 obtain⟨p,h1,h2⟩:=flat_get blC 4 (fun _=>rfl) l i j hj4 hil
 rw [hi] at h1
 injection h1 with h1
 rw [Go.Addr.add_add]
 refine hc _ _ ?_
 rw [h2,<- h1]
 exact hj
theorem AEnd.got {w0:World} {L:List Pr} {T:Except Nat (Nat × List UInt8 × List PI.Blk)} {r:Nat × List UInt8 × List PI.Blk} (h:T=.ok r) {e:Ending} {w' : World} (k:AEnd w0 L T e w') :
  ∃A c,e=.returned (.tuple #[.slice A r.2.1.length c,.int .i64 (((r.1+7) / 8:Nat):Int),.int .i64 0])/\Sp w0 (Row 5 1 (.slice A r.2.1.length c) r.2.1.length (cells8 r.2.1)::L) w':=by
 subst h
 obtain⟨vo,rfl,H⟩:=k
 obtain⟨A,c,rfl,_,_⟩:=Row.form H 0 rfl
 exact⟨A,c,rfl,H⟩
theorem AEnd.bad {w0:World} {L:List Pr} {T:Except Nat (Nat × List UInt8 × List PI.Blk)} {c:Nat} (h:T=.error c) {e:Ending} {w' : World} (k:AEnd w0 L T e w') :
  e=.returned (.tuple #[.slice none 0 0,.int .i64 0,.int .i64 (c:Int)])/\Sp w0 L w':=by
 subst h; exact k
theorem BEnd.got {w0:World} {L:List Pr} {T:Except Nat (Nat × List UInt8 × List PI.Blk)} {r:Nat × List UInt8 × List PI.Blk} (h:T=.ok r) {e:Ending} {w' : World} (k:BEnd w0 L T e w') :
  ∃A c,e=.returned (.tuple #[.slice A r.2.2.length c,.int .i64 0])/\Sp w0 (Row 72 4 (.slice A r.2.2.length c) r.2.2.length (cellsB r.2.2)::L) w':=by
 subst h
 obtain⟨vo,rfl,H⟩:=k
 obtain⟨A,c,rfl,_,_⟩:=Row.form H 0 rfl
 exact⟨A,c,rfl,H⟩
theorem byt_row {w0 w:World} {M:List Pr} {A:Option Addr} {n c:Nat} {e:TypeId} {l:List UInt8} (H:Sp w0 M w) (k:Nat) (hk:M[k]?=some (Row e 1 (.slice A n c) n (cells8 l))) (hn:n=l.length):Byt w (.slice A n c) l:=by
 subst hn
 exact H.row_byt k hk
theorem tabs_same {W:World} {TL TA:Option Addr} {cl ca:Nat} (h:Tabs TL TA cl ca W):Ent [Same W] (Tabs TL TA cl ca):=Ent.of_same 0 rfl fun _ hs=>h.heap hs
namespace PD
theorem size_258 (Y:List PM.St) (h:∀s ∈ Y,StOk s):PM.size Y<=258 * Y.length:=by
 induction Y with
 | nil=>exact Nat.le_refl _
 | cons s l ih =>
  have h1:PM.made s<=258:=by
   rcases h s List.mem_cons_self with h | h <;> (unfold PM.made; omega)
  have h2:=ih fun t ht=>h t (List.mem_cons_of_mem _ ht)
  show PM.made s+PM.size l<=_
  rw [List.length_cons]; omega
def toN (s:StI):PM.St:=(s.1.toNat,s.2.1.toNat,s.2.2)
theorem toN_of (X:List StI) (n:Nat) (h:mayI X n=true):X=(X.map toN).map toI/\PM.mays (X.map toN) n:=by
 induction X generalizing n with
 | nil=>exact⟨rfl,trivial⟩
 | cons s X ih =>
  have h' : fitsI s (n:Int)=true/\mayI X ((n:Int)+madeI s)=true:=by
   have:(fitsI s (n:Int) && mayI X ((n:Int)+madeI s))=true:=h
   simpa using this
  obtain⟨h1,h2⟩:=h'
  have hm:=fitsI_made h1
  have e:(n:Int)+madeI s=((n+PM.made (toN s):Nat):Int):=by
   unfold madeI PM.made toN; simp only; omega
  rw [e] at h2
  obtain⟨i1,i2⟩:=ih _ h2
  obtain⟨a,b,c⟩:=s
  unfold fitsI at h1
  simp only at h1
  by_cases ha:a=0
  ·subst ha
   rw [if_pos rfl] at h1
   have hb:b=0:=of_decide_eq_true h1
   subst hb
   refine⟨?_,.inl ⟨rfl,rfl⟩,i2⟩
   rw [List.map_cons,List.map_cons,<- i1]; rfl
  ·rw [if_neg ha] at h1
   obtain⟨b1,b2,b3,b4,b5,b6⟩:=of_decide_eq_true h1
   refine⟨?_,.inr ⟨by show 3<=a.toNat; omega,by show a.toNat<=258; omega,by show 1<=b.toNat; omega,by show b.toNat<=32768; omega,by show b.toNat<=n; omega,?_⟩,i2⟩
   ·rw [List.map_cons,List.map_cons,<- i1]
    have e1:toI (toN (a,b,c))=(a,b,c):=by
     unfold toI toN; simp only
     rw [show((a.toNat:Nat):Int)=a by omega,show((b.toNat:Nat):Int)=b by omega]
    rw [e1]
   ·show c=0
    exact UInt8.toNat_inj.1 (by rw [b6]; rfl)
end PD
set_option maxRecDepth 100000 in
set_option maxHeartbeats 1000000 in
theorem dasks_ok (V:Option Addr) (n c:Nat) (Y:List PM.St) {w0 w:World} {L:List Pr} (H:Sp w0 L w) (hn:n=Y.length) (hnm:n<=3000) (h:Ent L fun w=>StAt w V Y) (hY:PM.mays Y 0) :
  Calls Tryz.prog 51 #[.slice V n c] w fun e w'=>∃v,e=.returned (.tuple #[v,.int .i64 0])/\Sp w0 (Row 5 1 v (PM.expand Y []).length (cells8 (PM.expand Y []))::L) w':=by
 have hsz:=PD.size_258 Y (PD.mays_ok Y 0 hY)
 have HE:=Lib.hid (expand_ok V n c Y 16777216 H hn (by omega) h hY (by omega) (by omega))
 clear H hn h hY hsz
 go_enter Tryz.func51,Tryz.ntmps51
 go_wp2_with fail
 refine HE.out.mono ?_
 rintro _ w1 ⟨v1,rfl,H1⟩
 clear HE
 go_wp2
 go_ret2
 exact⟨v1,rfl,H1⟩
set_option maxRecDepth 100000 in
set_option maxHeartbeats 1000000 in
theorem dasks_bad (V:Option Addr) (n c:Nat) (X:List StI) {w0 w:World} {L:List Pr} (H:Sp w0 L w) (hn:n=X.length) (hnm:n<=1000000) (h:Ent L fun w=>StI_ w V X) (hbad:mayI X 0=false) :
  Calls Tryz.prog 51 #[.slice V n c] w fun e w'=>e=.returned (.tuple #[.slice none 0 0,.int .i64 1])/\Sp w0 L w':=by
 have HE:=Lib.hid (expand_bad V n c X 16777216 H hn hnm h (.inr hbad))
 clear H hn h hbad
 go_enter Tryz.func51,Tryz.ntmps51
 go_wp2_with fail
 refine HE.out.mono ?_
 rintro _ w1 ⟨rfl,H1⟩
 clear HE
 go_wp2
 go_ret2
 exact⟨rfl,H1⟩
set_option maxRecDepth 100000 in
set_option maxHeartbeats 1000000 in
theorem dsteps_ok (V:Option Addr) (n c:Nat) (Y:List PM.St) {TL TF:Option Addr} {cl cf:Nat} {w0 w:World} {L:List Pr} (H:Sp w0 L w) (hT:Ent L (DTabs TL TF cl cf)) (hn:n=Y.length) (hnm:n<=3000) (hc:n<=c) (hcm:c<=maxLen) (h:Ent L fun w=>StAt w V Y) (hY:PM.mays Y 0) :
  Calls Tryz.prog 21 #[.slice V n c] w fun e w'=>∃v,e=.returned (.tuple #[v,.int .i64 0])/\Sp w0 (Row 5 1 v (PD.stream Y (PM.expand Y [])).length (cells8 (PD.stream Y (PM.expand Y [])))::L) w':=by
 have hsz:=PD.size_258 Y (PD.mays_ok Y 0 hY)
 have hbl:(PM.expand Y []).length=PM.size Y:=by rw [PM.expand_length,List.length_nil,Nat.zero_add]
 have HE:=Lib.hid (dasks_ok V n c Y H hn hnm h hY)
 obtain⟨b,hb⟩:∃b,PM.expand Y []=b:=⟨_,rfl⟩
 rw [hb] at HE hbl ⊢
 obtain⟨k,hk⟩:∃k,b.length=k:=⟨_,rfl⟩
 rw [hk] at HE hbl
 have hk1:k<=1000000:=by omega
 have HT:=Lib.hid hT
 have HN:=Lib.hid hn
 have HS:=Lib.hid h
 have HY:=Lib.hid hY
 have HB:=Lib.hid hb
 have HK:=Lib.hid hk
 clear H hT hn h hY hsz hbl hb hk
 go_enter Tryz.func21,Tryz.ntmps21
 go_wp2_with fail
 refine HE.out.mono ?_
 rintro _ w1 ⟨v1,rfl,H1⟩
 obtain⟨B,bc,rfl,hb1,hb2⟩:=Row.form H1 0 rfl
 have HQ:=Lib.hid (dstream_ok V B n c k bc Y b H1 (fun w0 w h=>HT.out w0 w h.tail) HN.out (by omega) hc hcm (fun w0 w h=>HS.out w0 w h.tail) HY.out HB.out HK.out.symm (by omega) hb1 hb2 (fun w0 w h=>byt_row h 0 rfl HK.out.symm))
 clear HE H1
 go_wp2_with fail
 refine HQ.out.mono ?_
 rintro _ w2 ⟨v2,rfl,H2⟩
 have H3:=H2.pick 2 [0]
 clear HQ H2
 go_wp2
 go_ret2
 exact⟨v2,rfl,H3⟩
set_option maxRecDepth 100000 in
set_option maxHeartbeats 1000000 in
theorem dsteps_bad (V:Option Addr) (n c:Nat) (X:List StI) {w0 w:World} {L:List Pr} (H:Sp w0 L w) (hn:n=X.length) (hnm:n<=1000000) (h:Ent L fun w=>StI_ w V X) (hbad:mayI X 0=false) :
  Calls Tryz.prog 21 #[.slice V n c] w fun e w'=>e=.returned (.tuple #[.slice none 0 0,.int .i64 1])/\Sp w0 L w':=by
 have HE:=Lib.hid (dasks_bad V n c X H hn hnm h hbad)
 clear H hn h hbad
 go_enter Tryz.func21,Tryz.ntmps21
 go_wp2_with fail
 refine HE.out.mono ?_
 rintro _ w1 ⟨rfl,H1⟩
 clear HE
 go_wp2
 go_ret2
 exact⟨rfl,H1⟩
namespace PD
theorem pad_up (a:Nat):a+pad a=(a+7) / 8 * 8:=by unfold pad; omega
theorem stD_8 (Y:List PM.St) (b:List UInt8) (hb:b.length=PM.size Y) (h:b.length<=65535) (i:Nat):(stD Y b i).length<=8 * (atB Y i+5 * i):=by
 induction i with
 | zero=>exact Nat.zero_le _
 | succ i ih =>
  rw [stD,List.length_append]
  have hz:PM.size (partY Y i)+atB Y i=atB Y (i+1):=by rw [atB_succ]; omega
  have hle:=atB_le Y (i+1)
  have hpl:(partB Y b i).length=PM.size (partY Y i):=by unfold partB; rw [List.length_take,List.length_drop]; omega
  have h1:=(partD_le (partY Y i) (partB Y b i) (decide (Y.length<=512 * (i+1))) (stD Y b i).length).2.2 (by omega)
  have h2:=pad_up ((stD Y b i).length+3)
  rw [hpl] at h1
  omega
theorem stream_short (Y:List PM.St) (b:List UInt8) (hb:b.length=PM.size Y) (h:b.length<=65535):(stream Y b).length<=PM.size Y+5 * many Y:=by
 have h1:=stD_8 Y b hb h (many Y)
 rw [atB_end Y (many Y) (by unfold many; omega)] at h1
 rw [stream_len]
 unfold bitsD
 omega
theorem blksD_len (Y:List PM.St) (b:List UInt8):(blksD Y b).length=many Y:=by unfold blksD; rw [List.length_map,List.length_range]
theorem blksD_get (Y:List PM.St) (b:List UInt8) (j:Nat) (h:j<many Y):(blksD Y b)[j]?=some ⟨kind (partY Y j) (partB Y b j) (stD Y b j).length,decide (j+1=many Y),atB Y j,atB Y (j+1)⟩:=by
 unfold blksD
 rw [List.getElem?_map,List.getElem?_range h]; rfl
theorem one_part (Y:List PM.St) (b:List UInt8) (hb:b.length=PM.size Y) (h:many Y=1):(bitsD Y b).length=(layD (kind Y b 0) Y b true 0).length/\(blksD Y b)[0]?=some ⟨kind Y b 0,true,0,PM.size Y⟩:=by
 have h512:Y.length<=512:=by unfold many at h; omega
 have hp:partY Y 0=Y:=by unfold partY; rw [Nat.mul_zero,List.drop_zero,List.take_of_length_le h512]
 have ha:atB Y 0=0:=rfl
 have hq:partB Y b 0=b:=by unfold partB; rw [hp,ha,List.drop_zero,List.take_of_length_le (by omega)]
 refine⟨?_,?_⟩
 ·unfold bitsD
  rw [h,stD,stD,List.nil_append,hp,hq]
  unfold partD
  rw [decide_eq_true (by omega)]; rfl
 ·rw [blksD_get Y b 0 (by omega),hp,hq,atB_end Y (0+1) (by omega),h]; rfl
def bestK (x:Int) (y z:Nat):Nat:=if 0<x/\x<=(if z<y then z else y:Nat) then 0 else if z<y then 2 else 1
theorem one_kind (Y:List PM.St) (b:List UInt8):kind Y b 0=bestK (max (sto b.length 0) 0) (fixN Y) (dynN Y) /\
  (layD (kind Y b 0) Y b true 0).length=(if kind Y b 0=0 then (max (sto b.length 0) 0).toNat else if kind Y b 0=1 then fixN Y else dynN Y):=by
 have hk:kind Y b 0=pick (sto b.length 0) (fixN Y) (dynN Y):=rfl
 have l0:=layD0_len Y b true 0
 have l1:=layD1_len Y b true 0
 have l2:=layD2_len Y b true 0
 generalize fixN Y=f at *
 generalize dynN Y=d at *
 have hs:b.length<=65535->sto b.length 0=((3+pad (0+3)+32+8 * b.length:Nat):Int):=fun h=>by unfold sto; rw [if_pos h]
 have hn:¬ b.length<=65535->sto b.length 0 = -1:=fun h=>by unfold sto; rw [if_neg h]
 generalize sto b.length 0=s at *
 generalize hq:3+pad (0+3)+32+8 * b.length=q at *
 have hq0:0<q:=by omega
 unfold pick at hk
 unfold bestK
 by_cases hb:b.length<=65535
 ·have hs:=hs hb
  have e:max s 0=(q:Int):=by omega
  rw [e]
  rw [if_pos (by omega)] at hk
  split at hk
  ·rename_i h1
   have h2:¬ (0<(q:Int)/\(q:Int)<=((if d<f then d else f:Nat):Int)):=by split <;> omega
   rw [if_neg h2]
   split at hk
   ·rename_i h3; rw [if_pos h3,hk,l2]; exact⟨rfl,rfl⟩
   ·rename_i h3; rw [if_neg h3,hk,l1]; exact⟨rfl,rfl⟩
  ·rename_i h1
   split at hk
   ·rename_i h3
    have h4:d<f:=by omega
    rw [if_neg (by rw [if_pos h4]; omega),if_pos h4,hk,l2]; exact⟨rfl,rfl⟩
   ·rename_i h3
    rw [if_pos (by split <;> omega),hk,l0]; exact⟨rfl,by rw [if_pos rfl]; omega⟩
 ·have hn:=hn hb
  have e:max s 0=0:=by omega
  rw [e]
  rw [if_neg (by omega)] at hk
  rw [if_neg (by omega)]
  split at hk
  ·rename_i h3; rw [if_pos h3,hk,l2]; exact⟨rfl,rfl⟩
  ·rename_i h3; rw [if_neg h3,hk,l1]; exact⟨rfl,rfl⟩
theorem sto_zero (n:Nat):(max (sto n 0) 0=0)↔65535<n:=by
 unfold sto
 split <;> (constructor <;> intro h <;> omega)
end PD
open Go.ChangeShapes Go.WideShapes Go.ChangeAt Go.RowKit Go.Deep
def stIC (s:StI):List Value:=[.int .i64 s.1,.int .i64 s.2.1,.int .u8 (s.2.2.toNat:Int)]
def stsI (l:List StI):List Value:=l.flatMap stIC
theorem stsI_append (a b:List StI):stsI (a++b)=stsI a++stsI b:=by simp [stsI]
theorem stsI_length (l:List StI):(stsI l).length=l.length * 3:=flat_len stIC 3 (fun _=>rfl) l
theorem stIC_one (s:StI):∀u ∈ stIC s,u.oneCell'=true:=by
 intro u hu
 simp only [stIC,List.mem_cons,List.not_mem_nil,or_false] at hu
 rcases hu with rfl | rfl | rfl <;> rfl
theorem stsI_map (Y:List PM.St):stsI (Y.map toI)=stsV Y:=by
 unfold stsI stsV
 rw [List.flatMap_map]
 rfl
theorem StI_.of_rd {w:World} {V:Option Addr} {X:List StI} (h:Rd w V (stsI X)):StI_ w V X:=fun i hi=>by
 have hne:stsI X≠[]:=by
  intro e
  have:=congrArg List.length e
  rw [stsI_length] at this
  simp at this
  omega
 obtain⟨ad,e,hc⟩:=h hne
 have hg:∀j,j<3->(stsI X)[i * 3+j]?=(stIC X[i])[j]?:=fun j hj=>by
  obtain⟨p,h1,h2⟩:=flat_get stIC 3 (fun _=>rfl) X i j hj hi
  rw [List.getElem?_eq_getElem hi] at h1
  injection h1 with h1
  rw [h1]; exact h2
 refine⟨ad,e,?_,?_,?_⟩
 ·have:=hc (i * 3+0) _ (hg 0 (by decide))
  simpa using this
 ·have:=hc (i * 3+1) _ (hg 1 (by decide))
  rw [<- Go.Addr.add_add] at this
  exact this
 ·have:=hc (i * 3+2) _ (hg 2 (by decide))
  rw [<- Go.Addr.add_add] at this
  exact this
theorem Sp.stI {w0 w:World} {L:List Pr} (H:Sp w0 L w) (k:Nat) {e:TypeId} {n c:Nat} {V:Option Addr} {X:List StI} (hk:L[k]?=some (Row e 3 (.slice V n c) n (stsI X))):StI_ w V X:=by
 obtain⟨A,c',e,hr,_⟩:=H.row_rd k hk
 injection e with e
 subst e
 exact .of_rd hr
def fewL (X:List StI):List StI:=(X.take 700).filter fun s=>decide (s.1<=300)
theorem fewL_len (X:List StI):(fewL X).length<=700:=by
 unfold fewL
 have:=List.length_filter_le (fun s:StI=>decide (s.1<=300)) (X.take 700)
 rw [List.length_take] at this
 omega
theorem fewL_succ (X:List StI) (i:Nat) (h:i<X.length):fewL (X.take (i+1))=fewL (X.take i)++(if i<700/\X[i].1<=300 then [X[i]] else []):=by
 unfold fewL
 by_cases hi:i<700
 ·rw [List.take_take,List.take_take,Nat.min_eq_right (by omega),Nat.min_eq_right (by omega),List.take_add_one,List.getElem?_eq_getElem h]
  simp only [Option.toList_some,List.filter_append]
  congr 1
  by_cases hx:X[i].1<=300
  ·rw [if_pos ⟨hi,hx⟩]; simp [hx]
  ·rw [if_neg (fun q=>hx q.2)]; simp [hx]
 ·rw [if_neg (fun q=>hi q.1),List.append_nil,List.take_take,List.take_take,Nat.min_eq_left (by omega),Nat.min_eq_left (by omega)]
set_option maxRecDepth 100000 in
set_option maxHeartbeats 4000000 in
theorem few7_ok (V:Option Addr) (n c:Nat) (X:List StI) {w0 w:World} {L:List Pr} (H:Sp w0 L w) (hn:n=X.length) (hc:n<=c) (hcm:c<=maxLen) (h:Ent L (fun w=>StI_ w V X)) :
  Calls Tryz.prog 20 #[.slice V n c] w (Ret fun v w'=>Sp w0 (Row 75 3 v (fewL X).length (stsI (fewL X))::L) w'):=by
 obtain⟨i0,hi,hz0,hz1,hz2⟩:=info_parts infoSM
 have HN:=Lib.hid hn
 have HX:=Lib.hid h
 have hnm:n<=9223372036854775807:=Nat.le_trans hc hcm
 clear hn h hc hcm
 go_enter Tryz.func20,Tryz.ntmps20
 go_wp2_with fail
 have H0:=H.rowNil 75 3
 have HX0:=Lib.hid H0
 clear H H0
 go_loopw [3,8] (fun ov iv wr=>∃(i k:Nat) (O:Option Addr) (oc:Nat),iv=.int .i64 (i:Int)/\i<=n/\ov=.slice O k oc/\k=(fewL (X.take i)).length/\Sp w0 (Row 75 3 (.slice O k oc) k (stsI (fewL (X.take i)))::L) wr) (fun _ iv _=>n - (intOf iv).toNat)
 case atStart=>exact⟨0,0,none,0,rfl,Nat.zero_le _,rfl,rfl,HX0.out⟩
 case round =>
  obtain⟨i,k,O,oc,rfl,hin,rfl,hk,H1⟩:=hrel
  clear HX0
  have hk7:k<=700:=by rw [hk]; exact fewL_len _
  have HK:=Lib.hid hk
  by_cases hlt:i<n
  ·have k1:(i:Int)<(n:Int):=by omega
   have hiX:i<X.length:=by rw [<- HN.out]; exact hlt
   obtain⟨ad,rfl,p0,p1,p2⟩:=HX.out _ _ H1.tail i hiX
   have hsucc:=fewL_succ X i hiX
   obtain⟨x,hx⟩:∃x,X[i].1=x:=⟨_,rfl⟩
   obtain⟨y,hy⟩:∃y,X[i].2.1=y:=⟨_,rfl⟩
   obtain⟨z,hz⟩:∃z,X[i].2.2=z:=⟨_,rfl⟩
   have hXi:X[i]=(x,y,z):=by rw [<- hx,<- hy,<- hz]
   rw [hx] at p0 hsucc
   rw [hy] at p1
   rw [hz] at p2
   rw [hXi] at hsucc
   have HS:=Lib.hid hsucc
   have H2:=H1.newBk [.int .i64 x,.int .i64 y,.int .u8 (z.toNat:Int)] 75
   have HX2:=Lib.hid H2
   clear hsucc hx hy hz hXi H1 H2 hk
   by_cases h7:i<700
   ·have k2:(i:Int)<700:=by omega
    by_cases h3:x<=300
    ·have hsz:(wr.alloc (.cells #[.int .i64 x,.int .i64 y,.int .u8 (z.toNat:Int)] 75)).heap.size=wr.heap.size+1:=Array.size_push _
     have hr9:Rd ((wr.alloc (.cells #[.int .i64 x,.int .i64 y,.int .u8 (z.toNat:Int)] 75)).alloc (.cells #[.int .i64 x,.int .i64 y,.int .u8 (z.toNat:Int)] 75)) (some ⟨wr.heap.size+1,0,none⟩) (stIC (x,y,z)):=by
      have:=Rd.of_blk (Blk.new (wr.alloc (.cells #[.int .i64 x,.int .i64 y,.int .u8 (z.toNat:Int)] 75)) 75 [.int .i64 x,.int .i64 y,.int .u8 (z.toNat:Int)])
      rwa [hsz] at this
     have HR9:=Lib.hid hr9
     have H9:=(HX2.out.pick 2 [1,0]).alloc (.cells #[.int .i64 x,.int .i64 y,.int .u8 (z.toNat:Int)] 75)
     have HH9:=Lib.hid H9
     clear hr9 H9 hsz
     go_wp2_with (at_builtin; refine wpList_append_sp rfl _ _ 50 rfl 75 i0 (.agg #[.int .i64 0,.int .i64 0,.int .u8 0]) 3 24 Tryz.underlying50 hi hz0 hz1 hz2 rfl (by decide) (.slice O k oc) k (stsI (fewL (X.take i))) rfl HH9.out (some ⟨wr.heap.size+1,0,none⟩) 1 1 (stIC (x,y,z)) rfl rfl HR9.out (stIC_one _) (by unfold maxLen; omega) (by omega) ?_)
     intro v5 w5 H5 _
     clear HH9 HR9 HX2
     obtain⟨V5,c5,rfl,_,_⟩:=Row.form H5 0 rfl
     go_wp2_with fail
     go_roundw
     case rel =>
      rw [if_pos ⟨h7,h3⟩] at HS
      have e9:stsI (fewL (X.take (i+1)))=stsI (fewL (X.take i))++stIC (x,y,z):=by
       rw [HS.out,stsI_append]; simp [stsI]
      refine⟨i+1,k+1,V5,c5,by go_num,by omega,rfl,by rw [HS.out,List.length_append,List.length_singleton,<- HK.out],?_⟩
      rw [e9]
      exact H5.pick 2 [0]
     case measure=>first | (simp [intOf]; omega) | simp [intOf]
    ·have k3:¬ x<=300:=h3
     go_wp2_with fail
     go_roundw
     case rel =>
      rw [if_neg (fun q=>h3 q.2),List.append_nil] at HS
      exact⟨i+1,k,O,oc,by go_num,by omega,rfl,by rw [HS.out]; exact HK.out,by rw [HS.out]; exact HX2.out.tail⟩
     case measure=>first | (simp [intOf]; omega) | simp [intOf]
   ·have k2:¬ (i:Int)<700:=by omega
    have k3:decide ((i:Int)<700)=false:=by simp; omega
    go_wp2_with fail
    go_roundw
    case rel =>
     rw [if_neg (fun q=>h7 q.1),List.append_nil] at HS
     exact⟨i+1,k,O,oc,by go_num,by omega,rfl,by rw [HS.out]; exact HK.out,by rw [HS.out]; exact HX2.out.tail⟩
    case measure=>first | (simp [intOf]; omega) | simp [intOf]
  ·have k1:¬ (i:Int)<(n:Int):=by omega
   obtain rfl:i=n:=by omega
   have e:X.take i=X:=List.take_of_length_le (by rw [<- HN.out]; exact Nat.le_refl _)
   rw [e] at HK H1
   have HX1:=Lib.hid H1
   clear H1 hk e
   go_wp2_with fail
   go_ret
   rw [<- HK.out]
   exact⟨_,rfl,HX1.out⟩
theorem el_step {H:Type} {enc:TypeId × Value->H} {P:Program} {w:World} {base:Nat} {held:Bool} {e:TypeId} {f0 f1 f2:Field} (he:P.underlying e=some (.struct #[f0,f1,f2])) (hone:oneCellFields P #[f0,f1,f2]=true) (h0:P.underlying f0.type=some (.int .i64)) (h1:P.underlying f1.type=some (.int .i64)) (h2:P.underlying f2.type=some (.int .u8))
  (n:Nat) (cs:List Value) (y:DataW H × List MemPlace) (hl:cs.length=3) (h:DataW.trod enc P w base (fun _=>true) held n e cs=some y):∃p:StI,cs=stIC p/\True:=by
 obtain⟨xs,m,_,rfl,_,hlen,hf⟩:=DataW.trod_struct he h
 match cs,hl,xs,hlen with
 | [c0,c1,c2],_,[y0,y1,y2],_ =>
  have g0:=hf 0 f0 rfl
  have g1:=hf 1 f1 rfl
  have g2:=hf 2 f2 rfl
  obtain⟨o0,k0⟩:=hone_of hone 0 f0 rfl
  obtain⟨o1,k1⟩:=hone_of hone 1 f1 rfl
  obtain⟨o2,k2⟩:=hone_of hone 2 f2 rfl
  rw [o0,k0] at g0
  rw [o1,k1] at g1
  rw [o2,k2] at g2
  replace g0:DataW.trod enc P w base (fun _=>true) held m f0.type [c0]=some y0:=g0
  replace g1:DataW.trod enc P w base (fun _=>true) held m f1.type [c1]=some y1:=g1
  replace g2:DataW.trod enc P w base (fun _=>true) held m f2.type [c2]=some y2:=g2
  obtain⟨a,q0,_,wa⟩:=DataW.trod_int h0 g0
  obtain⟨b,q1,_,wb⟩:=DataW.trod_int h1 g1
  obtain⟨d,q2,_,wd⟩:=DataW.trod_int h2 g2
  replace q0:c0=.int .i64 a:=by simpa using q0
  replace q1:c1=.int .i64 b:=by simpa using q1
  replace q2:c2=.int .u8 d:=by simpa using q2
  subst q0 q1 q2
  have bd:=bounds_u8 wd
  obtain⟨d',rfl⟩:=Int.eq_ofNat_of_zero_le bd.1
  have hd:d' < 256:=by have:=bd.2; omega
  refine⟨(a,b,UInt8.ofNat d'),?_,trivial⟩
  unfold stIC
  simp only
  rw [UInt8.toNat_ofNat',Nat.mod_eq_of_lt (by omega)]
namespace PD
set_option maxRecDepth 100000 in
theorem row_nil:stream (PM.Cut [] 64) []=[3,0]:=by decide +kernel
set_option maxRecDepth 100000 in
theorem row_a:stream (PM.Cut [97] 64) [97]=[75,4,0]:=by decide +kernel
end PD
set_option maxRecDepth 100000 in
set_option maxHeartbeats 4000000 in
theorem dtells_ok (TL TF:Option Addr) (cl cf:Nat) {w0 w:World} {L:List Pr} (H:Sp w0 L w) (hT:Ent L (DTabs TL TF cl cf)) :
  Calls Tryz.prog 31 #[] w fun e w'=>e=.returned (.bool true)/\Sp w0 L w':=by
 have hA:=dall_ok none 0 0 [] H hT rfl (by decide) (Nat.le_refl _) (by decide) (fun _ w _=>Byt.nil w)
 have e1:PD.defl []=[3,0]:=PD.row_nil
 have e2:PD.defl [97]=[75,4,0]:=PD.row_a
 have e3:PD.longI 258=(285,0,0):=by decide +kernel
 rw [e1] at hA
 have HA:=Lib.hid hA
 have HT:=Lib.hid hT
 have E2:=Lib.hid e2
 have E3:=Lib.hid e3
 clear hA hT e1 e2 e3 H
 go_enter Tryz.func31,Tryz.ntmps31
 go_wp2_with fail
 refine HA.out.mono ?_
 rintro _ w1 ⟨v1,rfl,H1⟩
 obtain⟨V1,c1,rfl,_,_⟩:=Row.form H1 0 rfl
 obtain⟨u2,hc2,G2⟩:=lit_ok H1 [97]
 have hv2:Sem.run Tryz.prog (convert 23 23 (.slice (some ⟨w1.heap.size,0,none⟩) 1 1)) (w1.alloc (.cells #[.int .u8 97] 5))=.ok (.slice (some ⟨w1.heap.size,0,none⟩) 1 1) u2:=hc2 1 rfl
 clear hc2 HA H1
 go_wp2_with fail
 clear hv2
 generalize w1.heap.size=g1 at G2 ⊢
 have hB:=dall_ok (some ⟨g1,0,none⟩) 1 1 [97] G2 (fun w0 w h=>HT.out w0 w (h.pick 2 [])) rfl (by decide) (Nat.le_refl _) (by decide) (fun _ _ H=>H.lit 0 rfl (by decide))
 rw [E2.out] at hB
 refine hB.mono ?_
 rintro _ w2 ⟨v2,rfl,H2⟩
 obtain⟨V2,c2,rfl,_,_⟩:=Row.form H2 0 rfl
 clear hB G2 E2
 have hL:=dlong_ok 258 H2 (fun w0 w h=>HT.out w0 w (h.pick 3 []))
 rw [E3.out] at hL
 have HL:=Lib.hid hL
 clear hL H2
 go_wp2_with fail
 refine HL.out.mono ?_
 rintro _ w3 ⟨rfl,H3⟩
 clear HL
 have H4:=H3.newBk (cells8 [3,0]) 5
 have HE:=Lib.hid (equal_ok (l:=[3,0]) (m:=[3,0]) (byt_row H4 3 rfl rfl) (Byt.of_blk [3,0] (H4.blk 0 rfl) (by decide)))
 rw [show(([3,0]:List UInt8) == [3,0])=true by decide] at HE
 clear H3
 go_wp2_with fail
 refine HE.out.mono ?_
 rintro _ _ ⟨rfl,rfl⟩
 clear HE
 generalize w3.alloc _=w4 at H4 ⊢
 have H5:=H4.newBk (cells8 [75,4,0]) 5
 have HE:=Lib.hid (equal_ok (l:=[75,4,0]) (m:=[75,4,0]) (byt_row H5 2 rfl rfl) (Byt.of_blk [75,4,0] (H5.blk 0 rfl) (by decide)))
 rw [show(([75,4,0]:List UInt8) == [75,4,0])=true by decide] at HE
 have H6:=Lib.hid (H5.pick 5 [])
 clear H4 H5
 go_wp2_with fail
 refine HE.out.mono ?_
 rintro _ _ ⟨rfl,rfl⟩
 clear HE
 go_wp2_with fail
 go_ret
 exact⟨rfl,H6.out⟩
end Go.Proofs.YtloijdbkikccgaaGreatDoor

