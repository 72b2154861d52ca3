/- A pack of texts: DefF DefG DefBack. -/
import Derived.Test.YtloijdbkikccgaaDoorPk09
import Derived.Test.YtloijdbkikccgaaDoorPk13
import Derived.Test.YtloijdbkikccgaaDoorPk14
import Derived.Test.YtloijdbkikccgaaDoorPk21
namespace Go.Proofs.YtloijdbkikccgaaDoor
set_option linter.unusedVariables false
set_option linter.unusedSimpArgs false
open Go.RowKit
structure BP where
 b:List UInt8
 W:List PD.Wd
 last:Bool
 A:List Nat
 D:List Nat
 R:List PD.Wd
 F:List Nat
structure DV where
 b:Option Addr
 w:Option Addr
 a:Option Addr
 d:Option Addr
 r:Option Addr
 f:Option Addr
 bc:Nat
 wc:Nat
 ac:Nat
 dc:Nat
 rc:Nat
 fc:Nat
structure DBr (g:Nat) (v:DV) (p:BP) (u:World):Prop where
 c1:u.cell? ⟨g,1,none⟩=some (.slice v.b p.b.length v.bc)
 c2:u.cell? ⟨g,2,none⟩=some (.slice v.w p.W.length v.wc)
 c3:u.cell? ⟨g,3,none⟩=some (.bool p.last)
 c4:u.cell? ⟨g,4,none⟩=some (.slice v.a p.A.length v.ac)
 c5:u.cell? ⟨g,5,none⟩=some (.slice v.d p.D.length v.dc)
 c6:u.cell? ⟨g,6,none⟩=some (.slice v.r p.R.length v.rc)
 c7:u.cell? ⟨g,7,none⟩=some (.slice v.f p.F.length v.fc)
 b:Byt u (.slice v.b p.b.length v.bc) p.b
 w:Rd u v.w (cellsW p.W)
 a:Rd u v.a (cellsN p.A)
 d:Rd u v.d (cellsN p.D)
 r:Rd u v.r (cellsW p.R)
 f:Rd u v.f (cellsN p.F)
set_option maxRecDepth 100000 in
theorem dhead_ok (g gw k:Nat) (v:DV) (p:BP) (B:List Bool) {w0 w:World} {L:List Pr} (H:Sp w0 (WB gw B::L) w) (hb:Ent L (DBr g v p)) (hk:k<4) (hB:B.length<=900000000) :
  Calls Tryd.prog 108 #[.pointer (some ⟨g,0,none⟩),.pointer (some ⟨gw,0,none⟩),.int .u64 (k:Int)] w fun e w'=>e=.returned (.tuple #[])/\Sp w0 (WB gw (B++([p.last]++PBits.bitsOf k 2))::L) w':=by
 have c3:=(hb _ _ H.tail).c3
 have h1:∀bit:Nat,bit<2->Calls Tryd.prog 110 #[.pointer (some ⟨gw,0,none⟩),.int .u64 (bit:Int),.int .i64 1] w fun e w'=>e=.returned (.int .i64 0)/\Sp w0 (WB gw (B++PBits.bitsOf bit 1)::L) w':=fun bit hbit=>wb_put gw B bit 1 H (by decide) (by simpa using hbit) (by omega)
 have h2:∀(l:Bool) (w2:World),Sp w0 (WB gw (B++[l])::L) w2->Calls Tryd.prog 110 #[.pointer (some ⟨gw,0,none⟩),.int .u64 (k:Int),.int .i64 2] w2 fun e w'=>e=.returned (.int .i64 0)/\Sp w0 (WB gw (B++([l]++PBits.bitsOf k 2))::L) w':=fun l w2 H2=>by
  have h:=wb_put gw (B++[l]) k 2 H2 (by decide) (by simpa using hk) (by rw [List.length_append]; simp; omega)
  rw [List.append_assoc] at h
  exact h
 have H1:=Lib.hid h1
 have H2:=Lib.hid h2
 clear h1 h2 H
 cases hl:p.last with
 | true =>
  rw [hl] at c3
  go_enter Tryd.func108,Tryd.ntmps108
  go_wp2_with fail
  refine(H1.out 1 (by decide)).mono ?_
  rintro _ w2 ⟨rfl,h2⟩
  go_wp2_with fail
  refine(H2.out true _ h2).mono ?_
  rintro _ w3 ⟨rfl,h3⟩
  go_wp2
  go_end0
  exact⟨rfl,h3⟩
 | false =>
  rw [hl] at c3
  go_enter Tryd.func108,Tryd.ntmps108
  go_wp2_with fail
  refine(H1.out 0 (by decide)).mono ?_
  rintro _ w2 ⟨rfl,h2⟩
  go_wp2_with fail
  refine(H2.out false _ h2).mono ?_
  rintro _ w3 ⟨rfl,h3⟩
  go_wp2
  go_end0
  exact⟨rfl,h3⟩
theorem rowRd {w0 w:World} {M:List Pr} {A:Option Addr} {n c z:Nat} {e:TypeId} {xs:List Value} (H:Sp w0 M w) (k:Nat) (hk:M[k]?=some (Row e z (.slice A n c) n xs)):Rd w A xs:=by
 obtain⟨A2,c2,e2,h,_⟩:=H.row_rd k hk
 injection e2 with e2 _ _
 subst e2
 exact h
theorem getD_le15 {A:List Nat} (hA:∀x ∈ A,x<=15) (s:Nat):A.getD s 0<=15:=by
 rw [List.getD_eq_getElem?_getD]
 cases h:A[s]? with
 | none=>simp
 | some x=>exact hA x (List.mem_of_getElem? h)
theorem layW_le {A D:List Nat} (hA:∀x ∈ A,x<=15) (hD:∀x ∈ D,x<=15):∀(W:List PD.Wd),(∀t ∈ W,PD.WdOk A D t)->(PD.layW A D W).length<=28 * W.length:=by
 intro W
 induction W with
 | nil=>intro _; exact Nat.le_refl _
 | cons t l ih =>
  intro h
  have h1:=ih fun u hu=>h u (List.mem_cons_of_mem _ hu)
  have h2:=(h t (List.mem_cons_self ..)).2.2.2
  have h3:(PD.wW A D t).length<=28:=by
   rw [PD.wW_len]
   have:(if t.1=0 then A else D).getD t.2.1 0<=15:=by
    split
    ·exact getD_le15 hA _
    ·exact getD_le15 hD _
   omega
  show(PD.wW A D t++PD.layW A D l).length<=_
  rw [List.length_append,List.length_cons]
  omega
theorem cells64_cast (m:List Nat):cells64 (castI m)=cellsN m:=by unfold cells64 castI cellsN; rw [List.map_map]; rfl
theorem rowU_at {w:World} {A:Option Addr} {f:Nat->Nat} {n i:Nat} (h:Rd w A (rowU f n)) (hi:i<n):∃ad,A=some ad/\w.cell? (ad.add i)=some (.int .u32 (f i:Int)):=by
 obtain⟨ad,e,hc⟩:=h (by intro e; have:=rowU_get f n i hi; rw [e] at this; simp at this)
 exact⟨ad,e,hc _ _ (rowU_get f n i hi)⟩
set_option maxRecDepth 100000 in
set_option maxHeartbeats 8000000 in
theorem dlay_ok (gw:Nat) (B:List Bool) (WA AA DA:Option Addr) (n wc na ac nd dc:Nat) (W:List PD.Wd) (MA MD:List Nat) {w0 w:World} {L:List Pr} (H:Sp w0 (WB gw B::L) w)
  (hw:Ent L fun w=>Rd w WA (cellsW W)) (ha:Ent L fun w=>Rd w AA (cellsN MA)) (hd:Ent L fun w=>Rd w DA (cellsN MD)) (hn:n=W.length) (hna:na=MA.length) (hnd:nd=MD.length) (hnm:n<=2000000) (ha1:na<=1024) (hd1:nd<=1024)
  (hA:∀x ∈ MA,x<=15) (hD:∀x ∈ MD,x<=15) (hAs:PH.sum MA<=32768) (hDs:PH.sum MD<=32768) (hok:∀t ∈ W,PD.WdOk MA MD t) (hB:B.length+30 * n<=900000000) :
  Calls Tryd.prog 112 #[.pointer (some ⟨gw,0,none⟩),.slice WA n wc,.agg #[.slice AA na ac,.slice DA nd dc]] w fun e w'=>e=.returned (.tuple #[])/\Sp w0 (WB gw (B++PD.layW MA MD W)::L) w':=by
 have HW:=Lib.hid hw
 have HA:=Lib.hid ha
 have HD:=Lib.hid hd
 have HN:=Lib.hid hn
 have HA15:=Lib.hid hA
 have HD15:=Lib.hid hD
 have HAS:=Lib.hid hAs
 have HDS:=Lib.hid hDs
 have HOK:=Lib.hid hok
 have HNA:=Lib.hid hna
 have HND:=Lib.hid hnd
 have H1:=H.newBk [.slice AA na ac,.slice DA nd dc] 163
 have H2:=H1.newBk [.slice none 0 0,.slice none 0 0] 230
 rw [size_alloc] at H2
 have HX:=Lib.hid H2
 clear H H1 H2 hw ha hd hn hA hD hAs hDs hok hna hnd
 go_enter Tryd.func112,Tryd.ntmps112
 go_wp2_with fail
 generalize w.heap.size+1=g6 at HX ⊢
 generalize w.heap.size=g5 at HX ⊢
 go_loopw [10] (fun kv wr=>(kv=.int .i64 0/\Sp w0 (Bk g6 230 [.slice none 0 0,.slice none 0 0]::Bk g5 163 [.slice AA na ac,.slice DA nd dc]::WB gw B::L) wr) ∨
  (∃v0,kv=.int .i64 1/\Sp w0 (Row 54 1 v0 na (rowU (PH.codeAt MA) na)::Bk g6 230 [v0,.slice none 0 0]::Bk g5 163 [.slice AA na ac,.slice DA nd dc]::WB gw B::L) wr) ∨
  ∃v0 v1,kv=.int .i64 2/\Sp w0 (Row 54 1 v0 na (rowU (PH.codeAt MA) na)::Row 54 1 v1 nd (rowU (PH.codeAt MD) nd)::Bk g6 230 [v0,v1]::Bk g5 163 [.slice AA na ac,.slice DA nd dc]::WB gw B::L) wr) (fun kv _=>2 - (intOf kv).toNat)
 case atStart=>exact .inl ⟨rfl,HX.out⟩
 case round =>
  clear HX
  rcases hrel with ⟨rfl,H1⟩ | ⟨v0,rfl,H1⟩ | ⟨v0,v1,rfl,H1⟩
  ·have c5:=H1.cell 1 rfl 0
   simp only [List.getElem?_cons_zero] at c5
   have HC:=Lib.hid (codes_ok AA na ac MA H1 HNA.out (fun w0 w h=>by rw [cells64_cast]; exact HA.out w0 w (h.pick 3 [])) ha1 HA15.out HAS.out)
   clear H1
   go_wp2_with fail
   refine HC.out.mono ?_
   rintro _ w2 ⟨v,rfl,H2⟩
   obtain⟨VA,vac,rfl,_,_⟩:=Row.form H2 0 rfl
   have c6:=H2.cell 1 rfl 0
   have z6:=H2.frozen 1 rfl 0
   simp only [List.getElem?_cons_zero] at c6
   have HX:=Lib.hid ((H2.swap.set 0 (.slice VA na vac)).swap)
   clear HC H2 c5
   go_wp2_with fail
   go_roundw
   case rel=>exact .inr (.inl ⟨_,by go_num,HX.out⟩)
   case measure=>first | (simp [intOf]; omega) | simp [intOf]
  ·have c5:=H1.cell 2 rfl 1
   simp only [List.getElem?_cons_zero,List.getElem?_cons_succ] at c5
   have HC:=Lib.hid (codes_ok DA nd dc MD H1 HND.out (fun w0 w h=>by rw [cells64_cast]; exact HD.out w0 w (h.pick 4 [])) hd1 HD15.out HDS.out)
   clear H1
   go_wp2_with fail
   refine HC.out.mono ?_
   rintro _ w2 ⟨v,rfl,H2⟩
   obtain⟨VD,vdc,rfl,_,_⟩:=Row.form H2 0 rfl
   have c6:=H2.cell 2 rfl 1
   have z6:=H2.frozen 2 rfl 1
   simp only [List.getElem?_cons_zero,List.getElem?_cons_succ] at c6
   have HX:=Lib.hid (((H2.pick 3 [2,0,1]).set 1 (.slice VD nd vdc)).pick 3 [2,1,0])
   clear HC H2 c5
   go_wp2_with fail
   go_roundw
   case rel=>exact .inr (.inr ⟨v0,_,by go_num,HX.out⟩)
   case measure=>first | (simp [intOf]; omega) | simp [intOf]
  ·obtain⟨VA,vac,rfl,_,_⟩:=Row.form H1 0 rfl
   obtain⟨VD,vdc,rfl,_,_⟩:=Row.form H1 1 rfl
   have HX:=Lib.hid (H1.pick 5 [4,0,1,2,3])
   clear H1
   go_wp2_with fail
   go_loopw [25] (fun iv wr=>∃i:Nat,iv=.int .i64 (i:Int)/\i<=n/\Sp w0 (WB gw (B++PD.layW MA MD (W.take i))::Row 54 1 (.slice VA na vac) na (rowU (PH.codeAt MA) na)::Row 54 1 (.slice VD nd vdc) nd (rowU (PH.codeAt MD) nd)::Bk g6 230 [.slice VA na vac,.slice VD nd vdc]::Bk g5 163 [.slice AA na ac,.slice DA nd dc]::L) wr) (fun iv _=>n - (intOf iv).toNat)
   case atStart=>exact⟨0,rfl,Nat.zero_le _,by rw [List.take_zero]; show Sp w0 (WB gw (B++[])::_) _; rw [List.append_nil]; exact HX.out⟩
   case round =>
    obtain⟨i,rfl,hin,H1⟩:=hrel
    clear HX
    by_cases hlt:i<n
    ·have k1:(i:Int)<(n:Int):=by omega
     have hil:i<W.length:=by rw [<- HN.out]; exact hlt
     obtain⟨ad,rfl,p0,p1,p2,p3⟩:=rdW (HW.out _ _ (H1.pick 5 [])) hil
     have hmem:W.getD i (0,0,0,0) ∈ W:=by rw [List.getD_eq_getElem?_getD,List.getElem?_eq_getElem hil]; exact List.getElem_mem hil
     have hwk:=HOK.out _ hmem
     have hnx:PD.layW MA MD (W.take (i+1))=PD.layW MA MD (W.take i)++PD.wW MA MD (W.getD i (0,0,0,0)):=by
      rw [List.take_succ_eq_append_getElem hil,PD.layW_app,List.getD_eq_getElem?_getD,List.getElem?_eq_getElem hil]
      show _++(PD.wW MA MD W[i]++[])=_
      rw [List.append_nil]; rfl
     have hlen:(PD.layW MA MD (W.take i)).length<=28 * i:=by
      have h:=layW_le HA15.out HD15.out (W.take i) (fun t ht=>HOK.out t (List.mem_of_mem_take ht))
      rw [List.length_take] at h; omega
     obtain⟨⟨b,s,q,r⟩,ht⟩:∃t,W.getD i (0,0,0,0)=t:=⟨_,rfl⟩
     rw [ht] at p0 p1 p2 p3 hwk hnx
     simp only at p0 p1 p2 p3
     obtain⟨hb2,hhas,hrq,hq13⟩:=hwk
     simp only at hb2 hhas hrq hq13
     have HWK:=Lib.hid (show r<2 ^ q/\q<=13 from⟨hrq,hq13⟩)
     have hr13:r<8192:=Nat.lt_of_lt_of_le hrq (show 2 ^ q<=2 ^ 13 from Nat.pow_le_pow_right (by decide) hq13)
     obtain⟨M,hM⟩:∃M,(if b=0 then MA else MD)=M:=⟨_,rfl⟩
     have hnx2:PD.wW MA MD (b,s,q,r)=PH.bitsC (M.getD s 0) (PH.codeAt M s)++PBits.bitsOf r q:=by rw [<- hM]; rfl
     rw [hM] at hhas
     obtain⟨ln,hln⟩:∃x,M.getD s 0=x:=⟨_,rfl⟩
     obtain⟨cd,hcd⟩:∃x,PH.codeAt M s=x:=⟨_,rfl⟩
     have hM2:(∀x ∈ M,x<=15)/\PH.sum M<=32768:=by
      rw [<- hM]; split
      ·exact⟨HA15.out,HAS.out⟩
      ·exact⟨HD15.out,HDS.out⟩
     have hln15:ln<=15:=by rw [<- hln]; exact getD_le15 hM2.1 s
     have hcdl:cd<2 ^ ln:=by
      have h1:1<=ln:=by rw [<- hln]; exact hhas.2.1
      have h:=PH.code_lt M s (ln - 1) hhas.1 (by omega) (by omega) hM2.2
      rw [show ln - 1+1=ln by omega] at h
      rw [<- hcd]; exact h
     rw [hln,hcd] at hnx2
     obtain⟨B1,hB1⟩:∃B1,B++PD.layW MA MD (W.take i)=B1:=⟨_,rfl⟩
     have hB1l:B1.length<=B.length+28 * i:=by rw [<- hB1,List.length_append]; omega
     have HNX:Hid (B++PD.layW MA MD (W.take (i+1))=B1++PH.bitsC ln cd++PBits.bitsOf r q):=by
      rw [hnx,hnx2,<- List.append_assoc,hB1,<- List.append_assoc]; exact Lib.hid rfl
     rw [hB1] at H1
     have H2:=H1.newBk [.int .i64 (b:Int),.int .i64 (s:Int),.int .i64 (q:Int),.int .i64 (r:Int)] 194
     have HX2:=Lib.hid (H2.pick 6 [1,0,2,3,4,5])
     have hk9:∃g9,wr.heap.size=g9:=⟨_,rfl⟩
     obtain⟨g9,hg9⟩:=hk9
     rw [hg9] at HX2
     have hcells:∃(ca ea:Addr) (cn cc en ec:Nat),s<cn/\s<en/\Ent (Bk g9 194 [.int .i64 (b:Int),.int .i64 (s:Int),.int .i64 (q:Int),.int .i64 (r:Int)]::Row 54 1 (.slice VA na vac) na (rowU (PH.codeAt MA) na)::Row 54 1 (.slice VD nd vdc) nd (rowU (PH.codeAt MD) nd)::Bk g6 230 [.slice VA na vac,.slice VD nd vdc]::Bk g5 163 [.slice AA na ac,.slice DA nd dc]::L) fun u=>u.cell? ⟨g9,0,none⟩=some (.int .i64 (b:Int))/\u.cell? ⟨g9,1,none⟩=some (.int .i64 (s:Int))/\u.cell? ⟨g6,b,none⟩=some (.slice (some ca) cn cc)/\u.cell? (ca.add s)=some (.int .u32 (cd:Int))/\u.cell? ⟨g5,b,none⟩=some (.slice (some ea) en ec)/\u.cell? (ea.add s)=some (.int .i64 (ln:Int)):=by
      have hb01:b=0∨b=1:=by omega
      have HT:=HX2.out.tail
      rcases hb01 with rfl | rfl
      ·obtain rfl:MA=M:=hM
       have hsA:s<na:=by rw [HNA.out]; exact hhas.1
       obtain⟨ca,rfl,_⟩:=rowU_at (rowRd HT 1 rfl) hsA
       obtain⟨ea,rfl,_⟩:=rdN (HA.out _ _ (HT.pick 5 [])) hhas.1
       refine⟨ca,ea,na,vac,na,ac,hsA,hsA,fun w0 u H=>⟨H.cell 0 rfl 0,H.cell 0 rfl 1,H.cell 3 rfl 0,?_,H.cell 4 rfl 0,?_⟩⟩
       ·obtain⟨c2,e,hc⟩:=rowU_at (rowRd H 1 rfl) hsA
        injection e with e
        rw [e,hc,hcd]
       ·rw [rdN' (HA.out _ _ (H.pick 5 [])) hhas.1,hln]
      ·obtain rfl:MD=M:=hM
       have hsA:s<nd:=by rw [HND.out]; exact hhas.1
       obtain⟨ca,rfl,_⟩:=rowU_at (rowRd HT 2 rfl) hsA
       obtain⟨ea,rfl,_⟩:=rdN (HD.out _ _ (HT.pick 5 [])) hhas.1
       refine⟨ca,ea,nd,vdc,nd,dc,hsA,hsA,fun w0 u H=>⟨H.cell 0 rfl 0,H.cell 0 rfl 1,H.cell 3 rfl 1,?_,H.cell 4 rfl 1,?_⟩⟩
       ·obtain⟨c2,e,hc⟩:=rowU_at (rowRd H 2 rfl) hsA
        injection e with e
        rw [e,hc,hcd]
       ·rw [rdN' (HD.out _ _ (H.pick 5 [])) hhas.1,hln]
     obtain⟨ca,ea,cn,cc,en,ec,hscn,hsen,hall⟩:=hcells
     have HALL:=Lib.hid hall
     have HCD:=Lib.hid hcdl
     have k2:(s:Int)<(cn:Int):=by omega
     have k3:(s:Int)<(en:Int):=by omega
     have k4:(b:Int)<2:=by omega
     have hcd64:cd<4294967296:=Nat.lt_of_lt_of_le hcdl (Nat.le_trans (Nat.pow_le_pow_right (by decide) hln15) (by decide))
     have hg9':=Lib.hid hg9
     clear hall hcdl hnx hnx2 hM2 hln hcd hhas hM ht hmem H1 H2 hB1 hlen hrq hg9 hil
     go_wp2_with fail
     rw [hg9'.out]
     refine wp_region_sc (L:=Bk g9 194 [.int .i64 (b:Int),.int .i64 (s:Int),.int .i64 (q:Int),.int .i64 (r:Int)]::Row 54 1 (.slice VA na vac) na (rowU (PH.codeAt MA) na)::Row 54 1 (.slice VD nd vdc) nd (rowU (PH.codeAt MD) nd)::Bk g6 230 [.slice VA na vac,.slice VD nd vdc]::Bk g5 163 [.slice AA na ac,.slice DA nd dc]::L) [some (.pointer (some ⟨gw,0,none⟩)),some (.pointer (some ⟨g9,0,none⟩)),some (.int .i64 (b:Int)),some (.pointer (some ⟨g6,b,none⟩)),some (.slice (some ca) cn cc),some (.pointer (some ⟨g9,1,none⟩)),some (.int .i64 (s:Int)),some (.pointer (some (ca.add s))),some (.int .u32 (cd:Int)),some (.int .u64 (cd:Int)),some (.pointer (some ⟨g9,0,none⟩)),some (.int .i64 (b:Int)),some (.pointer (some ⟨g5,b,none⟩)),some (.slice (some ea) en ec),some (.pointer (some ⟨g9,1,none⟩)),some (.int .i64 (s:Int)),some (.pointer (some (ea.add s))),some (.int .i64 (ln:Int)),some (.int .i64 0)] (fun _ _=>True) (fun ix vx=>match ix with | 18=>(fun _=>[WB gw (B1++PH.bitsC ln cd)]) vx | _=>[]) (fun ix=>match ix with | 18=>[WB gw B1] | _=>[]) 19 56
      [some 29,some 30,some 31,some 32,some 33,some 34,some 35,some 36,some 37,some 38,some 39,some 40,some 41,some 42,some 43,some 44,some 45,some 46,some 47]
      [[],[],[1],[2],[3],[],[5],[4,6],[7],[8],[],[10],[11],[12],[],[14],[13,15],[16],[0,9,17]]
      [[],[],[1],[1,2],[1,2,3],[],[5],[1,2,3,4,5,6],[1,2,3,4,5,6,7],[1,2,3,4,5,6,7,8],[],[10],[10,11],[10,11,12],[],[14],[10,11,12,13,14,15],[10,11,12,13,14,15,16],[0,1,2,3,4,5,6,7,8,9,10,11,12,13,14,15,16,17]]
      [[],[],[],[],[],[],[],[],[],[],[],[],[],[],[],[],[],[],[]] [[],[],[],[],[],[],[],[],[],[],[],[],[],[],[],[],[],[],[]] [(0,.pointer (some ⟨gw,0,none⟩)),(5,.pointer (some ⟨g5,0,none⟩)),(6,.pointer (some ⟨g6,0,none⟩)),(9,.pointer (some ⟨g9,0,none⟩))]
      (by kernel_rfl) rfl (by decide) (by rfl) (by decide +kernel) rfl rfl (by simp) (HX2.out) ?hstep ?hend
     case hstep =>
      refine⟨?p0,⟨?p1,⟨?p2,⟨?p3,⟨?p4,⟨?p5,⟨?p6,⟨?p7,⟨?p8,⟨?p9,⟨?p10,⟨?p11,⟨?p12,⟨?p13,⟨?p14,⟨?p15,⟨?p16,⟨?p17,⟨?p18,trivial⟩⟩⟩⟩⟩⟩⟩⟩⟩⟩⟩⟩⟩⟩⟩⟩⟩⟩⟩
      case p0 | p1 | p3 | p5 | p7 | p9 | p10 | p12 | p14 | p16 =>
       intro x wx A rest hDf hF hS hE H K hK
       replace hK:=Lib.hid hK
       clear hS hE hDf
       repeat (obtain⟨_,hF⟩:=hF)
       change Oper.wp _ _ A wx K _
       go_step
       exact hK.out _ _ rfl H
      case p2 =>
       intro x wx A rest hDf hF hS hE H K hK0
       replace hDf:=Lib.hid hDf
       have e30:A.tmps[30]?.getD undef=.pointer (some ⟨g9,0,none⟩):=((hS 1 (by decide)).2 30 rfl).trans (hS 1 (by decide)).1
       replace H:Sp w0 (rest) wx:=H
       have hK:Hid (∀(v:Value) (w' : World),v=.int .i64 (b:Int)->Sp w0 (rest) w'->K (A.put (some 31) v) w'):=Lib.hid hK0
       clear hK0 hF hS
       obtain⟨t0,t1,d0,d1,d2,d3⟩:=hE _ HALL.out _ _ H
       clear hE
       change Oper.wp _ _ A wx K _
       go_step
       exact hK.out _ _ rfl (H)
      case p4 =>
       intro x wx A rest hDf hF hS hE H K hK0
       replace hDf:=Lib.hid hDf
       have e32:A.tmps[32]?.getD undef=.pointer (some ⟨g6,b,none⟩):=((hS 3 (by decide)).2 32 rfl).trans (hS 3 (by decide)).1
       replace H:Sp w0 (rest) wx:=H
       have hK:Hid (∀(v:Value) (w' : World),v=.slice (some ca) cn cc->Sp w0 (rest) w'->K (A.put (some 33) v) w'):=Lib.hid hK0
       clear hK0 hF hS
       obtain⟨t0,t1,d0,d1,d2,d3⟩:=hE _ HALL.out _ _ H
       clear hE
       change Oper.wp _ _ A wx K _
       go_step
       exact hK.out _ _ rfl (H)
      case p6 =>
       intro x wx A rest hDf hF hS hE H K hK0
       replace hDf:=Lib.hid hDf
       have e34:A.tmps[34]?.getD undef=.pointer (some ⟨g9,1,none⟩):=((hS 5 (by decide)).2 34 rfl).trans (hS 5 (by decide)).1
       replace H:Sp w0 (rest) wx:=H
       have hK:Hid (∀(v:Value) (w' : World),v=.int .i64 (s:Int)->Sp w0 (rest) w'->K (A.put (some 35) v) w'):=Lib.hid hK0
       clear hK0 hF hS
       obtain⟨t0,t1,d0,d1,d2,d3⟩:=hE _ HALL.out _ _ H
       clear hE
       change Oper.wp _ _ A wx K _
       go_step
       exact hK.out _ _ rfl (H)
      case p8 =>
       intro x wx A rest hDf hF hS hE H K hK0
       replace hDf:=Lib.hid hDf
       have e36:A.tmps[36]?.getD undef=.pointer (some (ca.add s)):=((hS 7 (by decide)).2 36 rfl).trans (hS 7 (by decide)).1
       replace H:Sp w0 (rest) wx:=H
       have hK:Hid (∀(v:Value) (w' : World),v=.int .u32 (cd:Int)->Sp w0 (rest) w'->K (A.put (some 37) v) w'):=Lib.hid hK0
       clear hK0 hF hS
       obtain⟨t0,t1,d0,d1,d2,d3⟩:=hE _ HALL.out _ _ H
       clear hE
       change Oper.wp _ _ A wx K _
       go_step
       exact hK.out _ _ rfl (H)
      case p11 =>
       intro x wx A rest hDf hF hS hE H K hK0
       replace hDf:=Lib.hid hDf
       have e39:A.tmps[39]?.getD undef=.pointer (some ⟨g9,0,none⟩):=((hS 10 (by decide)).2 39 rfl).trans (hS 10 (by decide)).1
       replace H:Sp w0 (rest) wx:=H
       have hK:Hid (∀(v:Value) (w' : World),v=.int .i64 (b:Int)->Sp w0 (rest) w'->K (A.put (some 40) v) w'):=Lib.hid hK0
       clear hK0 hF hS
       obtain⟨t0,t1,d0,d1,d2,d3⟩:=hE _ HALL.out _ _ H
       clear hE
       change Oper.wp _ _ A wx K _
       go_step
       exact hK.out _ _ rfl (H)
      case p13 =>
       intro x wx A rest hDf hF hS hE H K hK0
       replace hDf:=Lib.hid hDf
       have e41:A.tmps[41]?.getD undef=.pointer (some ⟨g5,b,none⟩):=((hS 12 (by decide)).2 41 rfl).trans (hS 12 (by decide)).1
       replace H:Sp w0 (rest) wx:=H
       have hK:Hid (∀(v:Value) (w' : World),v=.slice (some ea) en ec->Sp w0 (rest) w'->K (A.put (some 42) v) w'):=Lib.hid hK0
       clear hK0 hF hS
       obtain⟨t0,t1,d0,d1,d2,d3⟩:=hE _ HALL.out _ _ H
       clear hE
       change Oper.wp _ _ A wx K _
       go_step
       exact hK.out _ _ rfl (H)
      case p15 =>
       intro x wx A rest hDf hF hS hE H K hK0
       replace hDf:=Lib.hid hDf
       have e43:A.tmps[43]?.getD undef=.pointer (some ⟨g9,1,none⟩):=((hS 14 (by decide)).2 43 rfl).trans (hS 14 (by decide)).1
       replace H:Sp w0 (rest) wx:=H
       have hK:Hid (∀(v:Value) (w' : World),v=.int .i64 (s:Int)->Sp w0 (rest) w'->K (A.put (some 44) v) w'):=Lib.hid hK0
       clear hK0 hF hS
       obtain⟨t0,t1,d0,d1,d2,d3⟩:=hE _ HALL.out _ _ H
       clear hE
       change Oper.wp _ _ A wx K _
       go_step
       exact hK.out _ _ rfl (H)
      case p17 =>
       intro x wx A rest hDf hF hS hE H K hK0
       replace hDf:=Lib.hid hDf
       have e45:A.tmps[45]?.getD undef=.pointer (some (ea.add s)):=((hS 16 (by decide)).2 45 rfl).trans (hS 16 (by decide)).1
       replace H:Sp w0 (rest) wx:=H
       have hK:Hid (∀(v:Value) (w' : World),v=.int .i64 (ln:Int)->Sp w0 (rest) w'->K (A.put (some 46) v) w'):=Lib.hid hK0
       clear hK0 hF hS
       obtain⟨t0,t1,d0,d1,d2,d3⟩:=hE _ HALL.out _ _ H
       clear hE
       change Oper.wp _ _ A wx K _
       go_step
       exact hK.out _ _ rfl (H)
      case p18 =>
       intro x wx A rest hDf hF hS hE H K hK0
       replace hDf:=Lib.hid hDf
       have e29:A.tmps[29]?.getD undef=.pointer (some ⟨gw,0,none⟩):=((hS 0 (by decide)).2 29 rfl).trans (hS 0 (by decide)).1
       have e38:A.tmps[38]?.getD undef=.int .u64 (cd:Int):=((hS 9 (by decide)).2 38 rfl).trans (hS 9 (by decide)).1
       have e46:A.tmps[46]?.getD undef=.int .i64 (ln:Int):=((hS 17 (by decide)).2 46 rfl).trans (hS 17 (by decide)).1
       replace H:Sp w0 ((WB gw B1)::rest) wx:=H
       have hK:Hid (∀(v:Value) (w' : World),v=.int .i64 0->Sp w0 ((WB gw (B1++PH.bitsC ln cd))::rest) w'->K (A.put (some 47) v) w'):=Lib.hid hK0
       clear hK0 hF hS hE
       change Oper.wp _ _ A wx K _
       go_wp2_with fail
       refine(wb_code gw B1 cd ln H (by omega) HCD.out (by omega)).mono ?_
       rintro _ w9 ⟨rfl,H9⟩
       exact hK.out _ _ rfl H9
     case hend =>
      intro x wx A hA hS H
      replace H:Sp w0 ((WB gw (B1++PH.bitsC ln cd))::Bk g9 194 [.int .i64 (b:Int),.int .i64 (s:Int),.int .i64 (q:Int),.int .i64 (r:Int)]::Row 54 1 (.slice VA na vac) na (rowU (PH.codeAt MA) na)::Row 54 1 (.slice VD nd vdc) nd (rowU (PH.codeAt MD) nd)::Bk g6 230 [.slice VA na vac,.slice VD nd vdc]::Bk g5 163 [.slice AA na ac,.slice DA nd dc]::L) wx:=H
      clear hS
      simp only [putAll,Act.put,List.setIfInBounds_toArray,List.set_cons_succ,List.set_cons_zero,Nat.reduceAdd] at hA
      subst hA
      have HX3:=Lib.hid H
      obtain⟨t0,t1,t2,t3⟩:wx.cell? ⟨g9,0,none⟩=some (.int .i64 (b:Int))/\wx.cell? ⟨g9,1,none⟩=some (.int .i64 (s:Int))/\wx.cell? ⟨g9,2,none⟩=some (.int .i64 (q:Int))/\wx.cell? ⟨g9,3,none⟩=some (.int .i64 (r:Int)):=⟨H.cell 1 rfl 0,H.cell 1 rfl 1,H.cell 1 rfl 2,H.cell 1 rfl 3⟩
      clear H HX2 HALL
      go_wp2_with fail
      refine(wb_put gw (B1++PH.bitsC ln cd) r q HX3.out (by have:=HWK.out.2; omega) HWK.out.1 (by rw [List.length_append,PH.bitsC_len]; omega)).mono ?_
      rintro _ w9 ⟨rfl,H9⟩
      clear HX3
      go_wp2_with fail
      go_roundw
      case rel =>
       refine⟨i+1,by go_num,by omega,?_⟩
       rw [HNX.out]
       have h:=H9.pick 2 [0]
       rw [List.append_assoc] at h
       have h:=H9.pick 6 [0,2,3,4,5]
       exact h
      case measure=>first | (simp [intOf]; omega) | simp [intOf]
    ·have k1:¬ (i:Int)<(n:Int):=by omega
     rw [List.take_of_length_le (by rw [<- HN.out]; omega)] at H1
     have HX:=Lib.hid (H1.pick 5 [0])
     clear H1
     go_wp2_with fail
     go_end0
     exact⟨rfl,HX.out⟩
theorem xor_16 (n:Nat) (h:n<65536):n ^^^ 65535=65535 - n:=by
 have h1:(BitVec.ofNat 16 n ^^^ BitVec.allOnes 16).toNat=(~~~ (BitVec.ofNat 16 n)).toNat:=by rw [BitVec.xor_allOnes]
 rw [BitVec.toNat_xor,BitVec.toNat_not,BitVec.toNat_allOnes,BitVec.toNat_ofNat,Nat.mod_eq_of_lt (by simpa using h)] at h1
 simpa using h1
theorem xor_16_u64 (n:Nat) (h:n<65536):bits .xor .u64 (n:Int) 65535=((65535 - n:Nat):Int):=by
 show IntKind.u64.wrap ((BitVec.ofInt 64 (n:Int) ^^^ BitVec.ofInt 64 ((65535:Nat):Int)).toNat:Int)=_
 rw [BitVec.toNat_xor,ofInt_u64 n (by omega),ofInt_u64 65535 (by omega),xor_16 n h]
 have hw:∀z:Int,IntKind.u64.wrap z=z % 18446744073709551616:=fun z=>by simp [IntKind.wrap,IntKind.bits,IntKind.signed]
 rw [hw]
 omega
set_option maxRecDepth 100000 in
set_option maxHeartbeats 1000000 in
theorem dstored_ok (g gw:Nat) (v:DV) (p:BP) (B:List Bool) {w0 w:World} {L:List Pr} (H:Sp w0 (WB gw B::L) w) (hb:Ent L (DBr g v p)) (hl:p.b.length<=65535) (hB:B.length<=800000000) :
  Calls Tryd.prog 80 #[.pointer (some ⟨g,0,none⟩),.pointer (some ⟨gw,0,none⟩)] w fun e w'=>e=.returned (.tuple #[])/\Sp w0 (WB gw (B++([p.last]++PBits.bitsOf 0 2++(List.replicate (PD.pad (B.length+3)) false++PI.storedW p.b)))::L) w':=by
 obtain⟨n,hn⟩:∃n,p.b.length=n:=⟨_,rfl⟩
 have HB:=Lib.hid hb
 have HN:=Lib.hid hn
 obtain⟨B1,hB1⟩:∃B1,B++([p.last]++PBits.bitsOf 0 2)=B1:=⟨_,rfl⟩
 have hB1l:B1.length=B.length+3:=by rw [<- hB1]; simp [PBits.bitsOf_length]
 obtain⟨B2,hB2⟩:∃B2,B1++List.replicate (PD.pad B1.length) false=B2:=⟨_,rfl⟩
 have hB2l:B2.length=(B1.length+7) / 8 * 8:=by rw [<- hB2,List.length_append,List.length_replicate]; unfold PD.pad; omega
 have hh:=dhead_ok g gw 0 v p B H hb (by decide) (by omega)
 rw [hB1] at hh
 have HH:=Lib.hid hh
 have HB1:=Lib.hid hB1
 have HB2:=Lib.hid hB2
 have y1:=xor_16_u64 n (by omega)
 obtain⟨m,hm⟩:∃m,65535 - n=m:=⟨_,rfl⟩
 rw [hm] at y1
 have hm16:m<2 ^ 16/\n<2 ^ 16:=by omega
 have HM:=Lib.hid hm
 have HM16:=Lib.hid hm16
 rw [hn] at hl
 clear hb hh hB1 hB2 H hn hm hm16
 go_enter Tryd.func80,Tryd.ntmps80
 go_wp2_with fail
 refine HH.out.mono ?_
 rintro _ w1 ⟨rfl,H1⟩
 clear HH
 go_wp2_with fail
 refine(wb_align gw B1 H1 (by omega)).mono ?_
 rintro _ w2 ⟨rfl,H2⟩
 rw [HB2.out] at H2
 have c1:=(HB.out _ _ H2.tail).c1
 rw [HN.out] at c1
 have HX2:=Lib.hid H2
 clear H1 H2
 go_wp2_with fail
 refine(wb_put gw B2 n 16 HX2.out (by decide) HM16.out.2 (by omega)).mono ?_
 rintro _ w3 ⟨rfl,H3⟩
 clear HX2 c1
 have HX3:=Lib.hid H3
 clear H3
 go_wp2_with fail
 refine(wb_put gw _ m 16 HX3.out (by decide) HM16.out.1 (by rw [List.length_append,PBits.bitsOf_length]; omega)).mono ?_
 rintro _ w4 ⟨rfl,H4⟩
 have c1:=(HB.out _ _ H4.tail).c1
 have hby:=(HB.out _ _ H4.tail).b
 have HX4:=Lib.hid H4
 have HBY:=Lib.hid hby
 clear H4 HX3 hby
 go_wp2_with fail
 refine(wb_bytes gw _ HX4.out HBY.out (by simp only [List.length_append,PBits.bitsOf_length]; omega) (by simp only [List.length_append,PBits.bitsOf_length]; omega) (by rw [HN.out]; omega)).mono ?_
 rintro _ w5 ⟨rfl,H5⟩
 go_wp2
 go_end0
 refine⟨rfl,?_⟩
 have e:B++([p.last]++PBits.bitsOf 0 2++(List.replicate (PD.pad (B.length+3)) false++PI.storedW p.b))=B2++PBits.bitsOf n 16++PBits.bitsOf m 16++PBits.ofB p.b:=by
  unfold PI.storedW
  rw [<- HB2.out,<- HB1.out,HN.out,HM.out,<- hB1l,<- HB1.out]
  simp only [List.append_assoc]
 have h:Sp w0 (WB gw (B++([p.last]++PBits.bitsOf 0 2++(List.replicate (PD.pad (B.length+3)) false++PI.storedW p.b)))::L) w5:=by rw [e]; exact H5
 exact h
set_option maxRecDepth 100000 in
set_option maxHeartbeats 1000000 in
theorem dtold_ok (g:Nat) (v:DV) (p:BP) {TL TF:Option Addr} {cl cf:Nat} {w0 w:World} {L:List Pr} (H:Sp w0 L w) (hb:Ent L (DBr g v p)) (hT:Ent L (DTabs TL TF cl cf)) (hF:p.F.length=19) :
  Calls Tryd.prog 114 #[.pointer (some ⟨g,0,none⟩)] w fun e w'=>e=.returned (.int .i64 (PD.told p.F:Int))/\Sp w0 L w':=by
 obtain⟨T,hT9⟩:∃T,PD.told p.F=T:=⟨_,rfl⟩
 rw [hT9]
 have h0:PD.toldN p.F 19=T:=hT9
 have HT:=Lib.hid hT
 have HB:=Lib.hid hb
 have HF:=Lib.hid hF
 have H0:=Lib.hid h0
 clear hT hb hF hT9 h0
 go_enter Tryd.func114,Tryd.ntmps114
 go_wp2_with fail
 go_loopw [3] (fun kv wr=>∃k:Nat,kv=.int .i64 (k:Int)/\k<=19/\PD.toldN p.F k=T/\Sp w0 L wr) (fun kv _=>(intOf kv).toNat)
 case atStart=>exact⟨19,rfl,Nat.le_refl _,H0.out,H⟩
 case round =>
  obtain⟨k,rfl,hk,hu,H1⟩:=hrel
  clear H0 H
  by_cases h4:4<k
  ·obtain⟨j,hj⟩:∃j,k - 1=j:=⟨_,rfl⟩
   have y1:(k:Int) - 1=(j:Int):=by omega
   have g1:(k:Int) > 4:=by omega
   have g2:decide (4<k)=true:=decide_eq_true h4
   have g7:decide ((4:Int)<(k:Int))=true:=decide_eq_true (by omega)
   have g3:(j:Int)<19:=by omega
   have hkj:k=j+1:=by omega
   have o1:=(HT.out _ _ H1).order j (by omega)
   have c7:=(HB.out _ _ H1).c7
   rw [HF.out] at c7
   obtain⟨z,hz⟩:∃z,PI.orderT.getD j 0=z:=⟨_,rfl⟩
   have hz19:z<19:=by
    have:∀j,j<19->PI.orderT.getD j 0<19:=by decide
    rw [<- hz]; exact this j (by omega)
   have g4:(z:Int)<19:=by omega
   obtain⟨ad,hva,c0⟩:=rdN (HB.out _ _ H1).f (i:=z) (by rw [HF.out]; exact hz19)
   obtain⟨x,hx⟩:∃x,p.F.getD z 0=x:=⟨_,rfl⟩
   rw [hva] at c7
   rw [hx] at c0
   rw [hz] at o1
   rw [hkj,PD.toldN,hz,hx] at hu
   have HU:=Lib.hid hu
   have HX:=Lib.hid H1
   clear hu hx hz hva H1
   by_cases h0:x=0
   ·subst h0
    replace c0:wr.cell? (ad.add z)=some (.int .i64 0):=c0
    rw [if_pos ⟨by omega,rfl⟩] at HU
    clear hkj hj
    go_wp2_with fail
    go_quiet (fail)
    have HQ:=Lib.hid (HX.out.drewN nq)
    clear HX
    go_wp2_with fail
    go_roundw
    case rel=>exact⟨j,by go_num,by omega,HU.out,HQ.out⟩
    case measure=>first | (simp [intOf]; omega) | simp [intOf]
   ·have g5:¬ (x:Int)=0:=by omega
    have g6:((x:Int) == 0)=false:=by rw [beq_eq_false_iff_ne]; exact g5
    rw [if_neg (fun h=>h0 h.2),<- hkj] at HU
    clear hkj hj
    go_wp2_with fail
    go_quiet (fail)
    have HQ:=Lib.hid (HX.out.drewN nq)
    clear HX
    go_wp2_with fail
    go_ret
    exact⟨by rw [<- HU.out]; rfl,HQ.out⟩
  ·have g1:¬ (k:Int) > 4:=by omega
   have g2:decide (4<k)=false:=decide_eq_false h4
   have g3:decide ((4:Int)<(k:Int))=false:=decide_eq_false (by omega)
   have HU:Hid (k=T):=by
    rw [<- hu]
    cases k with
    | zero=>exact Lib.hid rfl
    | succ j=>rw [PD.toldN,if_neg (fun h=>h4 h.1)]; exact Lib.hid rfl
   have HX:=Lib.hid H1
   clear hu H1
   go_wp2_with fail
   go_quiet (fail)
   have HQ:=Lib.hid (HX.out.drewN nq)
   clear HX
   go_wp2_with fail
   go_ret
   exact⟨by rw [<- HU.out]; rfl,HQ.out⟩
theorem costW_take {A D:List Nat} {W:List PD.Wd} {i:Nat} (h:i<W.length):PD.costW A D (W.take (i+1))=PD.costW A D (W.take i)+((if (W.getD i (0,0,0,0)).1=0 then A else D).getD (W.getD i (0,0,0,0)).2.1 0+(W.getD i (0,0,0,0)).2.2.1):=by
 have e:W.getD i (0,0,0,0)=W[i]:=by rw [List.getD_eq_getElem?_getD,List.getElem?_eq_getElem h]; rfl
 unfold PD.costW
 rw [e,List.take_succ_eq_append_getElem h,List.map_append,List.sum_append,List.map_singleton,List.sum_singleton]
set_option maxRecDepth 100000 in
set_option maxHeartbeats 4000000 in
theorem dcost_ok (WA AA DA:Option Addr) (n wc na ac nd dc:Nat) (W:List PD.Wd) (A D:List Nat) {w0 w:World} {L:List Pr} (H:Sp w0 L w)
  (hw:Ent L fun w=>Rd w WA (cellsW W)) (ha:Ent L fun w=>Rd w AA (cellsN A)) (hd:Ent L fun w=>Rd w DA (cellsN D)) (hn:n=W.length) (hna:na=A.length) (hnd:nd=D.length) (hnm:n<=2000000)
  (hA:∀x ∈ A,x<=15) (hD:∀x ∈ D,x<=15) (hok:∀t ∈ W,PD.WdOk A D t) :
  Calls Tryd.prog 115 #[.slice WA n wc,.agg #[.slice AA na ac,.slice DA nd dc]] w fun e w'=>e=.returned (.int .i64 (PD.costW A D W:Int))/\Sp w0 L w':=by
 have HW:=Lib.hid hw
 have HA:=Lib.hid ha
 have HD:=Lib.hid hd
 have HN:=Lib.hid hn
 have HA15:=Lib.hid hA
 have HD15:=Lib.hid hD
 have HOK:=Lib.hid hok
 have HNA:=Lib.hid hna
 have HND:=Lib.hid hnd
 have HX:=Lib.hid (H.newBk [.slice AA na ac,.slice DA nd dc] 163)
 clear H hw ha hd hn hA hD hok hna hnd
 go_enter Tryd.func115,Tryd.ntmps115
 go_wp2_with fail
 generalize w.heap.size=g5 at HX ⊢
 go_loopw [5,10] (fun cv iv wr=>∃(i s:Nat),cv=.int .i64 (s:Int)/\iv=.int .i64 (i:Int)/\i<=n/\PD.costW A D (W.take i)=s/\Sp w0 (Bk g5 163 [.slice AA na ac,.slice DA nd dc]::L) wr) (fun _ iv _=>n - (intOf iv).toNat)
 case atStart=>exact⟨0,0,rfl,rfl,Nat.zero_le _,rfl,HX.out⟩
 case round =>
  obtain⟨i,s0,rfl,rfl,hin,hs0,H1⟩:=hrel
  clear HX
  by_cases hlt:i<n
  ·have k1:(i:Int)<(n:Int):=by omega
   have hil:i<W.length:=by rw [<- HN.out]; exact hlt
   obtain⟨ad,rfl,p0,p1,p2,p3⟩:=rdW (HW.out _ _ H1.tail) hil
   have hmem:W.getD i (0,0,0,0) ∈ W:=by rw [List.getD_eq_getElem?_getD,List.getElem?_eq_getElem hil]; exact List.getElem_mem hil
   have hwk:=HOK.out _ hmem
   have hnx:=costW_take (A:=A) (D:=D) hil
   have hsl:s0<=28 * i:=by
    have h:=layW_le HA15.out HD15.out (W.take i) (fun t ht=>HOK.out t (List.mem_of_mem_take ht))
    rw [PD.layW_len,List.length_take,hs0] at h; omega
   obtain⟨⟨b,s,q,r⟩,ht⟩:∃t,W.getD i (0,0,0,0)=t:=⟨_,rfl⟩
   rw [ht] at p0 p1 p2 p3 hwk hnx
   rw [hs0] at hnx
   simp only at p0 p1 p2 p3 hnx
   obtain⟨hb2,hhas,hrq,hq13⟩:=hwk
   simp only at hb2 hhas hrq hq13
   obtain⟨M,hM⟩:∃M,(if b=0 then A else D)=M:=⟨_,rfl⟩
   rw [hM] at hhas hnx
   obtain⟨ln,hln⟩:∃x,M.getD s 0=x:=⟨_,rfl⟩
   have hln15:ln<=15:=by
    rw [<- hln]; refine getD_le15 ?_ s
    rw [<- hM]; split
    ·exact HA15.out
    ·exact HD15.out
   rw [hln] at hnx
   have H2:=H1.newBk [.int .i64 (b:Int),.int .i64 (s:Int),.int .i64 (q:Int),.int .i64 (r:Int)] 194
   have hcells:∃(ea:Addr) (en ec:Nat),s<en/\World.cell? (wr.alloc (.cells #[.int .i64 (b:Int),.int .i64 (s:Int),.int .i64 (q:Int),.int .i64 (r:Int)] 194)) ⟨g5,b,none⟩=some (.slice (some ea) en ec)/\World.cell? (wr.alloc (.cells #[.int .i64 (b:Int),.int .i64 (s:Int),.int .i64 (q:Int),.int .i64 (r:Int)] 194)) (ea.add s)=some (.int .i64 (ln:Int)):=by
    have hb01:b=0∨b=1:=by omega
    rcases hb01 with rfl | rfl
    ·obtain rfl:A=M:=hM
     obtain⟨ea,rfl,hc⟩:=rdN (HA.out _ _ (H2.pick 2 [])) hhas.1
     exact⟨ea,na,ac,by rw [HNA.out]; exact hhas.1,H2.cell 1 rfl 0,by rw [hc,hln]⟩
    ·obtain rfl:D=M:=hM
     obtain⟨ea,rfl,hc⟩:=rdN (HD.out _ _ (H2.pick 2 [])) hhas.1
     exact⟨ea,nd,dc,by rw [HND.out]; exact hhas.1,H2.cell 1 rfl 1,by rw [hc,hln]⟩
   obtain⟨ea,en,ec,hsen,d0,d1⟩:=hcells
   have t0:=H2.cell 0 rfl 0
   have t1:=H2.cell 0 rfl 1
   have t2:=H2.cell 0 rfl 2
   simp only [List.getElem?_cons_zero,List.getElem?_cons_succ] at t0 t1 t2
   have k3:(s:Int)<(en:Int):=by omega
   have k4:(b:Int)<2:=by omega
   obtain⟨l2,hl2⟩:∃x,ln+q=x:=⟨_,rfl⟩
   obtain⟨s2,hs2⟩:∃x,s0+l2=x:=⟨_,rfl⟩
   have y1:(ln:Int)+(q:Int)=(l2:Int):=by omega
   have y2:(s0:Int)+(l2:Int)=(s2:Int):=by omega
   have HNX:Hid (PD.costW A D (W.take (i+1))=s2):=by rw [hnx,hl2,hs2]; exact Lib.hid rfl
   have HX:=Lib.hid H2.tail
   clear hnx hln hhas hM ht hmem H1 H2 hrq hil hs0 hl2 hs2
   go_wp2_with fail
   go_quiet (fail)
   have HQ:=Lib.hid (HX.out.drewN nq)
   clear HX
   go_wp2_with fail
   go_roundw
   case rel=>exact⟨i+1,s2,rfl,by go_num,by omega,HNX.out,HQ.out⟩
   case measure=>first | (simp [intOf]; omega) | simp [intOf]
  ·have k1:¬ (i:Int)<(n:Int):=by omega
   rw [List.take_of_length_le (by rw [<- HN.out]; omega)] at hs0
   have HS:=Lib.hid hs0
   have HX:=Lib.hid H1.tail
   clear H1 hs0
   go_wp2_with fail
   go_ret
   exact⟨by rw [HS.out]; rfl,HX.out⟩
namespace PD
theorem size_app (a c:List PM.St):PM.size (a++c)=PM.size a+PM.size c:=by
 induction a with
 | nil=>simp [PM.size]
 | cons s l ih=>rw [List.cons_append,PM.size,PM.size,ih,Nat.add_assoc]
theorem mays_app (a c:List PM.St) (n:Nat):PM.mays (a++c) n↔PM.mays a n/\PM.mays c (n+PM.size a):=by
 induction a generalizing n with
 | nil=>simp [PM.mays,PM.size]
 | cons s l ih =>
  show PM.fits s n/\PM.mays (l++c) (n+PM.made s)↔(PM.fits s n/\PM.mays l (n+PM.made s))/\_
  rw [ih,PM.size,Nat.add_assoc]
  exact(and_assoc).symm
theorem take_parts (Y:List PM.St) (i:Nat):Y.take (512 * (i+1))=Y.take (512 * i)++partY Y i:=by
 unfold partY
 rw [show 512 * (i+1)=512 * i+512 by omega,List.take_add]
theorem atB_succ (Y:List PM.St) (i:Nat):atB Y (i+1)=atB Y i+PM.size (partY Y i):=by
 unfold atB
 rw [take_parts,size_app]
/-! Which kind. -/
theorem pick_lt (s:Int) (f d:Nat):pick s f d<3:=by
 unfold pick
 split
 ·split
  ·split <;> omega
  ·split <;> omega
 ·split <;> omega
theorem pick_sto {s:Int} {f d:Nat} (h:pick s f d=0):0<=s:=by
 unfold pick at h
 split at h
 ·assumption
 ·split at h <;> omega
theorem kind_sto {Y:List PM.St} {b:List UInt8} {a:Nat} (h:kind Y b a=0):b.length<=65535:=by
 have:=pick_sto h
 unfold sto at this
 split at this
 ·assumption
 ·omega
/-! The lengths of a part's own books. -/
theorem lenA_ok (Y:List PM.St):PI.book (lenA Y)=true/\257<=(lenA Y).length/\(lenA Y).length<=286/\(∀x ∈ lenA Y,x<=15)/\(∀s ∈ PI.symsOf (toks Y),s<286->PI.Has (lenA Y) s):=by
 obtain⟨a1,a2,a3,a4,a5⟩:=PI.lens_fits 286 15 (PI.symsOf (toks Y)) (by decide) (by decide) (by decide) (by decide)
 have e1:PI.lensA (toks Y)=PL.lens (PI.cnts 286 (PI.symsOf (toks Y))) 15:=rfl
 rw [<- e1] at a1 a2 a3 a4
 have h1:=used_le (PI.lensA (toks Y)) 257 (PI.lensA (toks Y)).length
 have h2:=used_least (PI.lensA (toks Y)) 257 (PI.lensA (toks Y)).length (by rw [a2]; decide)
 refine⟨cut_book _ _ a1,?_,?_,fun x hx=>a3 x (cut_mem _ _ x hx),fun s hs h=>cut_has _ _ _ (a4 s hs h)⟩
 ·unfold lenA; rw [cut_len]; exact h2
 ·unfold lenA; rw [cut_len]; omega
theorem lenB_ok (Y:List PM.St):PI.book (lenB Y)=true/\1<=(lenB Y).length/\(lenB Y).length<=30/\(∀x ∈ lenB Y,x<=15)/\(∀s ∈ PI.farsOf (toks Y),s<30->PI.Has (lenB Y) s):=by
 obtain⟨a1,a2,a3,a4,a5⟩:=PI.lens_fits 30 15 (PI.farsOf (toks Y)) (by decide) (by decide) (by decide) (by decide)
 have e1:PI.lensB (toks Y)=PL.lens (PI.cnts 30 (PI.farsOf (toks Y))) 15:=rfl
 rw [<- e1] at a1 a2 a3 a4
 have h1:=used_le (PI.lensB (toks Y)) 1 (PI.lensB (toks Y)).length
 have h2:=used_least (PI.lensB (toks Y)) 1 (PI.lensB (toks Y)).length (by rw [a2]; decide)
 refine⟨cut_book _ _ a1,?_,?_,fun x hx=>a3 x (cut_mem _ _ x hx),fun s hs h=>cut_has _ _ _ (a4 s hs h)⟩
 ·unfold lenB; rw [cut_len]; exact h2
 ·unfold lenB; rw [cut_len]; omega
theorem rowY_15 (Y:List PM.St):∀x ∈ lenA Y++lenB Y,x<=15:=fun x hx=>by
 rcases List.mem_append.1 hx with h | h
 ·exact(lenA_ok Y).2.2.2.1 x h
 ·exact(lenB_ok Y).2.2.2.1 x h
theorem fst7_ok (Y:List PM.St):PI.book (fst7 Y)=true/\(fst7 Y).length=19/\(∀x ∈ fst7 Y,x<=7)/\(∀t ∈ rowY Y,PI.Has (fst7 Y) t.1):=by
 obtain⟨c1,c2,c3,c4,c5⟩:=PI.lens_fits 19 7 ((rowY Y).map Prod.fst) (by decide) (by decide) (by decide) (by decide)
 exact⟨c1,c2,c3,fun t ht=>c4 t.1 (List.mem_map_of_mem ht) (rl_small _ _ _ (rowY_15 Y) t ht).1⟩
theorem told_ok (m:List Nat):4<=told m/\told m<=19:=⟨toldN_least m 19 (by decide),toldN_le m 19⟩
theorem row_ok (Y:List PM.St):PI.tellsO [] (rowY Y)=lenA Y++lenB Y/\PI.TellsOk (fst7 Y) [] (rowY Y):=by
 have h:=row_all (m:=fst7 Y) (lenA Y++lenB Y) (rowY_15 Y)
 have er:row (lenA Y++lenB Y)=rowY Y:=by rw [rowY]
 rw [er] at h
 have c4:=(fst7_ok Y).2.2.2
 generalize rowY Y=R at h c4 ⊢
 generalize fst7 Y=F at h c4 ⊢
 exact⟨h.1,h.2 c4⟩
theorem atB_le (Y:List PM.St) (i:Nat):atB Y i<=PM.size Y:=by
 have:=size_app (Y.take (512 * i)) (Y.drop (512 * i))
 rw [List.take_append_drop] at this
 unfold atB; omega
end PD
end Go.Proofs.YtloijdbkikccgaaDoor

