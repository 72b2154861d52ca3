/- A pack of texts: InfG InfH. -/
import Derived.Test.YtloijdbkikccgaaGreatDoorPk02
import Derived.Test.YtloijdbkikccgaaGreatDoorPk28
namespace Go.Proofs.YtloijdbkikccgaaGreatDoor
set_option linter.unusedVariables false
set_option linter.unusedSimpArgs false
open Go.RowKit
def XPost {α:Type} (w0:World) (L:List Pr) (T:Except Nat α) (okp:α->Ending->World->Prop) (e:Ending) (w' : World):Prop :=
 match T with
 | .error c=>e=.panicked (pan c)/\Sp w0 L w'
 | .ok r=>okp r e w'
theorem XPost.no {α:Type} {w0:World} {L:List Pr} {T:Except Nat α} {okp:α->Ending->World->Prop} {c:Nat} {w' : World} (h:T=.error c) (H:Sp w0 L w'):XPost w0 L T okp (.panicked (pan c)) w':=by
 subst h; exact⟨rfl,H⟩
theorem XPost.yes {α:Type} {w0:World} {L:List Pr} {T:Except Nat α} {okp:α->Ending->World->Prop} {r:α} {e:Ending} {w' : World} (h:T=.ok r) (H:okp r e w'):XPost w0 L T okp e w':=by
 subst h; exact H
def lenV:Value->Nat
 | .slice _ n _=>n
 | _=>0
namespace PI
section
variable {B:List Bool} {m:List Nat} {many a a1 a2 c n:Nat} {acc:List Nat}
theorem stepL_err (h:sign B m a=.error c):stepL B m many a acc=.error c:=by unfold stepL; rw [h]; rfl
theorem stepL_none (h:sign B m a=.ok (a1,16)) (h0:acc.length=0):stepL B m many a acc=.error 20:=by unfold stepL; rw [h]; simp [Except.bind,h0]
theorem stepL_16 (h:sign B m a=.ok (a1,16)) (h0:¬ acc.length=0):stepL B m many a acc=(number B a1 2).bind fun n=>fill many acc (acc.getD (acc.length - 1) 0) (3+n.2) n.1:=by
 unfold stepL
 rw [h]
 have e:∀ {α:Type} (x y:α),(if acc.length=0 then x else y)=y:=fun x y=>if_neg h0
 exact e _ _
theorem stepL_17 (h:sign B m a=.ok (a1,17)):stepL B m many a acc=(number B a1 3).bind fun n=>fill many acc 0 (3+n.2) n.1:=by unfold stepL; rw [h]; rfl
theorem stepL_18 (h:sign B m a=.ok (a1,18)):stepL B m many a acc=(number B a1 7).bind fun n=>fill many acc 0 (11+n.2) n.1:=by unfold stepL; rw [h]; rfl
theorem stepL_s {s:Nat} (h:sign B m a=.ok (a1,s)) (h6:¬ s=16) (h7:¬ s=17) (h8:¬ s=18):stepL B m many a acc=fill many acc s 1 a1:=by unfold stepL; rw [h]; show(if s=16 then _ else if s=17 then _ else if s=18 then _ else _)=_; rw [if_neg h6,if_neg h7,if_neg h8]
end
theorem rows_lt (m:List Nat):∀s ∈ PH.rows m,s<m.length:=by
 intro s hs
 have:∀n,∀s ∈ PH.rowsB m n,s<m.length:=by
  intro n
  induction n with
  | zero=>intro s hs; cases hs
  | succ n ih =>
   intro s hs
   rw [PH.rowsB] at hs
   rcases List.mem_append.1 hs with hs | hs
   ·exact ih s hs
   ·unfold PH.idx at hs
    exact List.mem_range.1 (List.mem_filter.1 hs).1
 exact this 15 s hs
theorem getD_le {l:List Nat} {b:Nat} (h:∀x ∈ l,x<=b) (i:Nat):l.getD i 0<=b:=by
 rw [List.getD_eq_getElem?_getD]
 cases hg:l[i]? with
 | none=>exact Nat.zero_le _
 | some x=>exact h x (List.mem_of_getElem? hg)
theorem next_lt (m:List Nat) (l:List Bool):∀k n,(PH.nextFrom m l k n).2.2<=m.length:=by
 intro k
 induction k with
 | zero=>intro n; exact Nat.zero_le _
 | succ k ih =>
  intro n
  rw [PH.nextFrom]
  split
  ·exact Nat.zero_le _
  split
  ·dsimp only
   exact getD_le (l:=PH.rows m) (b:=m.length) (fun x hx=>Nat.le_of_lt (rows_lt m x hx)) _
  ·exact ih _
theorem sign_lt {B:List Bool} {m:List Nat} {a:Nat} {r:Nat × Nat} (h:sign B m a=.ok r):r.2<=m.length:=by
 have h1:=next_lt m (B.drop a) (mostN m) 0
 unfold sign at h
 split at h
 ·cases h; exact h1
 ·cases h
end PI
set_option maxRecDepth 100000 in
set_option maxHeartbeats 4000000 in
theorem xlens_ok (gx gr gb:Nat) (l:List UInt8) (most at_ many:Nat) (vo vb:Value) (m:List Nat) {w0 w:World} {L:List Pr} (H:Sp w0 (Rr gr l at_::XpB gx gr vo most vb::Bok gb m::L) w) (ha:at_<=8 * l.length) (hl:l.length<=100000000) (hs:PH.sum m<=32768) (hm:m.length<=1000) (hmany:many<=1000) :
  Calls Tryz.prog 169 #[.pointer (some ⟨gx,0,none⟩),.pointer (some ⟨gb,0,none⟩),.int .i64 (many:Int)] w
   (XPost w0 L (PI.lens (PBits.ofB l) m many (many+1) at_ []) fun r e w'=>∃v,e=.returned v/\Sp w0 (Row 3 1 v r.2.length (cellsN r.2)::Rr gr l r.1::XpB gx gr vo most vb::Bok gb m::L) w'):=by
 obtain⟨i0,hi,hz0,hz1,hz2⟩:=info_parts infoJ
 obtain⟨T,hT⟩:∃T,PI.lens (PBits.ofB l) m many (many+1) at_ []=T:=⟨_,rfl⟩
 rw [hT]
 have HT:=Lib.hid hT
 have HL:=Lib.hid hl
 have HS:=Lib.hid hs
 clear hT hs
 go_enter Tryz.func169,Tryz.ntmps169
 go_wp2_with fail
 go_loopw [7] (fun c7 wr=>∃(a f:Nat) (acc:List Nat),a<=8 * l.length/\acc.length<=many/\many<acc.length+f/\(∀x ∈ acc,x<=1000)/\PI.lens (PBits.ofB l) m many f a acc=T/\Sp w0 (Row 3 1 c7 acc.length (cellsN acc)::Rr gr l a::XpB gx gr vo most vb::Bok gb m::L) wr) (fun c7 _=>many - lenV c7)
 case atStart=>exact⟨at_,many+1,[],ha,Nat.zero_le _,by simp,fun x hx=>(by cases hx),HT.out,H.rowNil _ _⟩
 case round =>
  obtain⟨a,f,acc,ha1,hlm,hf,hsm,hst,H1⟩:=hrel
  obtain⟨VA,vc,rfl,hnc,hcm⟩:=Row.form H1 0 rfl
  obtain⟨n,hn⟩:∃n,acc.length=n:=⟨_,rfl⟩
  rw [hn] at hlm hf hnc H1 ⊢
  obtain⟨f,rfl⟩:∃f',f=f'+1:=⟨f - 1,by omega⟩
  rw [PI.lens,hn] at hst
  have HN:=Lib.hid hn
  have HSM:=Lib.hid hsm
  have HCM:=Lib.hid hcm
  clear hn hsm hcm H HT
  by_cases hlt:n<many
  ·have k1:(n:Int)<(many:Int):=by omega
   rw [if_pos hlt] at hst
   have HST:=Lib.hid hst
   have h1:=xsign_ok gx gr gb l most a vo vb m (H1.pick 4 [1,2,3,0]) ha1 HL.out HS.out (by omega)
   have HC:=Lib.hid h1
   clear hst h1
   go_wp2_with fail
   refine HC.out.mono ?_
   intro e9 w2 h9
   cases hr:PI.sign (PBits.ofB l) m a with
   | error c =>
    rw [hr] at h9
    obtain⟨rfl,H2⟩:=h9
    have HE:Hid (T=.error c):=by rw [<- HST.out,PI.stepL_err hr]; rfl
    clear hr HC HST
    go_wp2
    exact⟨rfl,XPost.no HE.out H2.tail⟩
   | ok r =>
    obtain⟨a1,s⟩:=r
    rw [hr] at h9
    obtain⟨rfl,H2⟩:=h9
    have h2:=PI.sign_ok (by rw [PBits.ofB_length]; exact ha1) hr
    rw [PBits.ofB_length] at h2
    have ha2:a1<=8 * l.length:=h2.2
    have hsl:s<=1000:=Nat.le_trans (PI.sign_lt hr) hm
    have HR:=Lib.hid hr
    clear hr HC h2
    show _
    by_cases h16:s=16
    ·subst h16
     by_cases hn0:n=0
     ·have k2:(n:Int)=0:=by omega
      have k3:((n:Int) == 0)=true:=by simpa using k2
      have HE:Hid (T=.error 20):=by rw [<- HST.out,PI.stepL_none HR.out (by rw [HN.out]; exact hn0)]; rfl
      subst hn0
      clear HST HR
      go_wp2
      exact⟨rfl,XPost.no HE.out H2.tail.tail2.tail⟩
     ·have k2:((n:Int) == 0)=false:=by rw [beq_eq_false_iff_ne]; omega
      have HF:=Lib.hid (PI.stepL_16 (many:=many) HR.out (by rw [HN.out]; exact hn0))
      obtain⟨n1,hn1⟩:∃n1,n - 1=n1:=⟨_,rfl⟩
      have y1:(n:Int) - 1=(n1:Int):=by omega
      have y2:(n1:Int)<(n:Int):=by omega
      obtain⟨z,hz⟩:∃z,acc.getD n1 0=z:=⟨_,rfl⟩
      have hcell:∀(M:List Pr) (W:World) (W0:World) (k:Nat),M[k]?=some (Row 3 1 (.slice VA n vc) n (cellsN acc))->Sp W0 M W->∃ad,VA=some ad/\W.cell? (ad.add n1)=some (.int .i64 (z:Int)):=by
       intro M W W0 k hk HM
       obtain⟨ad,e,hcc⟩:=(row_ent k hk W0 W HM).at_ (k:=n1) (by rw [cellsN,List.length_map,HN.out]; omega)
       refine⟨ad,e,hcc.trans ?_⟩
       have hlt2:n1<acc.length:=by rw [HN.out]; omega
       rw [<- hz,List.getD_eq_getElem?_getD,List.getElem?_eq_getElem hlt2]
       simp [cellsN]
      obtain⟨ad,rfl,_⟩:=hcell _ _ _ 3 rfl H2
      have HCC:=Lib.hid hcell
      have hzs:z<=1000:=by
       rw [<- hz,List.getD_eq_getElem?_getD]
       cases hg:acc[n1]? with
       | none=>exact Nat.zero_le _
       | some x=>exact HSM.out x (List.mem_of_getElem? hg)
      have HZ:Hid (acc.getD (acc.length - 1) 0=z):=by rw [HN.out,hn1,hz]; exact Lib.hid rfl
      clear hcell hz hn1
      have hq:=xnum_ok gx gr l most a1 2 vo vb H2 ha2 (by omega) HL.out
      cases hr2:PI.number (PBits.ofB l) a1 2 with
      | error c =>
       have HE:Hid (T=.error c):=by rw [<- HST.out,HF.out,hr2]; rfl
       have HR2:=Lib.hid hr2
       clear hq hr2 HST HF HR
       go_wp2_with fail
       refine wp_region_sc (L:=Bok gb m::Row 3 1 (.slice (some ad) n vc) n (cellsN acc)::L) [some (.slice (some ad) n vc),some (.slice (some ad) n vc),some (.int .i64 (n:Int)),some (.int .i64 (n1:Int)),some (.pointer (some (ad.add n1))),some (.int .i64 (z:Int)),some (.pointer (some ⟨gx,0,none⟩)),none,none,some (.int .i64 (z:Int)),none] (fun ix vx=>match ix with | 7=>(fun _=>False) vx | _=>True) (fun _ _=>[]) (fun ix=>match ix with | 7=>[Rr gr l a1,XpB gx gr vo most vb] | _=>[]) 11 57
        [some 24,some 25,some 26,some 27,some 28,some 29,some 30,some 31,some 32,some 8,some 9]
        [[],[],[1],[2],[0,3],[4],[],[6],[7],[5,7,0,1,2,3,4,5],[8,9,0,1,2,3,4,5,6,7,8,9]]
        [[],[],[1],[1,2],[0,1,2,3],[0,1,2,3,4],[],[6],[6,7],[0,1,2,3,4,5,6,7],[0,1,2,3,4,5,6,7,8,9]]
        [[],[],[],[],[],[],[],[],[],[],[]] [[],[],[],[],[],[],[],[],[],[],[]] [(0,.pointer (some ⟨gx,0,none⟩)),(7,.slice (some ad) n vc)]
        (by kernel_rfl) rfl (by decide) (by rfl) (by decide +kernel) rfl rfl (by simp) (H2) ?hstep ?hend
       case hstep =>
        refine⟨?p0,⟨?p1,⟨?p2,⟨?p3,⟨?p4,⟨?p5,⟨?p6,⟨?p7,⟨?p8,⟨?p9,⟨?p10,trivial⟩⟩⟩⟩⟩⟩⟩⟩⟩⟩⟩
        case p0 | p1 | p2 | p3 | p4 | p6 | p9 =>
         intro x wx A rest hDf hF hS hE H K hK
         replace hK:=Lib.hid hK
         clear hS hE hDf
         repeat (obtain⟨_,hF⟩:=hF)
         change Oper.wp _ _ A wx K _
         go_step
         exact hK.out _ _ rfl H
        case p5 =>
         intro x wx A rest hDf hF hS hE H K hK0
         replace hDf:=Lib.hid hDf
         have e28:A.tmps[28]?.getD undef=.pointer (some (ad.add n1)):=((hS 4 (by decide)).2 28 rfl).trans (hS 4 (by decide)).1
         replace H:Sp w0 (rest) wx:=H
         have hK:Hid (∀(v:Value) (w' : World),v=.int .i64 (z:Int)->Sp w0 (rest) w'->K (A.put (some 29) v) w'):=Lib.hid hK0
         clear hK0 hF hS
         have hc:wx.cell? (ad.add n1)=some (.int .i64 (z:Int)):=hE (fun w=>w.cell? (ad.add n1)=some (.int .i64 (z:Int))) (fun _ _ H=>by obtain⟨ad9,e9,h9⟩:=HCC.out _ _ _ 1 rfl H; injection e9 with e9; rw [e9]; exact h9) _ _ H
         change Oper.wp _ _ A wx K _
         go_step
         exact hK.out _ _ rfl (H)
        case p7 =>
         intro x wx A rest hDf hF hS hE H K hK0
         replace hDf:=Lib.hid hDf
         have e30:A.tmps[30]?.getD undef=.pointer (some ⟨gx,0,none⟩):=((hS 6 (by decide)).2 30 rfl).trans (hS 6 (by decide)).1
         replace H:Sp w0 ((Rr gr l a1)::(XpB gx gr vo most vb)::rest) wx:=H
         have hK:Hid (∀(v:Value) (w' : World),False->Sp w0 (rest) w'->K (A.put (some 31) v) w'):=Lib.hid hK0
         clear hK0 hF hS
         change Oper.wp _ _ A wx K _
         go_wp2_with fail
         have h9:=xnum_ok gx gr l most a1 2 vo vb H ha2 (by omega) HL.out
         rw [HR2.out] at h9
         refine h9.mono ?_
         clear h9
         rintro _ w9 ⟨rfl,H9⟩
         go_wp2
         exact⟨hDf.out,XPost.no HE.out (H9.sub hE).tail2⟩
        case p8 =>
         intro x wx A rest hDf hF hS hE H K hK0
         replace hDf:=Lib.hid hDf
         have q31:False:=(hS 7 (by decide)).1
         have e31:A.tmps[31]?.getD undef=x 7:=(hS 7 (by decide)).2 31 rfl
         replace H:Sp w0 (rest) wx:=H
         have hK:Hid (∀(v:Value) (w' : World),True->Sp w0 (rest) w'->K (A.put (some 32) v) w'):=Lib.hid hK0
         clear hK0 hF
         exact((hS 7 (by decide)).1:False).elim
        case p10 =>
         intro x wx A rest hDf hF hS hE H K hK0
         replace hDf:=Lib.hid hDf
         have q32:True:=(hS 8 (by decide)).1
         have e32:A.tmps[32]?.getD undef=x 8:=(hS 8 (by decide)).2 32 rfl
         replace H:Sp w0 (rest) wx:=H
         have hK:Hid (∀(v:Value) (w' : World),True->Sp w0 (rest) w'->K (A.put (some 9) v) w'):=Lib.hid hK0
         clear hK0 hF
         exact((hS 7 (by decide)).1:False).elim
       case hend =>
        intro x wx A hA hS H
        replace H:Sp w0 (Bok gb m::Row 3 1 (.slice (some ad) n vc) n (cellsN acc)::L) wx:=H
        have y7:False:=hS 7 (by decide)
        clear hS
        simp only [putAll,Act.put,List.setIfInBounds_toArray,List.set_cons_succ,List.set_cons_zero,Nat.reduceAdd] at hA
        subst hA
        exact y7.elim
      | ok r2 =>
       obtain⟨e1,hle⟩:=PI.number_ok hr2
       have hx:=PI.numAt_small (PBits.ofB l) a1 2 2 (by omega)
       subst e1
       obtain⟨xn,hx2⟩:∃x,PI.numAt (PBits.ofB l) a1 2=x:=⟨_,rfl⟩
       rw [hx2] at hr2 hx
       rw [PBits.ofB_length] at hle
       have HR2:=Lib.hid hr2
       obtain⟨kk,hkk⟩:∃kk,3+xn=kk:=⟨_,rfl⟩
       have y3:(3:Int)+(xn:Int)=(kk:Int):=by omega
       have hk1:1<=kk:=by omega
       have hk2:kk<=4096:=by omega
       have HFF:Hid (PI.stepL (PBits.ofB l) m many a acc=PI.fill many acc z kk (a1+2)):=by
        rw [HF.out,hr2]
        show PI.fill many acc _ (3+xn) (a1+2)=_
        rw [HZ.out,hkk]
       clear hq hr2 hx2 hkk HF HR
       go_wp2_with fail
       refine wp_region_sc (L:=Bok gb m::Row 3 1 (.slice (some ad) n vc) n (cellsN acc)::L) [some (.slice (some ad) n vc),some (.slice (some ad) n vc),some (.int .i64 (n:Int)),some (.int .i64 (n1:Int)),some (.pointer (some (ad.add n1))),some (.int .i64 (z:Int)),some (.pointer (some ⟨gx,0,none⟩)),some (.int .i64 (xn:Int)),some (.int .i64 (kk:Int)),some (.int .i64 (z:Int)),some (.int .i64 (kk:Int))] (fun _ _=>True) (fun ix vx=>match ix with | 7=>(fun _=>[Rr gr l (a1+2),XpB gx gr vo most vb]) vx | _=>[]) (fun ix=>match ix with | 7=>[Rr gr l a1,XpB gx gr vo most vb] | _=>[]) 11 57
        [some 24,some 25,some 26,some 27,some 28,some 29,some 30,some 31,some 32,some 8,some 9]
        [[],[],[1],[2],[0,3],[4],[],[6],[7],[5,7,0,1,2,3,4,5],[8,9,0,1,2,3,4,5,6,7,8,9]]
        [[],[],[1],[1,2],[0,1,2,3],[0,1,2,3,4],[],[6],[6,7],[0,1,2,3,4,5,6,7],[0,1,2,3,4,5,6,7,8,9]]
        [[],[],[],[],[],[],[],[],[],[],[]] [[],[],[],[],[],[],[],[],[],[],[]] [(0,.pointer (some ⟨gx,0,none⟩)),(7,.slice (some ad) n vc)]
        (by kernel_rfl) rfl (by decide) (by rfl) (by decide +kernel) rfl rfl (by simp) (H2) ?hstep ?hend
       case hstep =>
        refine⟨?p0,⟨?p1,⟨?p2,⟨?p3,⟨?p4,⟨?p5,⟨?p6,⟨?p7,⟨?p8,⟨?p9,⟨?p10,trivial⟩⟩⟩⟩⟩⟩⟩⟩⟩⟩⟩
        case p0 | p1 | p2 | p3 | p4 | p6 | p8 | p9 | p10 =>
         intro x wx A rest hDf hF hS hE H K hK
         replace hK:=Lib.hid hK
         clear hS hE hDf
         repeat (obtain⟨_,hF⟩:=hF)
         change Oper.wp _ _ A wx K _
         go_step
         exact hK.out _ _ rfl H
        case p5 =>
         intro x wx A rest hDf hF hS hE H K hK0
         replace hDf:=Lib.hid hDf
         have e28:A.tmps[28]?.getD undef=.pointer (some (ad.add n1)):=((hS 4 (by decide)).2 28 rfl).trans (hS 4 (by decide)).1
         replace H:Sp w0 (rest) wx:=H
         have hK:Hid (∀(v:Value) (w' : World),v=.int .i64 (z:Int)->Sp w0 (rest) w'->K (A.put (some 29) v) w'):=Lib.hid hK0
         clear hK0 hF hS
         have hc:wx.cell? (ad.add n1)=some (.int .i64 (z:Int)):=hE (fun w=>w.cell? (ad.add n1)=some (.int .i64 (z:Int))) (fun _ _ H=>by obtain⟨ad9,e9,h9⟩:=HCC.out _ _ _ 1 rfl H; injection e9 with e9; rw [e9]; exact h9) _ _ H
         change Oper.wp _ _ A wx K _
         go_step
         exact hK.out _ _ rfl (H)
        case p7 =>
         intro x wx A rest hDf hF hS hE H K hK0
         replace hDf:=Lib.hid hDf
         have e30:A.tmps[30]?.getD undef=.pointer (some ⟨gx,0,none⟩):=((hS 6 (by decide)).2 30 rfl).trans (hS 6 (by decide)).1
         replace H:Sp w0 ((Rr gr l a1)::(XpB gx gr vo most vb)::rest) wx:=H
         have hK:Hid (∀(v:Value) (w' : World),v=.int .i64 (xn:Int)->Sp w0 ((Rr gr l (a1+2))::(XpB gx gr vo most vb)::rest) w'->K (A.put (some 31) v) w'):=Lib.hid hK0
         clear hK0 hF hS hE
         change Oper.wp _ _ A wx K _
         go_wp2_with fail
         have h9:=xnum_ok gx gr l most a1 2 vo vb H ha2 (by omega) HL.out
         rw [HR2.out] at h9
         refine h9.mono ?_
         clear h9
         rintro _ w9 ⟨rfl,H9⟩
         exact hK.out _ _ rfl H9
       case hend =>
        intro x wx A hA hS H
        replace H:Sp w0 ((Rr gr l (a1+2))::(XpB gx gr vo most vb)::Bok gb m::Row 3 1 (.slice (some ad) n vc) n (cellsN acc)::L) wx:=H
        have y9:x 9=.int .i64 (z:Int):=hS 9 (by decide)
        have y10:x 10=.int .i64 (kk:Int):=hS 10 (by decide)
        clear hS
        simp only [putAll,Act.put,List.setIfInBounds_toArray,List.set_cons_succ,List.set_cons_zero,Nat.reduceAdd] at hA
        subst hA
        rw [y9,y10]
        clear y9 y10
        by_cases hroom:many - n<kk
        ·have j1:(kk:Int) > (many:Int) - (n:Int):=by omega
         have HE:Hid (T=.error 20):=by
          rw [<- HST.out,HFF.out]
          unfold PI.fill
          rw [HN.out,if_pos hroom]; exact Lib.hid rfl
         clear HST HFF
         go_wp2
         exact⟨rfl,XPost.no HE.out (H.pick 4 [])⟩
        ·have j1:¬ (kk:Int) > (many:Int) - (n:Int):=by omega
         have HNX:Hid (PI.lens (PBits.ofB l) m many f (a1+2) (acc++List.replicate kk z)=T):=by
          rw [<- HST.out,HFF.out]
          unfold PI.fill
          rw [HN.out,if_neg hroom]; exact Lib.hid rfl
         clear HST HFF
         go_wp2_with fail
         have H4:=H.newBk [.int .i64 (z:Int)] 3
         refine(repeatI_ok _ 1 (.int .i64 (z:Int)) kk H4 (fun _ _ H=>Rd.of_blk (H.blk 0 rfl)) rfl (by omega) (by omega)).mono ?_
         rintro _ w4 ⟨gq,rfl,H5⟩
         have H6:=H5.pick 6 [5,0,2,3,4]
         have HCM2:=HCM.out
         go_wp2_with (at_builtin; refine wpList_append_sp rfl _ _ 147 rfl 3 i0 (.int .i64 0) 1 8 Tryz.underlying147 hi hz0 hz1 hz2 rfl (by decide) _ n (cellsN acc) rfl H6 (some ⟨gq,0,none⟩) kk kk (List.replicate kk (.int .i64 (z:Int))) rfl (by rw [List.length_replicate,Nat.mul_one]) (row_ent 1 rfl _ _ H6) (fun u hu=>by rw [(List.mem_replicate.1 hu).2]; rfl) (by unfold maxLen; omega) (by omega) ?_)
         intro v5 w5 H7 _
         obtain⟨VA5,vc5,rfl,_,_⟩:=Row.form H7 0 rfl
         have hl5:(acc++List.replicate kk z).length=n+kk:=by rw [List.length_append,List.length_replicate,HN.out]
         have HL5:=Lib.hid hl5
         clear hl5 H4 H5
         go_wp2
         go_roundw
         case rel =>
          refine⟨(a1+2),f,acc++List.replicate kk z,by omega,by rw [HL5.out]; omega,by rw [HL5.out]; omega,fun x hx=>?_,HNX.out,?_⟩
          ·rcases List.mem_append.1 hx with hx | hx
           ·exact HSM.out x hx
           ·rw [(List.mem_replicate.1 hx).2]; omega
          ·rw [HL5.out]
           have ec:cellsN (acc++List.replicate kk z)=cellsN acc++List.replicate kk (.int .i64 (z:Int)):=by unfold cellsN; rw [List.map_append,List.map_replicate] <;> rfl
           rw [ec]
           exact H7.pick 5 [0,2,3,4]
         case measure=>simp only [lenV]; omega
    ·have g16:((s:Int) == 16)=false:=by rw [beq_eq_false_iff_ne]; omega
     by_cases h17:s=17
     ·subst h17
      have HF:=Lib.hid (PI.stepL_17 (acc:=acc) (many:=many) HR.out)
      have hq:=xnum_ok gx gr l most a1 3 vo vb H2 ha2 (by omega) HL.out
      have HQ:=Lib.hid hq
      clear hq HR
      go_wp2_with fail
      refine HQ.out.mono ?_
      intro e8 w3 h8
      cases hr2:PI.number (PBits.ofB l) a1 3 with
      | error c =>
       rw [hr2] at h8
       obtain⟨rfl,H3⟩:=h8
       have HE:Hid (T=.error c):=by rw [<- HST.out,HF.out,hr2]; rfl
       clear hr2 HQ HST HF
       go_wp2
       exact⟨rfl,XPost.no HE.out H3.tail2⟩
      | ok r2 =>
       obtain⟨e1,hle⟩:=PI.number_ok hr2
       have hx:=PI.numAt_small (PBits.ofB l) a1 3 3 (by omega)
       subst e1
       obtain⟨x,hx2⟩:∃x,PI.numAt (PBits.ofB l) a1 3=x:=⟨_,rfl⟩
       rw [hr2] at h8
       rw [hx2] at hr2 hx h8
       rw [PBits.ofB_length] at hle
       obtain⟨rfl,H3⟩:=h8
       obtain⟨kk,hkk⟩:∃kk,3+x=kk:=⟨_,rfl⟩
       have y3:(3:Int)+(x:Int)=(kk:Int):=by omega
       have hk1:1<=kk:=by omega
       have hk2:kk<=4096:=by omega
       have HFF:Hid (PI.stepL (PBits.ofB l) m many a acc=PI.fill many acc 0 kk (a1+3)):=by
        rw [HF.out,hr2]
        show PI.fill many acc _ (3+x) (a1+3)=_
        rw [hkk]
       clear hr2 hx2 hkk HF HQ
       show _
       by_cases hroom:many - n<kk
       ·have j1:(kk:Int) > (many:Int) - (n:Int):=by omega
        have HE:Hid (T=.error 20):=by
         rw [<- HST.out,HFF.out]
         unfold PI.fill
         rw [HN.out,if_pos hroom]; exact Lib.hid rfl
        clear HST HFF
        go_wp2
        exact⟨rfl,XPost.no HE.out (H3.pick 4 [])⟩
       ·have j1:¬ (kk:Int) > (many:Int) - (n:Int):=by omega
        have HNX:Hid (PI.lens (PBits.ofB l) m many f (a1+3) (acc++List.replicate kk 0)=T):=by
         rw [<- HST.out,HFF.out]
         unfold PI.fill
         rw [HN.out,if_neg hroom]; exact Lib.hid rfl
        clear HST HFF
        go_wp2_with fail
        have H4:=H3.newBk [.int .i64 0] 3
        refine(repeatI_ok _ 1 (.int .i64 0) kk H4 (fun _ _ H=>Rd.of_blk (H.blk 0 rfl)) rfl (by omega) (by omega)).mono ?_
        rintro _ w4 ⟨gq,rfl,H5⟩
        have H6:=H5.pick 6 [5,0,2,3,4]
        have HCM2:=HCM.out
        go_wp2_with (at_builtin; refine wpList_append_sp rfl _ _ 147 rfl 3 i0 (.int .i64 0) 1 8 Tryz.underlying147 hi hz0 hz1 hz2 rfl (by decide) _ n (cellsN acc) rfl H6 (some ⟨gq,0,none⟩) kk kk (List.replicate kk (.int .i64 0)) rfl (by rw [List.length_replicate,Nat.mul_one]) (row_ent 1 rfl _ _ H6) (fun u hu=>by rw [(List.mem_replicate.1 hu).2]; rfl) (by unfold maxLen; omega) (by omega) ?_)
        intro v5 w5 H7 _
        obtain⟨VA5,vc5,rfl,_,_⟩:=Row.form H7 0 rfl
        have hl5:(acc++List.replicate kk 0).length=n+kk:=by rw [List.length_append,List.length_replicate,HN.out]
        have HL5:=Lib.hid hl5
        clear hl5 H4 H5
        go_wp2
        go_roundw
        case rel =>
         refine⟨(a1+3),f,acc++List.replicate kk 0,by omega,by rw [HL5.out]; omega,by rw [HL5.out]; omega,fun x hx=>?_,HNX.out,?_⟩
         ·rcases List.mem_append.1 hx with hx | hx
          ·exact HSM.out x hx
          ·rw [(List.mem_replicate.1 hx).2]; omega
         ·rw [HL5.out]
          have ec:cellsN (acc++List.replicate kk 0)=cellsN acc++List.replicate kk (.int .i64 0):=by unfold cellsN; rw [List.map_append,List.map_replicate] <;> rfl
          rw [ec]
          exact H7.pick 5 [0,2,3,4]
        case measure=>simp only [lenV]; omega
     ·have g17:((s:Int) == 17)=false:=by rw [beq_eq_false_iff_ne]; omega
      by_cases h18:s=18
      ·subst h18
       have HF:=Lib.hid (PI.stepL_18 (acc:=acc) (many:=many) HR.out)
       have hq:=xnum_ok gx gr l most a1 7 vo vb H2 ha2 (by omega) HL.out
       have HQ:=Lib.hid hq
       clear hq HR
       go_wp2_with fail
       refine HQ.out.mono ?_
       intro e8 w3 h8
       cases hr2:PI.number (PBits.ofB l) a1 7 with
       | error c =>
        rw [hr2] at h8
        obtain⟨rfl,H3⟩:=h8
        have HE:Hid (T=.error c):=by rw [<- HST.out,HF.out,hr2]; rfl
        clear hr2 HQ HST HF
        go_wp2
        exact⟨rfl,XPost.no HE.out H3.tail2⟩
       | ok r2 =>
        obtain⟨e1,hle⟩:=PI.number_ok hr2
        have hx:=PI.numAt_small (PBits.ofB l) a1 7 7 (by omega)
        subst e1
        obtain⟨x,hx2⟩:∃x,PI.numAt (PBits.ofB l) a1 7=x:=⟨_,rfl⟩
        rw [hr2] at h8
        rw [hx2] at hr2 hx h8
        rw [PBits.ofB_length] at hle
        obtain⟨rfl,H3⟩:=h8
        obtain⟨kk,hkk⟩:∃kk,11+x=kk:=⟨_,rfl⟩
        have y3:(11:Int)+(x:Int)=(kk:Int):=by omega
        have hk1:1<=kk:=by omega
        have hk2:kk<=4096:=by omega
        have HFF:Hid (PI.stepL (PBits.ofB l) m many a acc=PI.fill many acc 0 kk (a1+7)):=by
         rw [HF.out,hr2]
         show PI.fill many acc _ (11+x) (a1+7)=_
         rw [hkk]
        clear hr2 hx2 hkk HF HQ
        show _
        by_cases hroom:many - n<kk
        ·have j1:(kk:Int) > (many:Int) - (n:Int):=by omega
         have HE:Hid (T=.error 20):=by
          rw [<- HST.out,HFF.out]
          unfold PI.fill
          rw [HN.out,if_pos hroom]; exact Lib.hid rfl
         clear HST HFF
         go_wp2
         exact⟨rfl,XPost.no HE.out (H3.pick 4 [])⟩
        ·have j1:¬ (kk:Int) > (many:Int) - (n:Int):=by omega
         have HNX:Hid (PI.lens (PBits.ofB l) m many f (a1+7) (acc++List.replicate kk 0)=T):=by
          rw [<- HST.out,HFF.out]
          unfold PI.fill
          rw [HN.out,if_neg hroom]; exact Lib.hid rfl
         clear HST HFF
         go_wp2_with fail
         have H4:=H3.newBk [.int .i64 0] 3
         refine(repeatI_ok _ 1 (.int .i64 0) kk H4 (fun _ _ H=>Rd.of_blk (H.blk 0 rfl)) rfl (by omega) (by omega)).mono ?_
         rintro _ w4 ⟨gq,rfl,H5⟩
         have H6:=H5.pick 6 [5,0,2,3,4]
         have HCM2:=HCM.out
         go_wp2_with (at_builtin; refine wpList_append_sp rfl _ _ 147 rfl 3 i0 (.int .i64 0) 1 8 Tryz.underlying147 hi hz0 hz1 hz2 rfl (by decide) _ n (cellsN acc) rfl H6 (some ⟨gq,0,none⟩) kk kk (List.replicate kk (.int .i64 0)) rfl (by rw [List.length_replicate,Nat.mul_one]) (row_ent 1 rfl _ _ H6) (fun u hu=>by rw [(List.mem_replicate.1 hu).2]; rfl) (by unfold maxLen; omega) (by omega) ?_)
         intro v5 w5 H7 _
         obtain⟨VA5,vc5,rfl,_,_⟩:=Row.form H7 0 rfl
         have hl5:(acc++List.replicate kk 0).length=n+kk:=by rw [List.length_append,List.length_replicate,HN.out]
         have HL5:=Lib.hid hl5
         clear hl5 H4 H5
         go_wp2
         go_roundw
         case rel =>
          refine⟨(a1+7),f,acc++List.replicate kk 0,by omega,by rw [HL5.out]; omega,by rw [HL5.out]; omega,fun x hx=>?_,HNX.out,?_⟩
          ·rcases List.mem_append.1 hx with hx | hx
           ·exact HSM.out x hx
           ·rw [(List.mem_replicate.1 hx).2]; omega
          ·rw [HL5.out]
           have ec:cellsN (acc++List.replicate kk 0)=cellsN acc++List.replicate kk (.int .i64 0):=by unfold cellsN; rw [List.map_append,List.map_replicate] <;> rfl
           rw [ec]
           exact H7.pick 5 [0,2,3,4]
         case measure=>simp only [lenV]; omega
      ·have g18:((s:Int) == 18)=false:=by rw [beq_eq_false_iff_ne]; omega
       have HFF:=Lib.hid (PI.stepL_s (acc:=acc) (many:=many) HR.out h16 h17 h18)
       obtain⟨kk,hkk⟩:∃kk:Nat,(1:Nat)=kk:=⟨_,rfl⟩
       have hk1:1<=1:=Nat.le_refl _
       clear HR hkk
       by_cases hroom:many - n<1
       ·have j1:(1:Int) > (many:Int) - (n:Int):=by omega
        have HE:Hid (T=.error 20):=by
         rw [<- HST.out,HFF.out]
         unfold PI.fill
         rw [HN.out,if_pos hroom]; exact Lib.hid rfl
        clear HST HFF
        go_wp2
        exact⟨rfl,XPost.no HE.out (H2.pick 4 [])⟩
       ·have j1:¬ (1:Int) > (many:Int) - (n:Int):=by omega
        have HNX:Hid (PI.lens (PBits.ofB l) m many f a1 (acc++List.replicate 1 s)=T):=by
         rw [<- HST.out,HFF.out]
         unfold PI.fill
         rw [HN.out,if_neg hroom]; exact Lib.hid rfl
        clear HST HFF
        go_wp2_with fail
        have H4:=H2.newBk [.int .i64 (s:Int)] 3
        refine(repeatI_ok _ 1 (.int .i64 (s:Int)) 1 H4 (fun _ _ H=>Rd.of_blk (H.blk 0 rfl)) rfl (by omega) (by omega)).mono ?_
        rintro _ w4 ⟨gq,rfl,H5⟩
        have H6:=H5.pick 6 [5,0,2,3,4]
        have HCM2:=HCM.out
        go_wp2_with (at_builtin; refine wpList_append_sp rfl _ _ 147 rfl 3 i0 (.int .i64 0) 1 8 Tryz.underlying147 hi hz0 hz1 hz2 rfl (by decide) _ n (cellsN acc) rfl H6 (some ⟨gq,0,none⟩) 1 1 (List.replicate 1 (.int .i64 (s:Int))) rfl (by rw [List.length_replicate,Nat.mul_one]) (row_ent 1 rfl _ _ H6) (fun u hu=>by rw [(List.mem_replicate.1 hu).2]; rfl) (by unfold maxLen; omega) (by omega) ?_)
        intro v5 w5 H7 _
        obtain⟨VA5,vc5,rfl,_,_⟩:=Row.form H7 0 rfl
        have hl5:(acc++List.replicate 1 s).length=n+1:=by rw [List.length_append,List.length_replicate,HN.out]
        have HL5:=Lib.hid hl5
        clear hl5 H4 H5
        go_wp2
        go_roundw
        case rel =>
         refine⟨a1,f,acc++List.replicate 1 s,by omega,by rw [HL5.out]; omega,by rw [HL5.out]; omega,fun x hx=>?_,HNX.out,?_⟩
         ·rcases List.mem_append.1 hx with hx | hx
          ·exact HSM.out x hx
          ·rw [(List.mem_replicate.1 hx).2]; omega
         ·rw [HL5.out]
          have ec:cellsN (acc++List.replicate 1 s)=cellsN acc++List.replicate 1 (.int .i64 (s:Int)):=by unfold cellsN; rw [List.map_append,List.map_replicate] <;> rfl
          rw [ec]
          exact H7.pick 5 [0,2,3,4]
        case measure=>simp only [lenV]; omega
  ·have k1:¬ (n:Int)<(many:Int):=by omega
   rw [if_neg hlt] at hst
   have HST:=Lib.hid hst.symm
   clear hst
   go_wp2_with fail
   go_ret
   exact XPost.yes HST.out ⟨_,rfl,by rw [HN.out]; exact H1⟩
theorem xor_ffff (n:Nat) (h:n<65536):n ^^^ 65535=65535 - n:=by
 have h1:(BitVec.ofNat 16 n ^^^ BitVec.allOnes 16).toNat=(~~~ (BitVec.ofNat 16 n)).toNat:=by rw [BitVec.xor_allOnes]
 rw [BitVec.toNat_xor,BitVec.toNat_not,BitVec.toNat_allOnes,BitVec.toNat_ofNat,Nat.mod_eq_of_lt (by simpa using h)] at h1
 simpa using h1
theorem xor_ffff_i64 (n:Nat) (h:n<65536):bits .xor .i64 (n:Int) 65535=((65535 - n:Nat):Int):=by
 show IntKind.i64.wrap ((BitVec.ofInt 64 (n:Int) ^^^ BitVec.ofInt 64 ((65535:Nat):Int)).toNat:Int)=_
 rw [BitVec.toNat_xor,ofInt_u64 n (by omega),ofInt_u64 65535 (by omega),xor_ffff n h]
 exact Go.Lib.wrap_i64_small _ (by omega)
theorem PI.bytes_of (l:List UInt8) (q n:Nat) (h:q+n<=l.length):PI.bytesAt (PBits.ofB l) (8 * q) n=(l.drop q).take n:=by
 have hl:((l.drop q).take n).length=n:=by rw [List.length_take,List.length_drop]; omega
 have e:l=l.take q++((l.drop q).take n++(l.drop q).drop n):=by rw [List.take_append_drop,List.take_append_drop]
 have h1:PI.At (PBits.ofB l) (8 * q) (PBits.ofB ((l.drop q).take n)):=by
  have e2:PBits.ofB l=PBits.ofB (l.take q)++PBits.ofB ((l.drop q).take n)++PBits.ofB ((l.drop q).drop n):=by
   conv=>lhs; rw [e]
   rw [PI.PBits.ofB_append,PI.PBits.ofB_append,List.append_assoc]
  have h3:=PI.At.mid (PBits.ofB (l.take q)) (PBits.ofB ((l.drop q).take n)) (PBits.ofB ((l.drop q).drop n))
  rw [<- e2,PBits.ofB_length,List.length_take,Nat.min_eq_left (by omega)] at h3
  exact h3
 have h2:=PI.bytes_at _ h1
 rw [hl] at h2
 exact h2
set_option maxRecDepth 100000 in
set_option maxHeartbeats 2000000 in
theorem xstored_ok (gx gr:Nat) (l out:List UInt8) (most at_:Nat) (vo vb:Value) {w0 w:World} {L:List Pr} (H:Sp w0 (Rr gr l at_::XpB gx gr vo most vb::Row 5 1 vo out.length (cells8 out)::L) w) (ha:at_<=8 * l.length) (hl:l.length<=100000000) (ho:out.length<=most) (hm:most<=1000000000) :
  Calls Tryz.prog 132 #[.pointer (some ⟨gx,0,none⟩)] w
   (XPost w0 L (PI.stored (PBits.ofB l) most at_ out) fun r e w'=>e=.returned (.tuple #[])/\∃vo',Sp w0 (Rr gr l r.1::XpB gx gr vo' most vb::Row 5 1 vo' r.2.length (cells8 r.2)::L) w'):=by
 obtain⟨i0,hi,hz0,hz1,hz2⟩:=info_parts info8
 obtain⟨T,hT⟩:∃T,PI.stored (PBits.ofB l) most at_ out=T:=⟨_,rfl⟩
 rw [hT]
 unfold PI.stored at hT
 obtain⟨VA,vc,rfl,hnc,hcm⟩:=Row.form H 2 rfl
 obtain⟨q,hq⟩:∃q,(at_+7) / 8=q:=⟨_,rfl⟩
 have hqe:(at_+7) / 8 * 8=8 * q:=by omega
 rw [hqe] at hT
 have hql:q<=l.length:=by omega
 have HT:=Lib.hid hT
 have HL:=Lib.hid hl
 have HCM:=Lib.hid hcm
 have c0:w.cell? ⟨gx,0,none⟩=some (.pointer (some ⟨gr,0,none⟩)):=H.cell 1 rfl 0
 have h0:=ralign_ok gr l at_ H ha (by omega)
 rw [hqe] at h0
 have H0:=Lib.hid h0
 clear hT hq hqe hcm h0
 go_enter Tryz.func132,Tryz.ntmps132
 go_wp2_with fail
 refine H0.out.mono ?_
 rintro _ w1 ⟨rfl,H1⟩
 have HQ:=Lib.hid (xnum_ok gx gr l most (8 * q) 16 _ vb H1 (by omega) (by omega) HL.out)
 clear H H0 c0
 go_wp2_with fail
 refine HQ.out.mono ?_
 intro e9 w2 h9
 cases hr:PI.number (PBits.ofB l) (8 * q) 16 with
 | error c =>
  rw [hr] at h9
  obtain⟨rfl,H2⟩:=h9
  have HE:Hid (T=.error c):=by rw [<- HT.out,hr]; exact Lib.hid rfl
  clear hr HQ HT
  go_wp2
  exact⟨rfl,XPost.no HE.out H2.tail⟩
 | ok r =>
  obtain⟨e1,hle⟩:=PI.number_ok hr
  have hn:=PI.numAt_small (PBits.ofB l) (8 * q) 16 16 (by omega)
  subst e1
  obtain⟨n,hn2⟩:∃x,PI.numAt (PBits.ofB l) (8 * q) 16=x:=⟨_,rfl⟩
  rw [hr] at h9
  rw [hn2] at hr hn h9
  rw [PBits.ofB_length] at hle
  obtain⟨rfl,H2⟩:=h9
  have HT2:Hid ((PI.number (PBits.ofB l) (8 * q+16) 16).bind (fun k=>if k.2≠65535 - n then .error 20 else if ((PBits.ofB l).length - k.1) / 8<n then (if most - out.length<((PBits.ofB l).length - k.1) / 8 then .error 22 else .error 4) else if most - out.length<n then .error 22 else .ok (k.1+8 * n,out++PI.bytesAt (PBits.ofB l) k.1 n))=T):=by
   rw [<- HT.out,hr]; exact Lib.hid rfl
  have HQ2:=Lib.hid (xnum_ok gx gr l most (8 * q+16) 16 _ vb H2 hle (by omega) HL.out)
  clear HT HQ hr hn2 H1
  go_wp2_with fail
  refine HQ2.out.mono ?_
  intro e9 w3 h9
  cases hr:PI.number (PBits.ofB l) (8 * q+16) 16 with
  | error c =>
   rw [hr] at h9
   obtain⟨rfl,H3⟩:=h9
   have HE:Hid (T=.error c):=by rw [<- HT2.out,hr]; exact Lib.hid rfl
   clear hr HQ2 HT2
   go_wp2
   exact⟨rfl,XPost.no HE.out H3.tail⟩
  | ok r =>
   obtain⟨e1,hle2⟩:=PI.number_ok hr
   have hx:=PI.numAt_small (PBits.ofB l) (8 * q+16) 16 16 (by omega)
   subst e1
   obtain⟨x,hx2⟩:∃x,PI.numAt (PBits.ofB l) (8 * q+16) 16=x:=⟨_,rfl⟩
   rw [hr] at h9
   rw [hx2] at hr hx h9
   rw [PBits.ofB_length] at hle2
   obtain⟨rfl,H3⟩:=h9
   have HT3:Hid ((if x≠65535 - n then .error 20 else if (8 * l.length - (8 * q+16+16)) / 8<n then (if most - out.length<(8 * l.length - (8 * q+16+16)) / 8 then .error 22 else .error 4) else if most - out.length<n then .error 22 else .ok (8 * q+16+16+8 * n,out++PI.bytesAt (PBits.ofB l) (8 * q+16+16) n):Except Nat (Nat × List UInt8))=T):=by
    rw [<- HT2.out,hr,PBits.ofB_length]; exact Lib.hid rfl
   have hxo:=xor_ffff_i64 n hn
   clear HT2 HQ2 hr hx2 H2
   by_cases hne:x=65535 - n
   ·have g1:((x:Int) != ((65535 - n:Nat):Int))=false:=by simp [hne]
    have g2:(x:Int)=((65535 - n:Nat):Int):=by rw [hne]
    have HT4:Hid ((if (8 * l.length - (8 * q+16+16)) / 8<n then (if most - out.length<(8 * l.length - (8 * q+16+16)) / 8 then .error 22 else .error 4) else if most - out.length<n then .error 22 else .ok (8 * q+16+16+8 * n,out++PI.bytesAt (PBits.ofB l) (8 * q+16+16) n):Except Nat (Nat × List UInt8))=T):=by
     rw [<- HT3.out,if_neg (show ¬ (x≠65535 - n) by simpa using hne)]; exact Lib.hid rfl
    obtain⟨q2,hq2⟩:∃q2,q+4=q2:=⟨_,rfl⟩
    have hq3:8 * q+16+16=8 * q2:=by omega
    obtain⟨lf,hlf⟩:∃lf,(8 * l.length - 8 * q2) / 8=lf:=⟨_,rfl⟩
    rw [hq3,hlf] at HT4
    rw [hq3] at H3
    have hq2l:q2+lf=l.length:=by omega
    have HLF:=Lib.hid hlf
    have c0:w3.cell? ⟨gx,0,none⟩=some (.pointer (some ⟨gr,0,none⟩)):=H3.cell 1 rfl 0
    have HLE:=Lib.hid (left_ok gr l (8 * q2) H3 (by omega) (by omega))
    obtain⟨L8,hL8⟩:∃L8,8 * l.length - 8 * q2=L8:=⟨_,rfl⟩
    rw [hL8] at HLE
    have y1:(L8:Int) / 8=(lf:Int):=by omega
    subst hne
    clear HT3 hq2 hq3 hlf hL8 hxo g2
    have hxo:=xor_ffff_i64 n hn
    go_wp2_with fail
    refine HLE.out.mono ?_
    rintro _ w4 ⟨rfl,hK⟩
    have H4:=hK.sep H3
    clear H3 HLE hK c0
    by_cases hsh:lf<n
    ·have y2:(lf:Int)<(n:Int):=by omega
     have HT5:Hid ((if most - out.length<lf then .error 22 else .error 4:Except Nat (Nat × List UInt8))=T):=by
      rw [<- HT4.out,if_pos hsh]; exact Lib.hid rfl
     have HR:=Lib.hid (xroom_ok gx gr most out.length vc lf VA vb (H4.pick 2 [1]) ho (by omega) (by omega))
     clear HT4
     go_wp2_with fail
     refine HR.out.mono ?_
     rintro _ w5 ⟨rfl,hK⟩
     have H5:=hK.sep H4
     by_cases hroom:most - out.length<lf
     ·rw [if_pos hroom]
      have HE:Hid (T=.error 22):=by rw [<- HT5.out,if_pos hroom]; exact Lib.hid rfl
      clear HT5 HR
      go_wp2
      exact⟨rfl,XPost.no HE.out (H5.pick 3 [])⟩
     ·rw [if_neg hroom]
      have HE:Hid (T=.error 4):=by rw [<- HT5.out,if_neg hroom]; exact Lib.hid rfl
      clear HT5 HR
      go_wp2
      exact⟨rfl,XPost.no HE.out (H5.pick 3 [])⟩
    ·have y2:¬ (lf:Int)<(n:Int):=by omega
     have HT5:Hid ((if most - out.length<n then .error 22 else .ok (8 * q2+8 * n,out++PI.bytesAt (PBits.ofB l) (8 * q2) n):Except Nat (Nat × List UInt8))=T):=by
      rw [<- HT4.out,if_neg hsh]; exact Lib.hid rfl
     have HR:=Lib.hid (xroom_ok gx gr most out.length vc n VA vb (H4.pick 2 [1]) ho (by omega) (by omega))
     clear HT4
     go_wp2_with fail
     refine HR.out.mono ?_
     rintro _ w5 ⟨rfl,hK⟩
     have H5:=hK.sep H4
     by_cases hroom:most - out.length<n
     ·rw [if_pos hroom]
      have HE:Hid (T=.error 22):=by rw [<- HT5.out,if_pos hroom]; exact Lib.hid rfl
      clear HT5 HR
      go_wp2
      exact⟨rfl,XPost.no HE.out (H5.pick 3 [])⟩
     ·rw [if_neg hroom]
      have HE:Hid (T=.ok (8 * (q2+n),out++(l.drop q2).take n)):=by
       rw [<- HT5.out,if_neg hroom,PI.bytes_of l q2 n (by omega),Nat.mul_add]; exact Lib.hid rfl
      have c0:w5.cell? ⟨gx,0,none⟩=some (.pointer (some ⟨gr,0,none⟩)):=H5.cell 1 rfl 0
      have HB:=Lib.hid (rbytes_ok gr l q2 n H5 (by omega) (by omega))
      clear HT5 HR H4 hK
      go_wp2_with fail
      refine HB.out.mono ?_
      rintro _ w6 ⟨_,rfl,u,rfl,H6⟩
      clear HB H5 c0
      have c1:w6.cell? ⟨gx,1,none⟩=some (.slice VA out.length vc):=H6.cell 2 rfl 1
      go_wp2_with fail
      refine(fail_ok w6).mono ?_
      rintro _ w7 ⟨rfl,rfl⟩
      obtain⟨UA,uc,rfl,hu1,hu2⟩:=Row.form H6 0 rfl
      have hlen:(cells8 ((l.drop q2).take n)).length=n:=by simp [cells8]; omega
      have HCM2:=HCM.out
      have hmx:maxLen=9223372036854775807:=rfl
      go_wp2_with (at_builtin; refine wpList_append_sp rfl _ _ 23 rfl 5 i0 (.int .u8 0) 1 1 Tryz.underlying23 hi hz0 hz1 hz2 rfl (by decide) _ out.length (cells8 out) rfl (H6.pick 4 [3,0,1,2]) UA n uc (cells8 ((l.drop q2).take n)) rfl (by rw [hlen,Nat.mul_one]) (row_ent 0 rfl _ _ H6) (cells8_one _) (by omega) (by omega) ?_)
      intro v8 w8 H8 _
      obtain⟨VA8,vc8,rfl,_,_⟩:=Row.form H8 0 rfl
      have H9:=H8.pick 4 [3,0,2]
      have c1:w8.cell? ⟨gx,1,none⟩=some (.slice VA out.length vc):=H9.cell 0 rfl 1
      have z1:w8.frozen? ⟨gx,1,none⟩=false:=H9.frozen 0 rfl 1
      have H10:=H9.set 1 (.slice VA8 (out.length+n) vc8)
      have HLN:Hid ((out++(l.drop q2).take n).length=out.length+n):=by
       have:((l.drop q2).take n).length=n:=by simpa [cells8] using hlen
       rw [List.length_append,this]; exact Lib.hid rfl
      clear H6 H8 hmx hlen
      go_wp2
      go_end0
      refine XPost.yes HE.out ⟨rfl,.slice VA8 (out.length+n) vc8,?_⟩
      have ec:cells8 (out++(l.drop q2).take n)=cells8 out++cells8 ((l.drop q2).take n):=by simp [cells8]
      show Sp w0 (Rr gr l (8 * (q2+n))::XpB gx gr (.slice VA8 (out.length+n) vc8) most vb::Row 5 1 (.slice VA8 (out.length+n) vc8) (out++(l.drop q2).take n).length (cells8 (out++(l.drop q2).take n))::L) _
      rw [HLN.out,ec]
      exact H10.pick 3 [2,0,1]
   ·have g1:((x:Int) != ((65535 - n:Nat):Int))=true:=by simp; omega
    have g2:¬ (x:Int)=((65535 - n:Nat):Int):=by omega
    have HE:Hid (T=.error 20):=by rw [<- HT3.out,if_pos hne]; exact Lib.hid rfl
    clear HT3
    go_wp2
    exact⟨rfl,XPost.no HE.out (H3.pick 3 [])⟩
end Go.Proofs.YtloijdbkikccgaaGreatDoor

