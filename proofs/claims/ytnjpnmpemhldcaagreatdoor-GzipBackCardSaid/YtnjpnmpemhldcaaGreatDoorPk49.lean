/- A pack. -/
import Derived.Test.YtnjpnmpemhldcaaGreatDoorPk48
set_option linter.all false
set_option maxRecDepth 100000
set_option maxHeartbeats 8000000
namespace Go.Proofs.YtnjpnmpemhldcaaGreatDoor
variable {w0 w:World} {L:List Pr}
open Go.ChangeShapes Go.WideShapes Go.ChangeAt Go.RowKit
def tabZ:List Int:=PCrc.tab.map fun n:Nat=>(n:Int)
theorem gTab : Tryz.prog.globalNamed "portolan/crc.table" = some 4 := by kernel_rfl
theorem tTab:(Tryz.prog.globals[4]?).map (·.type)=some 237:=by kernel_rfl
theorem W6 {W : World} {rest : List (String × DataW Unit)} (h : laidMet Tryz.prog (("portolan/crc.table", Rows.laid_portolan_crc_table) :: rest) W) : CrcTab W := by
 have hT:=Lib.tabIs_of_head (k:=.u32) (zs:=tabZ) gTab tTab Tryz.underlying237 Tryz.underlying26 (by kernel_rfl) (by kernel_rfl) h;intro i hi;have:=hT.cell gTab i (by simpa [tabZ,PCrc.tab] using hi);rw [this];have:∀i,i<16->tabZ.getD i 0=((PCrc.tab.getD i 0:Nat):Int):=by decide
 rw [this i hi]
open Go.RowKit
theorem TV:PG.put hd0 []=[31,139,8,0,0,0,0,0,0,0,3,0,0,0,0,0,0,0,0,0]:=by
 unfold PG.put;rw [show PD.defl []=[3,0] from PD.row_nil];decide +kernel
theorem Uc (most:Nat):PG.get [31,140] most=.error 5:=by
 unfold PG.get;rw [show PG.head [31,140]=.error 5 by unfold PG.head; rw [if_pos (by decide)]; rfl]
theorem Sh:PG.Ok hd0:=by decide
theorem YQ {TL TA:Option Addr} {cl ca:Nat} {DL DF:Option Addr} {dl df:Nat} (H:Sp w0 L w) (hct:Ent L CrcTab) (hT:Ent L (Tabs TL TA cl ca)) (hD:Ent L (DTabs DL DF dl df)) :
  Calls Tryz.prog 14 #[] w fun e w'=>e=.returned (.bool true)/\Sp w0 L w':=by
 have b:=VU hd0 none 0 0 none 0 0 H rfl Sh (by decide) (fun _ w _=>Byt.nil w) hct hD [] rfl (by decide) (Nat.le_refl _) (by decide) (fun _ w _=>Byt.nil w);rw [TV] at b;have h:Hid (Calls Tryz.prog 9 #[.agg #[.int .u8 0,.int .u8 0,.int .u8 0,.int .u32 0,.slice none 0 0,.string ⟨#[]⟩,.string ⟨#[]⟩],.slice none 0 0] w fun e w'=>∃v,e=.returned (.tuple #[v,.int .i64 0])/\Sp w0 (Row 5 1 v 20 (cells8 [31,139,8,0,0,0,0,0,0,0,3,0,0,0,0,0,0,0,0,0])::L) w'):=hid b;have c:=hid hct;have o:=hid hT;clear b hct hT hD H;go_enter Tryz.func14,Tryz.ntmps14
 go_wp2_with fail
 refine h.out.mono ?_;rintro _ p ⟨u,rfl,d⟩;clear h;obtain⟨i,j,rfl,_,_⟩:=Row.form d 0 rfl;have k:=d.newBk [.int .u8 31,.int .u8 140] 5;have f:=Yn (some ⟨p.heap.size,0,none⟩) 2 2 [31,140] 9 k (fun _ _ q=>⟨_,2,rfl,Rd.of_blk (q.blk 0 rfl),Nat.le_refl _,by decide⟩) (fun _ _ q=>c.out _ _ (q.pick 2 [])) (fun _ _ q=>o.out _ _ (q.pick 2 [])) rfl (by decide) (by decide) (by decide) (by decide);rw [Uc] at f;have l:=hid f;clear f d k;go_wp2_with fail
 refine l.out.mono ?_;intro x r s;obtain⟨rfl,m⟩:_/\_:=s;clear l;have n:=hid m.tail;have g:=n.out.newBk [.int .u8 0,.int .u8 0,.int .u8 0,.int .u32 0,.slice none 0 0,.string ⟨#[]⟩,.string ⟨#[]⟩] 28;have a:Byt (r.alloc (.cells #[.int .u8 0,.int .u8 0,.int .u8 0,.int .u32 0,.slice none 0 0,.string ⟨#[]⟩,.string ⟨#[]⟩] 28)) (.slice i 20 j) [31,139,8,0,0,0,0,0,0,0,3,0,0,0,0,0,0,0,0,0]:=g.row_byt 1 rfl;have rs:=run_str (P:=Tryz.prog) _ 23 9 5 (.slice i 20 j) _ Tryz.underlying23 Tryz.underlying5 Tryz.underlying9 a
 have y:(strOf [31,139,8,0,0,0,0,0,0,0,3,0,0,0,0,0,0,0,0,0]).toList=[31,139,8,0,0,0,0,0,0,0,3,0,0,0,0,0,0,0,0,0]:=ZK _;have t:=hid (g.pick 2 []);clear a g m n;go_wp2_with fail
 trace_state
 go_ret;exact⟨rfl,t.out⟩
namespace PG
def z0 (c:UInt8):UInt8:=if c=0 then 48 else c
theorem z0_ne (c:UInt8):z0 c≠0:=by
 unfold z0;split
 ·decide
 ·assumption
def txM (f:UInt8) (k:Nat) (s:List UInt8):List UInt8:=if has f k=true then (s.take 300).map z0 else []
def made (h:Hd):Hd:={ h with
 flags:=UInt8.ofNat (h.flags.toNat % 32)
 extra:=if has (UInt8.ofNat (h.flags.toNat % 32)) 4=true then h.extra.take 300 else []
 name:=txM (UInt8.ofNat (h.flags.toNat % 32)) 8 h.name
 note:=txM (UInt8.ofNat (h.flags.toNat % 32)) 16 h.note }
theorem txM_ok (f:UInt8) (k:Nat) (s:List UInt8):textOk f k (txM f k s):=by
 unfold txM;by_cases h:has f k=true
 ·rw [if_pos h];refine⟨?_,?_,.inr h⟩
  ·rw [List.length_map,List.length_take]; omega
  ·intro c a;obtain⟨d,_,rfl⟩:=List.mem_map.1 a;exact z0_ne d
 ·rw [if_neg h];exact⟨by decide,fun c a=>(by cases a),.inl rfl⟩
theorem made_flags (h:Hd):(made h).flags.toNat<32:=by
 show(UInt8.ofNat (h.flags.toNat % 32)).toNat<32;rw [UInt8.toNat_ofNat'];omega
theorem made_ok (h:Hd):Ok (made h):=by
 refine⟨made_flags h,?_,?_,txM_ok _ _ _,txM_ok _ _ _⟩
 ·show(if has (UInt8.ofNat (h.flags.toNat % 32)) 4=true then h.extra.take 300 else []).length<=65535;split
  ·rw [List.length_take]; omega
  ·decide
 ·show(if has (UInt8.ofNat (h.flags.toNat % 32)) 4=true then h.extra.take 300 else [])=[]∨has (UInt8.ofNat (h.flags.toNat % 32)) 4=true;by_cases k:has (UInt8.ofNat (h.flags.toNat % 32)) 4=true
  ·exact .inr k
  ·rw [if_neg k]; exact .inl rfl
end PG
def Mk (g:Nat) (t:TypeId) (cs:List Value):Pr:=Is g (.cells cs.toArray t (cs.length,cs.length+1))
theorem Sp.mcell (H:Sp w0 L w) (k:Nat) {g:Nat} {t:TypeId} {cs:List Value} (hk:L[k]?=some (Mk g t cs)) (i:Nat):w.cell? ⟨g,i,none⟩=cs[i]?:=by
 have h:=H.is_ k hk;simp [World.cell?,h]
theorem Sp.mfrozen (H:Sp w0 L w) (k:Nat) {g:Nat} {t:TypeId} {cs:List Value} (hk:L[k]?=some (Mk g t cs)) (i:Nat) (hi:i<cs.length):w.frozen? ⟨g,i,none⟩=false:=by
 have h:=H.is_ k hk;simp [World.frozen?,h];omega
theorem Sp.mset {g:Nat} {t:TypeId} {cs:List Value} (H:Sp w0 (Mk g t cs::L) w) (i:Nat) (u:Value):Sp w0 (Mk g t (cs.set i u)::L) (w.setCell ⟨g,i,none⟩ u):=by
 have h:=H.is_ 0 rfl;have d:w.setCell ⟨g,i,none⟩ u={ w with heap:=w.heap.setIfInBounds g (.cells (cs.set i u).toArray t (cs.length,cs.length+1)) }:=by
  have e:=(Array.getElem?_eq_some_iff.1 h).1;have f:w.heap.modify g (fun | .cells c elem frozen=>.cells (if (⟨g,i,none⟩:Addr).spot.isSome then c else c.setIfInBounds i u) elem frozen | o=>o)=w.heap.setIfInBounds g (.cells (cs.set i u).toArray t (cs.length,cs.length+1)):=by
   apply Array.ext_getElem?;intro j;rw [Array.getElem?_modify,Array.getElem?_setIfInBounds];by_cases a:g=j
   ·subst a;rw [if_pos rfl,if_pos rfl,if_pos e,h];simp
   ·rw [if_neg a,if_neg a]
  exact congrArg (fun x=>{ w with heap:=x }) f
 rw [d];have b:=H.put (.cells (cs.set i u).toArray t ((cs.set i u).length,(cs.set i u).length+1));rw [List.length_set] at b;unfold Mk;rw [List.length_set];exact b
theorem Sp.mbyt (H:Sp w0 L w) (k:Nat) {g:Nat} {t:TypeId} {l:List UInt8} {c:Nat} {zs:List Value} (hk:L[k]?=some (Mk g t (cells8 l++zs))) (h1:l.length<=c) (h2:c<=maxLen):Byt w (.slice (some ⟨g,0,none⟩) l.length c) l:=by
 refine⟨some ⟨g,0,none⟩,c,rfl,fun _=>⟨_,rfl,fun j u hu=>?_⟩,h1,h2⟩;have a:(Addr.add ⟨g,0,none⟩ j)=⟨g,j,none⟩:=by
  unfold Addr.add; split
  ·rename_i h0; subst h0; rfl
  ·simp
 rw [a,H.mcell k hk j];have b:=(List.getElem?_eq_some_iff.1 hu).1;rw [List.getElem?_append_left b];exact hu
theorem Ud (H:Sp w0 L w) (l:List UInt8) (hl:l.length<=1000000000):∃c w1 zs,Sem.run Tryz.prog (convert 9 23 (.string (strOf l))) w=.ok (.slice (some ⟨w.heap.size,0,none⟩) l.length c) w1/\l.length<=c/\c<=maxLen/\Sp w0 (Mk w.heap.size 5 (cells8 l++zs)::L) w1:=by
 have d:=run_bytes_of_string (P:=Tryz.prog) w 9 23 5 (strOf l) Tryz.underlying9 Tryz.underlying23 Tryz.underlying5;rw [Zi] at d;have a:=grownCap_ge w l.length 0 5;have b:grownCap w l.length 0 5<=maxLen:=grownCap_le_maxLen w l.length 0 5 (by unfold maxLen; omega);generalize grownCap w l.length 0 5=c at a b d;refine⟨c,_,(bytesRow (strOf l) c).toList.drop l.length,d,a,b,?_⟩;have g:=(H.drew).new (.cells (bytesRow (strOf l) c) 5 ((bytesRow (strOf l) c).size,(bytesRow (strOf l) c).size+1));unfold Mk;have f:(bytesRow (strOf l) c).toList=cells8 l++(bytesRow (strOf l) c).toList.drop l.length:=by
  have e:(bytesRow (strOf l) c).toList=cells8 l++List.replicate (c - l.length) (.int .u8 0):=by
   unfold bytesRow cells8;rw [Array.toList_append,Array.toList_replicate,Zi];unfold strOf;simp
  rw [e,List.drop_left' (by unfold cells8; rw [List.length_map])]
 have h:(bytesRow (strOf l) c)=(cells8 l++(bytesRow (strOf l) c).toList.drop l.length).toArray:=by rw [<- f]
 have i:(bytesRow (strOf l) c).size=(cells8 l++(bytesRow (strOf l) c).toList.drop l.length).length:=by rw [<- f,Array.length_toList]
 rw [<- i,<- h];exact g
theorem U7 (g:Nat) (h:PG.Hd) (ve:Value) (s:List UInt8) (k:Nat) (hk:k=8∨k=16) (H:Sp w0 (Bk g 28 (hdV h ve)::L) w) (hs:s.length<=1000000) :
  Calls Tryz.prog 32 #[.string (strOf s),.int .u8 k,.pointer (some ⟨g,0,none⟩)] w fun e w'=>e=.returned (.string (strOf (if PG.has h.flags k=true then s.map PG.z0 else [])))/\Sp w0 (Bk g 28 (hdV h ve)::L) w':=by
 obtain⟨r,J⟩:=exq ((if PG.has h.flags k=true then s.map PG.z0 else []));rw [J];have V:=hid J;clear J;obtain⟨c,w1,zs,W,o,C,b⟩:=Ud H s (by omega);obtain⟨n,K⟩:=exq s.length;rw [K] at W o hs;have G:=hid K;have M:=hid o;have N:=hid C;have D:=hid b;have p:=Xb h.flags k (by omega);generalize hz:bits .and .u8 (h.flags.toNat:Int) (k:Int)=z at p;have O:=hid p;have Q:Hid (z=((h.flags.toNat / k % 2 * k:Nat):Int)):=hid (by rw [<- hz]; exact UX h.flags k (by omega));clear K o C p b;go_enter Tryz.func32,Tryz.ntmps32
 go_wp2_with fail
 clear W;have b:=D.out;generalize w.heap.size=gb at b ⊢;clear D H;go_loopw [12] (fun kv wr=>∃j:Nat,kv=.int .i64 j/\j<=n/\Sp w0 (Mk gb 5 (cells8 ((s.take j).map PG.z0++s.drop j)++zs)::Bk g 28 (hdV h ve)::L) wr) (fun kv _=>n - (intOf kv).toNat)
 case atStart=>exact⟨0,rfl,Nat.zero_le _,b⟩
 case round =>
  clear b;obtain⟨j,rfl,hj,b⟩:=hrel;by_cases R:j<n
  ·have y1:(j:Int)<(n:Int):=by omega
   have E:j<s.length:=by rw [G.out]; exact R
   obtain⟨x,S⟩:=exq (s[j]);have I:s.drop j=x::s.drop (j+1):=by rw [List.drop_eq_getElem_cons E,S]
   have y:((s.take j).map PG.z0).length=j:=by rw [List.length_map,List.length_take]; omega
   have f:(cells8 ((s.take j).map PG.z0++s.drop j)++zs)[j]?=some (.int .u8 x.toNat):=by
    rw [I,List.getElem?_append_left (by unfold cells8; rw [List.length_map,List.length_append,y]; simp)];unfold cells8;rw [List.getElem?_map,List.getElem?_append_right (by omega),y,Nat.sub_self];rfl
   have l:j<(cells8 ((s.take j).map PG.z0++s.drop j)++zs).length:=(List.getElem?_eq_some_iff.1 f).1;have c0:wr.cell? ⟨gb,j,none⟩=some (.int .u8 x.toNat):=by rw [b.mcell 0 rfl j]; exact f
   have f0:wr.frozen? ⟨gb,j,none⟩=false:=b.mfrozen 0 rfl j l;have m:∀u:UInt8,(cells8 ((s.take j).map PG.z0++s.drop j)++zs).set j (.int .u8 u.toNat)=cells8 ((s.take j).map PG.z0++u::s.drop (j+1))++zs:=fun u=>by
    rw [I,List.set_append_left _ _ (by unfold cells8; rw [List.length_map,List.length_append,y]; simp)];unfold cells8;congr 1;rw [List.map_append,List.map_append,List.set_append_right _ _ (by rw [List.length_map,y]; exact Nat.le_refl _),List.length_map,y,Nat.sub_self];rfl
   have i:∀u:UInt8,u=PG.z0 x->(s.take j).map PG.z0++u::s.drop (j+1)=(s.take (j+1)).map PG.z0++s.drop (j+1):=fun u hu=>by
    rw [List.take_succ_eq_append_getElem E,S,List.map_append,List.append_assoc,hu]; rfl
   have HS:=hid m;have X:=hid i;have a0:=UInt8.toNat_lt x;have T:=hid I;clear m i f l S I y;by_cases A:x=0
   ·have y2:(x.toNat:Int)=0:=by rw [A]; rfl
    have a:(48:UInt8)=PG.z0 x:=by unfold PG.z0; rw [if_pos A]
    have Y:=b.mset j (.int .u8 48);have B:=HS.out 48;rw [X.out 48 a] at B;have v:Sp w0 (Mk gb 5 (cells8 ((s.take (j+1)).map PG.z0++s.drop (j+1))++zs)::Bk g 28 (hdV h ve)::L) (wr.setCell ⟨gb,j,none⟩ (.int .u8 48)):=by rw [<- B]; exact Y
    replace v:=hid v;clear Y B a A b;go_wp2_with fail
    go_roundw
    case rel=>exact⟨j+1,by go_num,by omega,v.out⟩
    case measure=>first | (simp [intOf]; omega) | simp [intOf]
   ·have y2:¬ (x.toNat:Int)=0:=fun q=>A (UInt8.toNat_inj.1 (by show x.toNat=0; omega));have a:x=PG.z0 x:=by unfold PG.z0; rw [if_neg A]
    have B:=X.out x a;have v:Sp w0 (Mk gb 5 (cells8 ((s.take (j+1)).map PG.z0++s.drop (j+1))++zs)::Bk g 28 (hdV h ve)::L) wr:=by rw [<- B,<- T.out]; exact b
    replace v:=hid v;clear B a A b;go_wp2_with fail
    go_roundw
    case rel=>exact⟨j+1,by go_num,by omega,v.out⟩
    case measure=>first | (simp [intOf]; omega) | simp [intOf]
  ·obtain rfl:j=n:=by omega
   have y1:¬ (j:Int)<(j:Int):=by omega
   have Z:(s.take j).map PG.z0++s.drop j=s.map PG.z0:=by rw [<- G.out,List.take_length,List.drop_length,List.append_nil]
   rw [Z] at b;have F:Byt wr (.slice (some ⟨gb,0,none⟩) j c) (s.map PG.z0):=by
    have h9:=b.mbyt 0 rfl (c:=c) (by rw [List.length_map,G.out]; exact M.out) N.out;rw [List.length_map,G.out] at h9;exact h9
   have rs:=run_str (P:=Tryz.prog) wr 23 9 5 (.slice (some ⟨gb,0,none⟩) j c) (s.map PG.z0) Tryz.underlying23 Tryz.underlying5 Tryz.underlying9 F
   have cf:wr.cell? ⟨g,0,none⟩=some (.int .u8 h.flags.toNat):=b.cell 1 rfl 0;have U:=hid b.tail;clear F Z b;cases hq:PG.has h.flags k with
   | false =>
    have a:z=0:=by have:=O.out; rw [hq] at this; simpa using this
    subst a;have d:([]:List UInt8)=r:=by rw [<- V.out,hq]; rfl
    replace d:=hid d;clear hq;go_wp2_with fail
    go_ret;exact⟨congrArg (fun t=>Ending.returned (.string (strOf t))) d.out,U.out⟩
   | true =>
    have a:z=(k:Int):=by
     have h1:h.flags.toNat / k % 2=1:=by unfold PG.has at hq; exact of_decide_eq_true hq
     rw [Q.out,h1,Nat.one_mul]
    subst a;have d:s.map PG.z0=r:=by rw [<- V.out,hq]; rfl
    replace d:=hid d;clear hq;rcases hk with rfl | rfl
    ·have e8:(bits .and .u8 (h.flags.toNat:Int) 8 == 0)=false:=by rw [show(8:Int)=((8:Nat):Int) from rfl,hz]; rfl
     clear hz;go_wp2_with fail
     go_ret;exact⟨congrArg (fun t=>Ending.returned (.string (strOf t))) d.out,U.out⟩
    ·have e8:(bits .and .u8 (h.flags.toNat:Int) 16 == 0)=false:=by rw [show(16:Int)=((16:Nat):Int) from rfl,hz]; rfl
     clear hz;go_wp2_with fail
     go_ret;exact⟨congrArg (fun t=>Ending.returned (.string (strOf t))) d.out,U.out⟩
theorem Wx (l:List UInt8) (k:Nat):(strOf l).extract 0 k=strOf (l.take k):=by
 rw [Lib.extract_eq];unfold strOf;simp
theorem TW (h:PG.Hd) (B0:Option Addr) (n c:Nat) (H:Sp w0 L w) (hn:h.extra.length=n) (hb:Ent L fun w=>Byt w (.slice B0 n c) h.extra) (hnc:n<=c) (hcm:c<=maxLen) (hm1:h.name.length<=maxLen) (hm2:h.note.length<=maxLen) :
  Calls Tryz.prog 29 #[.agg (hdV h (.slice B0 n c)).toArray] w fun e w'=>∃A0 ce,e=.returned (.agg #[.int .u8 h.flags.toNat,.int .u8 h.level.toNat,.int .u8 h.system.toNat,.int .u32 h.time,.slice A0 (min n 300) ce,.string (strOf (h.name.take 300)),.string (strOf (h.note.take 300))])/\Sp w0 (Row 5 1 (.slice A0 (min n 300) ce) (min n 300) (cells8 (h.extra.take 300))::L) w':=by
 obtain⟨i0,hi,J,M,N⟩:=info_parts info8;obtain⟨m,O⟩:=exq (min n 300);rw [O];have ym:min (n:Int) 300=(m:Int):=by omega
 have P:m<=n:=by omega
 have a0:m<=300:=by omega
 have a1:(m:Int)<=(c:Int):=by omega
 have Q:Hid ((h.extra.take 300).length=m):=hid (by rw [List.length_take,hn]; omega);have R:Hid (h.extra.take m=h.extra.take 300):=by
  rw [<- O];by_cases hq:n<=300
  ·rw [Nat.min_eq_left hq,<- hn,List.take_length,List.take_of_length_le (by omega)]; exact hid rfl
  ·rw [Nat.min_eq_right (by omega)]; exact hid rfl
 obtain⟨k2,r⟩:=exq h.name.length;obtain⟨k3,s⟩:=exq h.note.length;have a2:(strOf h.name).size=k2:=by rw [Zi]; exact r
 have a3:(strOf h.note).size=k3:=by rw [Zi]; exact s
 obtain⟨p,B⟩:=exq (min k2 300);obtain⟨u,C⟩:=exq (min k3 300);have a4:min (k2:Int) 300=(p:Int):=by omega
 have a5:min (k3:Int) 300=(u:Int):=by omega
 have a6:(p:Int)<=(k2:Int):=by omega
 have a7:(u:Int)<=(k3:Int):=by omega
 have S:∀(l:List UInt8) (q k:Nat),l.length=k->min k 300=q->l.take q=l.take 300:=fun l q k h1 h2=>by
  by_cases h9:k<=300
  ·rw [<- h2,Nat.min_eq_left h9,<- h1,List.take_length,List.take_of_length_le (by omega)]
  ·rw [<- h2,Nat.min_eq_right (by omega)]
 have T:Hid ((strOf h.name).extract 0 p=strOf (h.name.take 300)):=hid (by rw [Wx,S _ p k2 r B]);have U:Hid ((strOf h.note).extract 0 u=strOf (h.note.take 300)):=hid (by rw [Wx,S _ u k3 s C]);unfold maxLen at hm1 hm2 hcm;rw [r] at hm1;rw [s] at hm2;have HN:=hid hn;have V:=(H.newBk [.int .u8 h.flags.toNat,.int .u8 h.level.toNat,.int .u8 h.system.toNat,.int .u32 h.time,.slice B0 n c,.string (strOf h.name),.string (strOf h.note)] 28).newBk [.int .u8 0,.int .u8 0,.int .u8 0,.int .u32 0,.slice none 0 0,.string ⟨#[]⟩,.string ⟨#[]⟩] 28;have X:(w.alloc (.cells #[.int .u8 h.flags.toNat,.int .u8 h.level.toNat,.int .u8 h.system.toNat,.int .u32 h.time,.slice B0 n c,.string (strOf h.name),.string (strOf h.note)] 28)).heap.size=w.heap.size+1:=Array.size_push _;rw [X] at V;have D:Hid (Ent (Bk (w.heap.size+1) 28 [.int .u8 0,.int .u8 0,.int .u8 0,.int .u32 0,.slice none 0 0,.string ⟨#[]⟩,.string ⟨#[]⟩]::L) fun w=>Byt w (.slice B0 n c) h.extra):=hid fun _ _ q=>hb _ _ q.tail;have I:=hid V;clear O hn r s B C S hb V H X;unfold hdV;go_enter Tryz.func29,Tryz.ntmps29
 go_wp2_with fail
 obtain⟨o,E⟩:=exq (w.heap.size+1);rw [E] at I D ⊢;clear E;generalize World.alloc _ _=wq at I ⊢;generalize w.heap.size=g1 at I ⊢;refine Zm (L:=Bk o 28 [.int .u8 0,.int .u8 0,.int .u8 0,.int .u32 0,.slice none 0 0,.string ⟨#[]⟩,.string ⟨#[]⟩]::L) [some (.pointer (some ⟨g1,4,none⟩)),some (.slice B0 n c),some (.pointer (some ⟨g1,4,none⟩)),some (.slice B0 n c),some (.int .i64 n),some (.int .i64 m),some (.slice B0 m c),none,some (.pointer (some ⟨g1,5,none⟩)),some (.string (strOf h.name)),some (.pointer (some ⟨g1,5,none⟩)),some (.string (strOf h.name)),some (.int .i64 k2),some (.int .i64 p),some (.string ((strOf h.name).extract 0 p)),some (.pointer (some ⟨g1,6,none⟩)),some (.string (strOf h.note)),some (.pointer (some ⟨g1,6,none⟩)),some (.string (strOf h.note)),some (.int .i64 k3),some (.int .i64 u),some (.string ((strOf h.note).extract 0 u)),some (.pointer (some ⟨g1,4,none⟩)),some (undef),some (.pointer (some ⟨g1,5,none⟩)),some (undef),some (.pointer (some ⟨g1,6,none⟩)),some (undef)] (fun _ _ _=>True) (fun ix ux vx=>match ix with | 7=>(fun vv=>[Row 5 1 vv m (cells8 (h.extra.take 300))]) vx | 23=>(fun _=>[Bk g1 28 [.int .u8 h.flags.toNat,.int .u8 h.level.toNat,.int .u8 h.system.toNat,.int .u32 h.time,ux,.string (strOf h.name),.string (strOf h.note)],Row 5 1 ux m (cells8 (h.extra.take 300))]) vx | 25=>(fun _=>[Bk g1 28 [.int .u8 h.flags.toNat,.int .u8 h.level.toNat,.int .u8 h.system.toNat,.int .u32 h.time,ux,.string ((strOf h.name).extract 0 p),.string (strOf h.note)],Row 5 1 ux m (cells8 (h.extra.take 300))]) vx | 27=>(fun _=>[Bk g1 28 [.int .u8 h.flags.toNat,.int .u8 h.level.toNat,.int .u8 h.system.toNat,.int .u32 h.time,ux,.string ((strOf h.name).extract 0 p),.string ((strOf h.note).extract 0 u)],Row 5 1 ux m (cells8 (h.extra.take 300))]) vx | _=>[]) (fun ix=>match ix with | 23=>[Bk g1 28 [.int .u8 h.flags.toNat,.int .u8 h.level.toNat,.int .u8 h.system.toNat,.int .u32 h.time,.slice B0 n c,.string (strOf h.name),.string (strOf h.note)]] | _=>[]) 28 29
  [some 3,some 4,some 5,some 6,some 7,some 8,some 9,some 10,some 11,some 12,some 13,some 14,some 15,some 16,some 17,some 18,some 19,some 20,some 21,some 22,some 23,some 24,some 25,none,some 26,none,some 27,none]
  [[],[0],[],[2],[3],[4],[1,5],[6],[],[8],[],[10],[11],[12],[9,13],[],[15],[],[17],[18],[19],[16,20],[0,1,2,3,4,5,6,7,8,9,10,11,15,16,17,18],[22,7,7,0,1,2,3,4,5,6,7,8,9,10,11,15,16,17,18],[0,1,2,3,4,5,6,7,8,9,10,11,12,13,14,15,16,17,18,22,23],[24,14,23,0,1,2,3,4,5,6,7,8,9,10,11,12,13,14,15,16,17,18,22,23],[0,1,2,3,4,5,6,7,8,9,10,11,12,13,14,15,16,17,18,19,20,21,22,23,24,25],[26,21,25,0,1,2,3,4,5,6,7,8,9,10,11,12,13,14,15,16,17,18,19,20,21,22,23,24,25]]
  [[],[0],[],[2],[2,3],[2,3,4],[0,1,2,3,4,5],[0,1,2,3,4,5,6],[],[8],[],[10],[10,11],[10,11,12],[8,9,10,11,12,13],[],[15],[],[17],[17,18],[17,18,19],[15,16,17,18,19,20],[0,1,2,3,4,5,6,7,8,9,10,11,15,16,17,18],[0,1,2,3,4,5,6,7,8,9,10,11,15,16,17,18,22],[0,1,2,3,4,5,6,7,8,9,10,11,12,13,14,15,16,17,18,22,23],[0,1,2,3,4,5,6,7,8,9,10,11,12,13,14,15,16,17,18,22,23,24],[0,1,2,3,4,5,6,7,8,9,10,11,12,13,14,15,16,17,18,19,20,21,22,23,24,25],[0,1,2,3,4,5,6,7,8,9,10,11,12,13,14,15,16,17,18,19,20,21,22,23,24,25,26]]
  [[],[],[],[],[],[],[],[],[],[],[],[],[],[],[],[],[],[],[],[],[],[],[],[7],[],[23],[],[25]] [[],[23],[],[23],[],[],[],[],[],[23],[],[23],[],[],[],[],[23],[],[23],[],[],[],[],[],[],[],[],[]] [none,none,none,none,none,none,none,none,none,none,none,none,none,none,none,none,none,none,none,none,none,none,none,some 7,none,some 7,none,some 7] [(1,.pointer (some ⟨g1,0,none⟩))]
  (by kernel_rfl) rfl (by decide) (by rfl) (by decide +kernel) rfl (by simp) (by rfl) ((I.out.pick 2 [1,0])) ?hstep ?hend
 case hstep =>
  refine⟨?p0,⟨?p1,⟨?p2,⟨?p3,⟨?p4,⟨?p5,⟨?p6,⟨?p7,⟨?p8,⟨?p9,⟨?p10,⟨?p11,⟨?p12,⟨?p13,⟨?p14,⟨?p15,⟨?p16,⟨?p17,⟨?p18,⟨?p19,⟨?p20,⟨?p21,⟨?p22,⟨?p23,⟨?p24,⟨?p25,⟨?p26,⟨?p27,trivial⟩⟩⟩⟩⟩⟩⟩⟩⟩⟩⟩⟩⟩⟩⟩⟩⟩⟩⟩⟩⟩⟩⟩⟩⟩⟩⟩⟩
  case p0 | p2 | p4 | p5 | p6 | p8 | p10 | p12 | p13 | p14 | p15 | p17 | p19 | p20 | p21 | p22 | p24 | p26 =>
   intro x wx A a i d j H K f;replace f:=hid f;clear d j;repeat (obtain⟨_,i⟩:=i)
   refine so ?_;go_step;exact f.out _ _ rfl H
  case p1 =>
   intro x wx A a i d j H K b;have e3:=tq d 0;replace H:Sp w0 (_::a) wx:=H;have f:=hid b;clear b i d j;have F:=H.cell 0 rfl 4;refine so ?_;go_step;exact f.out _ _ rfl H
  case p3 =>
   intro x wx A a i d j H K b;have e5:=tq d 2;replace H:Sp w0 (_::a) wx:=H;have f:=hid b;clear b i d j;have F:=H.cell 0 rfl 4;refine so ?_;go_step;exact f.out _ _ rfl H
  case p7 =>
   intro x wx A a i d j H K b;have e9:=tq d 6;have f:Hid (∀(v:Value) (w' : World),(True)->Sp w0 ((Row 5 1 v m (cells8 (h.extra.take 300)))::a) w'->K (A.put (some 10) v) w'):=hid b;clear b i d;have G:=(j _ D.out _ _ H).take m (by rw [HN.out]; exact P);rw [R.out] at G;refine so ?_;refine Zh _ _ 23 rfl 5 i0 (.int .u8 0) 1 1 Tryz.underlying23 hi J M N rfl (by decide) (.slice none 0 0) 0 [] rfl (H.rowNil _ _) B0 m c (cells8 (h.extra.take 300)) (ev e9) (by rw [Zo,Q.out]) (Yz G) (Zg _) (by unfold maxLen; omega) (by omega) fun v9 w9 H9 _=>f.out _ _ trivial ?_;rw [Nat.zero_add] at H9;exact H9
  case p9 =>
   intro x wx A a i d j H K b;have a8:=tq d 8;replace H:Sp w0 (_::a) wx:=H;have f:=hid b;clear b i d j;have F:=H.cell 0 rfl 5;refine so ?_;go_step;exact f.out _ _ rfl H
  case p11 =>
   intro x wx A a i d j H K b;have a9:=tq d 10;replace H:Sp w0 (_::a) wx:=H;have f:=hid b;clear b i d j;have F:=H.cell 0 rfl 5;refine so ?_;go_step;exact f.out _ _ rfl H
  case p16 =>
   intro x wx A a i d j H K b;have b0:=tq d 15;replace H:Sp w0 (_::a) wx:=H;have f:=hid b;clear b i d j;have F:=H.cell 0 rfl 6;refine so ?_;go_step;exact f.out _ _ rfl H
  case p18 =>
   intro x wx A a i d j H K b;have b1:=tq d 17;replace H:Sp w0 (_::a) wx:=H;have f:=hid b;clear b i d j;have F:=H.cell 0 rfl 6;refine so ?_;go_step;exact f.out _ _ rfl H
  case p23 =>
   intro x wx A a i d j H K b;have b2:=tq d 22;have b3:True:=(d 7 (by decide)).1;have W:=(d 7 (by decide)).2 10 rfl;replace H:Sp w0 (_::(Row 5 1 (x 7) m (cells8 (h.extra.take 300)))::a) wx:=H;have f:Hid (∀(v:Value) (w' : World),(v=undef)->Sp w0 ((Bk g1 28 [.int .u8 h.flags.toNat,.int .u8 h.level.toNat,.int .u8 h.system.toNat,.int .u32 h.time,(x 7),.string (strOf h.name),.string (strOf h.note)])::(Row 5 1 (x 7) m (cells8 (h.extra.take 300)))::a) w'->K (A.put none v) w'):=hid b;clear b i d j;obtain⟨A0,ce,y,_,_⟩:=Row.form H 1 rfl;rw [y] at f H W;have z:=H.frozen 0 rfl 4;have t:=H.cell 0 rfl 4;refine so ?_;go_step;exact f.out _ _ rfl (H.set 4 (.slice A0 m ce))
  case p25 =>
   intro x wx A a i d j H K b;have b4:=tq d 24;have b5:=tq d 14;replace H:Sp w0 ((Bk g1 28 [.int .u8 h.flags.toNat,.int .u8 h.level.toNat,.int .u8 h.system.toNat,.int .u32 h.time,(x 7),.string (strOf h.name),.string (strOf h.note)])::(Row 5 1 (x 7) m (cells8 (h.extra.take 300)))::a) wx:=H;have f:=hid b;clear b i d j;have z:=H.frozen 0 rfl 5;have t:=H.cell 0 rfl 5;refine so ?_;go_step;exact f.out _ _ rfl (H.set 5 (.string ((strOf h.name).extract 0 p)))
  case p27 =>
   intro x wx A a i d j H K b;have b6:=tq d 26;have b7:=tq d 21;replace H:Sp w0 ((Bk g1 28 [.int .u8 h.flags.toNat,.int .u8 h.level.toNat,.int .u8 h.system.toNat,.int .u32 h.time,(x 7),.string ((strOf h.name).extract 0 p),.string (strOf h.note)])::(Row 5 1 (x 7) m (cells8 (h.extra.take 300)))::a) wx:=H;have f:=hid b;clear b i d j;have z:=H.frozen 0 rfl 6;have t:=H.cell 0 rfl 6;refine so ?_;go_step;exact f.out _ _ rfl (H.set 6 (.string ((strOf h.note).extract 0 u)))
 case hend =>
  intro x wx A Y d H;replace H:Sp w0 ((Bk g1 28 [.int .u8 h.flags.toNat,.int .u8 h.level.toNat,.int .u8 h.system.toNat,.int .u32 h.time,(x 7),.string ((strOf h.name).extract 0 p),.string ((strOf h.note).extract 0 u)])::(Row 5 1 (x 7) m (cells8 (h.extra.take 300)))::_::L) wx:=H;clear d;simp only [putAll,Act.put,List.setIfInBounds_toArray,List.set_cons_succ,List.set_cons_zero,Nat.reduceAdd] at Y;subst Y;obtain⟨A0,ce,y,_,_⟩:=Row.form H 1 rfl;rw [y] at H;have g:=H;clear H y;rw [T.out,U.out] at g;have c0:wx.cell? ⟨g1,0,none⟩=some (.int .u8 h.flags.toNat):=g.cell 0 rfl 0;have c1:wx.cell? ⟨g1,1,none⟩=some (.int .u8 h.level.toNat):=g.cell 0 rfl 1;have c2:wx.cell? ⟨g1,2,none⟩=some (.int .u8 h.system.toNat):=g.cell 0 rfl 2;have c3:wx.cell? ⟨g1,3,none⟩=some (.int .u32 h.time):=g.cell 0 rfl 3;have c4:wx.cell? ⟨g1,4,none⟩=some (.slice A0 m ce):=g.cell 0 rfl 4;have c5:wx.cell? ⟨g1,5,none⟩=some (.string (strOf (h.name.take 300))):=g.cell 0 rfl 5;have c6:wx.cell? ⟨g1,6,none⟩=some (.string (strOf (h.note.take 300))):=g.cell 0 rfl 6;have r0:wx.cell? ⟨o,0,none⟩=some (.int .u8 0):=g.cell 2 rfl 0;have q0:wx.frozen? ⟨o,0,none⟩=false:=g.frozen 2 rfl 0;have r1:wx.cell? ⟨o,1,none⟩=some (.int .u8 0):=g.cell 2 rfl 1;have q1:wx.frozen? ⟨o,1,none⟩=false:=g.frozen 2 rfl 1;have r2:wx.cell? ⟨o,2,none⟩=some (.int .u8 0):=g.cell 2 rfl 2;have q2:wx.frozen? ⟨o,2,none⟩=false:=g.frozen 2 rfl 2;have r3:wx.cell? ⟨o,3,none⟩=some (.int .u32 0):=g.cell 2 rfl 3;have q3:wx.frozen? ⟨o,3,none⟩=false:=g.frozen 2 rfl 3;have r4:wx.cell? ⟨o,4,none⟩=some (.slice none 0 0):=g.cell 2 rfl 4;have q4:wx.frozen? ⟨o,4,none⟩=false:=g.frozen 2 rfl 4;have r5:wx.cell? ⟨o,5,none⟩=some (.string ⟨#[]⟩):=g.cell 2 rfl 5;have q5:wx.frozen? ⟨o,5,none⟩=false:=g.frozen 2 rfl 5;have r6:wx.cell? ⟨o,6,none⟩=some (.string ⟨#[]⟩):=g.cell 2 rfl 6;have q6:wx.frozen? ⟨o,6,none⟩=false:=g.frozen 2 rfl 6;go_wp2_with fail
  have Z:=((((((((g.pick 3 [2,0,1]).set 0 (.int .u8 h.flags.toNat)).set 1 (.int .u8 h.level.toNat)).set 2 (.int .u8 h.system.toNat)).set 3 (.int .u32 h.time)).set 4 (.slice A0 m ce)).set 5 (.string (strOf (h.name.take 300)))).set 6 (.string (strOf (h.note.take 300))));refine bodyPost_ret (Yl rfl _ rfl (Zl Z 0 rfl) Tryz.isAgg28 Tryz.sizeOf28) rfl ?_;exact⟨A0,ce,rfl,Z.pick 3 [2]⟩
end Go.Proofs.YtnjpnmpemhldcaaGreatDoor

