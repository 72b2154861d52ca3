/- A pack. -/
import Derived.Test.YtnjpnmpemhldcaaGreatDoorPk03
set_option linter.all false
set_option maxRecDepth 100000
set_option maxHeartbeats 8000000
namespace Go.Proofs.YtnjpnmpemhldcaaGreatDoor
variable {w0 w:World} {L:List Pr}
open Go.RowKit
theorem Zn (l:List UInt8):(strOf l).size=l.length:=by unfold strOf; simp [ByteArray.size]
theorem XN (l:List UInt8):Lib.strCells (strOf l)=cells8 l:=by unfold strOf Lib.strCells cells8; rfl
section
variable {P:Program}
theorem YQ (w:World) (t u ty e:TypeId) (i:TypeInfo) (ht:P.underlying t=some (.slice e)) (hu:P.underlying u=some .string) (hi:P.info? e=some i) (hz:i.zero=some (.int .u8 0)) (hsize:i.size=1) (hby:i.bytes=1)
  (v:Value) (n:Nat) (xs:List Value) (hown:w.ownsRow 0 e 1 v n xs) (s:List UInt8) (hm:n+s.length<=1000000000) :
  ∃v' w',(Builtin.append_ #[t,u] ty #[v,.string (strOf s)]).run P w=.ok v' w'/\w'.ownsRow 0 e 1 v' (n+s.length) (xs++cells8 s)/\w.grownBy w' v.ownBlock/\(v'.ownBlock=v.ownBlock∨v'.ownBlock=some w.heap.size):=by
 obtain⟨v',w',a,h,m,k⟩:=Lib.run_append_own_string (P:=P) w 0 t u ty e i ht hu hi hz hsize hby v n xs hown (strOf s) (by rw [Zn]; unfold maxLen; omega) (by rw [Zn]; omega) (Nat.zero_le _);have f:xs.length=n:=by simpa using hown.1
 refine⟨v',w',a,by rw [Zn,XN] at h; exact h,m,?_⟩;rw [Zn] at k;rcases hown.2 with ⟨rfl,rfl⟩ | ⟨g,cap,cur,rfl,_,hg,hnc,hcm,hcs,htake⟩
 ·by_cases o:s.length=0
  ·have:=k.2 ⟨rfl,o⟩;subst this;exact .inl rfl
  ·have d:=run_append_nil_string (P:=P) w t u ty e i (.int .u8 0) ht hu hi hz (strOf s) (by rw [Zn]; omega) (by rw [Zn]; omega) (by rw [Zn,hby]; omega);rw [d] at a;injection a with e1 e2
   subst e1;exact .inr rfl
 ·by_cases b:n+s.length<=cap
  ·have l : cur.size=cap:=by simpa using hcs
   have d:=Lib.run_append_room_string (P:=P) w t u ty e i ht hu hi hsize g n cap cur hg (strOf s) (by rw [Zn]; exact b) (by rw [Zn]; omega);rw [d] at a;injection a with e1 e2
   subst e1;exact .inl rfl
  ·have c:∀j u,xs[j]?=some u->w.cell? ((⟨g,0,none⟩:Addr).add j)=some u:=hown.cells (g:=g) rfl;have d:=Lib.run_append_grow_string (P:=P) w t u ty e i (.int .u8 0) ht hu hi hz ⟨g,0,none⟩ n cap xs (by rw [hsize]; simpa using f) c (strOf s) (by rw [Zn]; omega) (by rw [Zn]; omega) (by rw [Zn,hby]; exact growslice_fits (by omega) (by omega));rw [d] at a;injection a with e1 e2
   subst e1;exact .inr rfl
theorem Y7 {o:Oper} {a:Act} {K:Act->World->Prop} {Q:Exit->Act->World->Prop} (s x:Operand) (t u:TypeId)
  (ho:o.op=.call { callee:=.builtin .append,args:=#[s,x],argTypes:=#[t,u] })
  (e:TypeId) (i:TypeInfo) (ht:P.underlying t=some (.slice e)) (hu:P.underlying u=some .string) (hi:P.info? e=some i) (hz:i.zero=some (.int .u8 0)) (hsize:i.size=1) (hby:i.bytes=1)
  (v:Value) (n:Nat) (xs:List Value) (hs:a.eval s=v) (H:Sp w0 (Row e 1 v n xs::L) w) (l:List UInt8) (hx:a.eval x=.string (strOf l)) (hm:n+l.length<=1000000000)
  (h:∀v' w',Sp w0 (Row e 1 v' (n+l.length) (xs++cells8 l)::L) w'->K (a.put o.dst v') w') :
  o.wp P a w K Q:=by
 obtain⟨v',w',b,c,d,f⟩:=YQ (P:=P) w t u o.type e i ht hu hi hz hsize hby v n xs (H.owns 0 rfl) l hm;unfold Oper.wp execOp;simp only [ho,resolve,invoke,builtin,Sem.run_bind,Sem.run_pure,Result.andThen_ok,List.map_toArray,List.map_cons,List.map_nil,hs,hx,b];exact h v' w' (H.appended c d f)
theorem ZP {ops:Array Oper} {rest:List Oper} {o:Oper} {a:Act} {Q:Exit->Act->World->Prop} (hgd:o.guard=none) (s x:Operand) (t u:TypeId)
  (ho:o.op=.call { callee:=.builtin .append,args:=#[s,x],argTypes:=#[t,u] })
  (e:TypeId) (i:TypeInfo) (ht:P.underlying t=some (.slice e)) (hu:P.underlying u=some .string) (hi:P.info? e=some i) (hz:i.zero=some (.int .u8 0)) (hsize:i.size=1) (hby:i.bytes=1)
  (v:Value) (n:Nat) (xs:List Value) (hs:a.eval s=v) (H:Sp w0 (Row e 1 v n xs::L) w) (l:List UInt8) (hx:a.eval x=.string (strOf l)) (hm:n+l.length<=1000000000)
  (h:∀v' w',Sp w0 (Row e 1 v' (n+l.length) (xs++cells8 l)::L) w'->wpList P ops Q rest (a.put o.dst v') w') :
  wpList P ops Q (o::rest) a w :=
 wpList_plain hgd fun _ hK=>Y7 s x t u ho e i ht hu hi hz hsize hby v n xs hs H l hx hm fun v' w' h2=>hK _ _ (h v' w' h2)
theorem Yc {ops:Array Oper} {rest:List Oper} {o:Oper} {a:Act} {Q:Exit->Act->World->Prop} (hgd:o.guard=none) (s x:Operand) (t:TypeId)
  (ho:o.op=.call { callee:=.builtin .append,args:=#[s,x],argTypes:=#[t,t] })
  (e:TypeId) (i:TypeInfo) (z:Value) (size bytes:Nat) (ht:P.underlying t=some (.slice e)) (hi:P.info? e=some i) (hz:i.zero=some z) (hsize:i.size=size) (hby:i.bytes=bytes) (hzs:z.cells.size=size)
  (b:Addr) (n:Nat) (olds:List Value) (hs:a.eval s=.slice (some b) n n) (hlo:olds.length=n * size) (holds:∀j v,olds[j]?=some v->w.cell? (b.add j)=some v)
  (A:Addr) (m c:Nat) (news:List Value) (hx:a.eval x=.slice (some A) m c) (hl:news.length=m * size) (hnews:∀j v,news[j]?=some v->w.cell? (A.add j)=some v)
  (hm:0<m) (hnm:n+m<=1000000) (hb:bytes<=100) (H:Sp w0 L w)
  (h:∀v' w',Sp w0 (Row e size v' (n+m) (olds++news)::L) w'->wpList P ops Q rest (a.put o.dst v') w') :
  wpList P ops Q (o::rest) a w:=by
 have d:Builtin.nextslicecap (n+m) n * i.bytes<=281474976710656:=by
  rw [hby];exact growslice_fits (by omega) (Nat.le_trans (Nat.mul_le_mul hnm hb) (by decide))
 have r:=run_append_grow (P:=P) w t o.type e i z ht hi hz b n n olds (by rw [hsize]; exact hlo) holds A m c news (by rw [hsize]; exact hl) hnews (by omega) (by omega) d;refine wpList_plain hgd fun _ hK=>?_;unfold Oper.wp execOp;simp only [ho,resolve,invoke,builtin,Sem.run_bind,Sem.run_pure,Result.andThen_ok,List.map_toArray,List.map_cons,List.map_nil,hs,hx,r];refine hK _ _ (h _ _ ?_);have f:=grownCap_ge w (n+m) n e;have g:grownCap w (n+m) n e<=maxLen:=grownCap_le_maxLen w (n+m) n e (by unfold maxLen; omega);generalize grownCap w (n+m) n e=q at f g ⊢;have l:=(H.drew).newBk (olds.toArray++news.toArray++Builtin.zeroCells z.cells (q - (n+m))).toList e;rw [Array.toArray_toList] at l;have k:(olds.toArray++news.toArray++Builtin.zeroCells z.cells (q - (n+m))).toList.length=q * size:=by
  rw [Array.length_toList,Array.size_append,Array.size_append,size_zeroCells,hzs,List.size_toArray,List.size_toArray,hlo,hl,<- Nat.add_mul,<- Nat.add_mul];congr 1; omega
 have p:=(l.bkRow size q k g).rowCut (n+m) f;have u:(olds.toArray++news.toArray++Builtin.zeroCells z.cells (q - (n+m))).toList.take ((n+m) * size)=olds++news:=by
  simp only [Array.toList_append];rw [List.take_append_of_le_length (by simp [hlo,hl,Nat.add_mul]),List.take_of_length_le (by simp [hlo,hl,Nat.add_mul])]
 rw [u] at p;exact p
end
namespace PG
instance (f:UInt8) (k:Nat) (s:List UInt8):Decidable (textOk f k s):=by unfold textOk; infer_instance
instance (h:Hd):Decidable (Ok h):=by unfold Ok; infer_instance
theorem idx0_iff (s:List UInt8):idx0 s=none↔∀c ∈ s,c≠0:=by
 induction s with
 | nil=>exact⟨fun _ c hc=>(by cases hc),fun _=>rfl⟩
 | cons c s ih =>
  unfold idx0;by_cases hc:c=0
  ·rw [if_pos hc];exact⟨fun h=>(by cases h),fun h=>absurd hc (h c List.mem_cons_self)⟩
  ·rw [if_neg hc,Option.map_eq_none_iff,ih];constructor
   ·intro h d a;rcases List.mem_cons.1 a with rfl | a
    ·exact hc
    ·exact h d a
   ·exact fun h d a=>h d (List.mem_cons_of_mem _ a)
end PG
theorem ZJ (s:List UInt8):(strOf s).toList=s:=by unfold strOf; rw [ByteArray.toList_mk]
theorem Yq (g:Nat) (h:PG.Hd) (ve:Value) (s:List UInt8) (k:Nat) (hk:k=8∨k=16) (H:Sp w0 (Bk g 28 (hdV h ve)::L) w) (hs:s.length<=maxLen) :
  Calls Tryz.prog 41 #[.string (strOf s),.int .u8 k,.pointer (some ⟨g,0,none⟩)] w fun e w'=>e=.returned (.bool (decide (PG.textOk h.flags k s)))/\Sp w0 (Bk g 28 (hdV h ve)::L) w':=by
 have i:=U8 s;have m:=Zn s;obtain⟨n,o⟩:=exq s.length;obtain⟨z,p⟩:=exq (idxI s);rw [o] at m hs;rw [p] at i;have K:w.cell? ⟨g,0,none⟩=some (.int .u8 h.flags.toNat):=H.cell 0 rfl 0;have M:w.cell? ⟨g,1,none⟩=some (.int .u8 h.level.toNat):=H.cell 0 rfl 1;have N:w.cell? ⟨g,2,none⟩=some (.int .u8 h.system.toNat):=H.cell 0 rfl 2;have O:w.cell? ⟨g,3,none⟩=some (.int .u32 h.time):=H.cell 0 rfl 3;have P:w.cell? ⟨g,4,none⟩=some (ve):=H.cell 0 rfl 4;have Q:w.cell? ⟨g,5,none⟩=some (.string (strOf h.name)):=H.cell 0 rfl 5;have R:w.cell? ⟨g,6,none⟩=some (.string (strOf h.note)):=H.cell 0 rfl 6;obtain⟨r,u⟩:=exq (decide (PG.textOk h.flags k s));rw [u];have l:=hid u;clear u;have v:=hid i;have B:=hid o;have C:=hid p;clear i o p;unfold maxLen at hs;by_cases S:n<=65535
 ·have E:(n:Int)<=65535:=by omega
  go_enter Tryz.func41,Tryz.ntmps41
  go_wp2_with fail
  refine(v.out w).mono ?_;rintro _ T ⟨rfl,rfl⟩;by_cases y:z<0
  ·have F:z<(0:Int):=y;have f:PG.idx0 s=none:=by
    have:=C.out;unfold idxI at this;cases hq:PG.idx0 s with
    | none=>rfl
    | some q=>rw [hq] at this; simp only at this; omega
   by_cases j:s=[]
   ·have G:(strOf s).toList=[]:=by rw [ZJ]; exact j
    have a:decide (PG.textOk h.flags k s)=true:=by
     subst j;exact decide_eq_true ⟨by decide,fun c hc=>(by cases hc),.inl rfl⟩
    rw [l.out] at a;replace a:=hid a;clear j f;go_wp2_with fail
    go_ret;exact⟨congrArg (fun b=>Ending.returned (.bool b)) a.out.symm,H⟩
   ·have G:¬ (strOf s).toList=[]:=by rw [ZJ]; exact j
    have a:decide (PG.textOk h.flags k s)=PG.has h.flags k:=by
     have D:PG.textOk h.flags k s↔PG.has h.flags k=true:=⟨fun q=>q.2.2.resolve_left j,fun q=>⟨by rw [B.out]; omega,(PG.idx0_iff s).1 f,.inr q⟩⟩;by_cases q:PG.has h.flags k=true
     ·rw [q]; exact decide_eq_true (D.2 q)
     ·rw [Bool.not_eq_true] at q;rw [q];exact decide_eq_false fun t=>by rw [D.1 t] at q; cases q
    rw [l.out] at a;replace a:Hid (((strOf s).toList.isEmpty || PG.has h.flags k)=r):=by
     rw [ZJ];cases s with
     | nil=>exact absurd rfl j
     | cons x s=>exact hid a.symm
    have I:=hid (ZN h ve k (by omega) H);clear j f;go_wp2_with fail
    refine I.out.mono ?_;rintro _ U ⟨rfl,J⟩;go_wp2;go_ret;exact⟨congrArg (fun b=>Ending.returned (.bool b)) a.out,J⟩
  ·have F:¬ z<(0:Int):=y;have d:decide (PG.textOk h.flags k s)=false:=by
    refine decide_eq_false fun t=>y ?_;have:=(PG.idx0_iff s).2 t.2.1;have A:=C.out;unfold idxI at A;rw [this] at A;rw [<- A];decide
   rw [l.out] at d;replace d:=hid d;go_wp2_with fail
   go_ret;exact⟨congrArg (fun b=>Ending.returned (.bool b)) d.out.symm,H⟩
 ·have E:¬ (n:Int)<=65535:=by omega
  have d:decide (PG.textOk h.flags k s)=false:=by
   rw [decide_eq_false_iff_not];rintro⟨q,_⟩;rw [B.out] at q;omega
  rw [l.out] at d;replace d:=hid d;go_enter Tryz.func41,Tryz.ntmps41
  go_wp2_with fail
  go_ret;exact⟨congrArg (fun b=>Ending.returned (.bool b)) d.out.symm,H⟩
theorem Y8 (h:PG.Hd) (A:Option Addr) (n c:Nat) (hn:n=h.extra.length) (H:Sp w0 L w) (hm1:h.name.length<=maxLen) (hm2:h.note.length<=maxLen) :
  Calls Tryz.prog 11 #[.agg (hdV h (.slice A n c)).toArray] w fun e w'=>e=.returned (.bool (decide (PG.Ok h)))/\Sp w0 L w':=by
 obtain⟨r,x⟩:=exq (decide (PG.Ok h));rw [x];have j:=hid x;have m:=hid hn.symm;clear x hn;have g:=H.newBk [.int .u8 h.flags.toNat,.int .u8 h.level.toNat,.int .u8 h.system.toNat,.int .u32 h.time,.slice A n c,.string (strOf h.name),.string (strOf h.note)] 28;have F:(w.alloc (.cells #[.int .u8 h.flags.toNat,.int .u8 h.level.toNat,.int .u8 h.system.toNat,.int .u32 h.time,.slice A n c,.string (strOf h.name),.string (strOf h.note)] 28)).cell? ⟨w.heap.size,0,none⟩=some (.int .u8 h.flags.toNat):=g.cell 0 rfl 0;have G:(w.alloc (.cells #[.int .u8 h.flags.toNat,.int .u8 h.level.toNat,.int .u8 h.system.toNat,.int .u32 h.time,.slice A n c,.string (strOf h.name),.string (strOf h.note)] 28)).cell? ⟨w.heap.size,1,none⟩=some (.int .u8 h.level.toNat):=g.cell 0 rfl 1;have I:(w.alloc (.cells #[.int .u8 h.flags.toNat,.int .u8 h.level.toNat,.int .u8 h.system.toNat,.int .u32 h.time,.slice A n c,.string (strOf h.name),.string (strOf h.note)] 28)).cell? ⟨w.heap.size,2,none⟩=some (.int .u8 h.system.toNat):=g.cell 0 rfl 2;have J:(w.alloc (.cells #[.int .u8 h.flags.toNat,.int .u8 h.level.toNat,.int .u8 h.system.toNat,.int .u32 h.time,.slice A n c,.string (strOf h.name),.string (strOf h.note)] 28)).cell? ⟨w.heap.size,3,none⟩=some (.int .u32 h.time):=g.cell 0 rfl 3;have K:(w.alloc (.cells #[.int .u8 h.flags.toNat,.int .u8 h.level.toNat,.int .u8 h.system.toNat,.int .u32 h.time,.slice A n c,.string (strOf h.name),.string (strOf h.note)] 28)).cell? ⟨w.heap.size,4,none⟩=some (.slice A n c):=g.cell 0 rfl 4;have M:(w.alloc (.cells #[.int .u8 h.flags.toNat,.int .u8 h.level.toNat,.int .u8 h.system.toNat,.int .u32 h.time,.slice A n c,.string (strOf h.name),.string (strOf h.note)] 28)).cell? ⟨w.heap.size,5,none⟩=some (.string (strOf h.name)):=g.cell 0 rfl 5;have o:(w.alloc (.cells #[.int .u8 h.flags.toNat,.int .u8 h.level.toNat,.int .u8 h.system.toNat,.int .u32 h.time,.slice A n c,.string (strOf h.name),.string (strOf h.note)] 28)).cell? ⟨w.heap.size,6,none⟩=some (.string (strOf h.note)):=g.cell 0 rfl 6;have D:=hid g;clear g;unfold hdV;go_enter Tryz.func11,Tryz.ntmps11
 by_cases y:h.flags.toNat<32
 ·have N:(h.flags.toNat:Int)<32:=by omega
  by_cases z:n<=65535
  ·have O:(n:Int)<=65535:=by omega
   by_cases v:n=0
   ·obtain rfl:n=0:=v;have p:=hid (Yq w.heap.size h (.slice A 0 c) h.name 8 (.inl rfl) D.out hm1);go_wp2_with fail
    refine p.out.mono ?_;rintro _ B ⟨rfl,k⟩;clear p;cases hq:decide (PG.textOk h.flags 8 h.name) with
    | false =>
     have a:decide (PG.Ok h)=false:=decide_eq_false fun t=>of_decide_eq_false hq t.2.2.2.1;rw [j.out] at a;replace a:=hid a;clear hq;go_wp2_with fail
     go_ret;exact⟨congrArg (fun b=>Ending.returned (.bool b)) a.out.symm,k.tail⟩
    | true =>
     have f:=of_decide_eq_true hq;have d:decide (PG.Ok h)=decide (PG.textOk h.flags 16 h.note):=by
      have e:PG.Ok h↔PG.textOk h.flags 16 h.note:=⟨fun t=>t.2.2.2.2,fun t=>⟨y,by rw [m.out]; exact z,.inl (List.length_eq_zero_iff.1 m.out),f,t⟩⟩;by_cases q:PG.textOk h.flags 16 h.note
      ·rw [decide_eq_true q]; exact decide_eq_true (e.2 q)
      ·rw [decide_eq_false q]; exact decide_eq_false fun t=>q (e.1 t)
     rw [j.out] at d;replace d:=hid d;have s:=hid (Yq w.heap.size h (.slice A 0 c) h.note 16 (.inr rfl) k hm2);have o:B.cell? ⟨w.heap.size,6,none⟩=some (.string (strOf h.note)):=k.cell 0 rfl 6;clear hq f;go_wp2_with fail
     refine s.out.mono ?_;rintro _ P ⟨rfl,C⟩;clear s o;go_wp2;go_ret;exact⟨congrArg (fun b=>Ending.returned (.bool b)) d.out.symm,C.tail⟩
   ·have R:¬ (n:Int)=0:=by omega
    have E:=hid (ZN h (.slice A n c) 4 (by omega) D.out);have u : ¬ h.extra=[]:=fun e=>v (by rw [<- m.out,e]; rfl);replace v:=hid u;clear u;go_wp2_with fail
    refine E.out.mono ?_;rintro _ l ⟨rfl,i⟩;have F:l.cell? ⟨w.heap.size,0,none⟩=some (.int .u8 h.flags.toNat):=i.cell 0 rfl 0;have G:l.cell? ⟨w.heap.size,1,none⟩=some (.int .u8 h.level.toNat):=i.cell 0 rfl 1;have I:l.cell? ⟨w.heap.size,2,none⟩=some (.int .u8 h.system.toNat):=i.cell 0 rfl 2;have J:l.cell? ⟨w.heap.size,3,none⟩=some (.int .u32 h.time):=i.cell 0 rfl 3;have K:l.cell? ⟨w.heap.size,4,none⟩=some (.slice A n c):=i.cell 0 rfl 4;have M:l.cell? ⟨w.heap.size,5,none⟩=some (.string (strOf h.name)):=i.cell 0 rfl 5;have o:l.cell? ⟨w.heap.size,6,none⟩=some (.string (strOf h.note)):=i.cell 0 rfl 6;clear E;cases hq:PG.has h.flags 4 with
    | false =>
     have a:decide (PG.Ok h)=false:=decide_eq_false fun t=>by
      rcases t.2.2.1 with e | e
      ·exact v.out e
      ·rw [hq] at e; cases e
     rw [j.out] at a;replace a:=hid a;clear hq;go_wp2_with fail
     go_ret;exact⟨congrArg (fun b=>Ending.returned (.bool b)) a.out.symm,i.tail⟩
    | true =>
     have Q:=hid hq;clear hq;have p:=hid (Yq w.heap.size h (.slice A n c) h.name 8 (.inl rfl) i hm1);go_wp2_with fail
     refine p.out.mono ?_;rintro _ B ⟨rfl,k⟩;clear p;cases hq:decide (PG.textOk h.flags 8 h.name) with
     | false =>
      have a:decide (PG.Ok h)=false:=decide_eq_false fun t=>of_decide_eq_false hq t.2.2.2.1;rw [j.out] at a;replace a:=hid a;clear hq;go_wp2_with fail
      go_ret;exact⟨congrArg (fun b=>Ending.returned (.bool b)) a.out.symm,k.tail⟩
     | true =>
      have f:=of_decide_eq_true hq;have d:decide (PG.Ok h)=decide (PG.textOk h.flags 16 h.note):=by
       have e:PG.Ok h↔PG.textOk h.flags 16 h.note:=⟨fun t=>t.2.2.2.2,fun t=>⟨y,by rw [m.out]; exact z,.inr Q.out,f,t⟩⟩;by_cases q:PG.textOk h.flags 16 h.note
       ·rw [decide_eq_true q]; exact decide_eq_true (e.2 q)
       ·rw [decide_eq_false q]; exact decide_eq_false fun t=>q (e.1 t)
      rw [j.out] at d;replace d:=hid d;have s:=hid (Yq w.heap.size h (.slice A n c) h.note 16 (.inr rfl) k hm2);have o:B.cell? ⟨w.heap.size,6,none⟩=some (.string (strOf h.note)):=k.cell 0 rfl 6;clear hq f;go_wp2_with fail
      refine s.out.mono ?_;rintro _ P ⟨rfl,C⟩;clear s o;go_wp2;go_ret;exact⟨congrArg (fun b=>Ending.returned (.bool b)) d.out.symm,C.tail⟩
  ·have O:¬ (n:Int)<=65535:=by omega
   have a:decide (PG.Ok h)=false:=decide_eq_false fun t=>z (by rw [<- m.out]; exact t.2.1);rw [j.out] at a;replace a:=hid a;go_wp2_with fail
   go_ret;exact⟨congrArg (fun b=>Ending.returned (.bool b)) a.out.symm,H.alloc _⟩
 ·have N:¬ (h.flags.toNat:Int)<32:=by omega
  have a:decide (PG.Ok h)=false:=decide_eq_false fun t=>y t.1;rw [j.out] at a;replace a:=hid a;go_wp2_with fail
  go_ret;exact⟨congrArg (fun b=>Ending.returned (.bool b)) a.out.symm,H.alloc _⟩

def CrcTab (w:World):Prop:=∀i,i<16->w.cell? ⟨4,i,none⟩=some (.int .u32 (PCrc.tab.getD i 0:Nat))
theorem W8 (x:Nat) (hx:x<4294967296):bits .and .u32 (x:Int) 15=((x % 16:Nat):Int):=by
 have:=u32_and_nat x 15 hx (by omega);rw [nat_mask4] at this;exact this
theorem V9 (a:Int) (x b:Nat) (ha:a=x) (hx:x<4294967296) (hb:b<4294967296):bits .xor .u32 a (b:Int)=((x ^^^ b:Nat):Int):=by
 rw [ha]; exact u32_xor_nat x b hx hb

theorem X6 (x:Nat) (w:World) (hx:x<4294967296) (ht:CrcTab w) :
  Calls Tryz.prog 130 #[.int .u32 x] w fun e w'=>e=.returned (.int .u32 (PCrc.half x:Nat))/\w=w':=by
 have c:=W8 x hx;have b:=ht (x % 16) (by omega);have a:=PCrc.tab_lt' (x % 16);obtain⟨t,e⟩:=exq (PCrc.tab.getD (x % 16) 0);rw [e] at b a;have H:=hid e;clear e;go_enter Tryz.func130,Tryz.ntmps130
 go_wp2;go_ret;refine⟨UY ?_,rfl⟩;rw [PCrc.half,H.out];exact V9 _ _ _ (by omega) (by omega) a

theorem W9 (x:Nat) (w:World) (hx:x<4294967296) (ht:CrcTab w) :
  Calls Tryz.prog 96 #[.int .u32 x] w fun e w'=>e=.returned (.int .u32 (PCrc.whole x:Nat))/\w=w':=by
 go_enter Tryz.func96,Tryz.ntmps96
 go_wp2_with fail
 refine(X6 _ _ hx ht).mono ?_;rintro e w' ⟨rfl,rfl⟩;go_wp2_with fail
 refine(X6 _ _ (PCrc.half_lt _ hx) ht).mono ?_;rintro e w' ⟨rfl,rfl⟩;go_wp2_with fail
 go_ret;exact⟨rfl,rfl⟩

def RunIs (w:World) (g s m:Nat):Prop:=Blk w g 114 [.int .u32 s,.int .i64 m]
def Parts (w:World) (v:Value) (ls:List (List UInt8)):Prop :=
 ∃A c vs,v=.slice A ls.length c/\Rd w A vs/\vs.length=ls.length/\ls.length<=maxLen/\(∀u ∈ vs,∃A n c,u=.slice A n c)/\∀i (h:i<ls.length) (h' : i<vs.length),Byt w vs[i] ls[i]

theorem Parts.keep {w w' : World} {v:Value} {ls:List (List UInt8)} (h:Parts w v ls) (hk:∀(p:Addr) (u:Value),w.cell? p=some u->((∃n,u=.int .u8 n)∨∃A n c,u=.slice A n c)->w'.cell? p=w.cell? p):Parts w' v ls:=by
 obtain⟨A,c,b,e,d,f,g,a,j⟩:=h;exact⟨A,c,b,e,d.keep fun p u hu hc=>hk p u hc (.inr (a u hu)),f,g,a,fun i h h'=>(j i h h').keep fun p n hc=>hk p _ hc (.inl ⟨n,rfl⟩)⟩
def total (ls:List (List UInt8)):Nat:=ls.flatten.length
theorem Ww (ls:List (List UInt8)) (k:Nat) (h:k<ls.length):total (ls.take (k+1))=total (ls.take k)+ls[k].length:=by
 unfold total; rw [List.take_succ_eq_append_getElem h,List.flatten_append]; simp
theorem Y9 (ls:List (List UInt8)) (k:Nat):total (ls.take k)<=total ls:=by
 unfold total
 conv=>rhs; rw [<- List.take_append_drop k ls,List.flatten_append]
 simp
theorem Va (ls:List (List UInt8)) (k:Nat) (h:k<ls.length):(ls.take (k+1)).flatten=(ls.take k).flatten++ls[k]:=by
 rw [List.take_succ_eq_append_getElem h,List.flatten_append]; simp
theorem Vb (s:Nat) (hs:s<4294967296):bits .xor .u32 IntKind.u32.max (s:Int)=((PCrc.inv s:Nat):Int):=by
 obtain⟨m,b,a,c⟩:=PCrc.inv_xor;have e:IntKind.u32.max=((m:Nat):Int):=by rw [b]; rfl
 rw [c s hs,e];exact u32_xor_nat m s a hs
theorem Ua (x:Nat) (l:List UInt8) (j:Nat) (h:j<l.length):PCrc.reg x (l.take (j+1))=PCrc.whole (PCrc.reg x (l.take j) ^^^ l[j].toNat):=by
 rw [List.take_succ_eq_append_getElem h,PCrc.reg_append]; rfl

theorem RunIs.kind8 {w w' : World} {g s m:Nat} (h:RunIs w g s m) (hM:Mod (·=g) w w') {p:Addr} {n:Int} (hc:w.cell? p=some (.int .u8 n)):w'.cell? p=w.cell? p :=
 hM.cell_kind h hc (by simp)
theorem RunIs.kindS {w w' : World} {g s m:Nat} (h:RunIs w g s m) (hM:Mod (·=g) w w') {p:Addr} {A n c} (hc:w.cell? p=some (.slice A n c)):w'.cell? p=w.cell? p :=
 hM.cell_kind h hc (by simp)

theorem U9 (g s m:Nat) (v:Value) (ls:List (List UInt8)) (w:World) (hs:s<4294967296) (hm:m+total ls<=9223372036854775807) (ht:CrcTab w) (hr:RunIs w g s m) (hp:Parts w v ls) (hg:g≠4) :
  Calls Tryz.prog 59 #[.pointer (some ⟨g,0,none⟩),v] w fun e w'=>e=.returned (.tuple #[])/\RunIs w' g (PCrc.inv (PCrc.reg (PCrc.inv s) ls.flatten)) (m+total ls)/\Mod (·=g) w w':=by
 obtain⟨A,c,Y,rfl,N,I,o,O,y⟩:=hp;unfold maxLen at o;have J:=hr.cell 0;have d:=Vb s hs;go_enter Tryz.func59,Tryz.ntmps59
 go_wp2
 go_loopw [4,18] (fun x i wr=>∃k:Nat,k<=ls.length/\i=.int .i64 k/\x=.int .u32 (PCrc.reg (PCrc.inv s) (ls.take k).flatten:Nat)/\RunIs wr g s (m+total (ls.take k))/\Mod (·=g) w wr)
  (fun _ i _=>ls.length - (intOf i).toNat)
 case atStart=>exact⟨0,Nat.zero_le _,rfl,rfl,hr,Mod.refl _ _⟩
 case round =>
  clear J d;obtain⟨k,Z,rfl,rfl,a,p⟩:=hrel;by_cases f:k<ls.length
  ·obtain⟨ad,rfl,z⟩:=N.at_ (k:=k) (by omega);obtain⟨A',c',ev,q,B,C⟩:=y k f (by omega);rw [ev] at z;have D:=(hr.kindS p z).trans z;have E:CrcTab wr:=fun i hi=>(p.cell (Zt (ht i hi)) (Ne.symm hg)).trans (ht i hi);have b:=PCrc.reg_lt (ls.take k).flatten _ (PCrc.inv_lt s hs);obtain⟨X,F⟩:=exq (PCrc.reg (PCrc.inv s) (ls.take k).flatten);rw [F] at b ⊢;have P:=hid F;clear F ev;obtain⟨l,G⟩:=exq (ls[k]);rw [G] at D B q;have K:=hid G;clear G;unfold maxLen at C;go_wp2;go_loop [4,24] (fun x i=>∃j:Nat,j<=l.length/\i=.int .i64 j/\x=.int .u32 (PCrc.reg X (l.take j):Nat)) (fun _ i=>l.length - (intOf i).toNat)
   case atStart=>exact⟨0,Nat.zero_le _,rfl,rfl⟩
   case round =>
    obtain⟨j,hj,rfl,rfl⟩:=hrel;by_cases r:j<l.length
    ·obtain⟨Q,rfl,h⟩:=q.at8 r;have L:=(hr.kind8 p h).trans h;clear h;have R:=l[j].toNat_lt;have t:=PCrc.reg_lt (l.take j) X b;have u:=u32_xor_nat (PCrc.reg X (l.take j)) l[j].toNat t (by omega);have S:=PCrc.xor_u8_lt _ l[j] t;have T:=hid (Ua X l j r);go_wp2_with fail
     refine(W9 _ _ S E).mono ?_;rintro e w' ⟨rfl,rfl⟩;clear u;go_wp2;go_round
     case rel=>exact⟨j+1,by omega,by go_num,by rw [T.out]⟩
     case measure=>simp [intOf]; omega
    ·have M:l.take j=l:=List.take_of_length_le (by omega);rw [M];have c1:=a.cell 1;have f1:=a.frozen 1;have H:=Y9 ls (k+1);have n:=Ww ls k f;rw [K.out] at n;have U:m+total (ls.take k)+l.length<=9223372036854775807:=by omega
     have V:=hid n;clear n H M;go_wp2;go_roundw
     case rel =>
      refine⟨k+1,by omega,by go_num,?_,?_,?_⟩
      ·rw [Va ls k f,PCrc.reg_append,P.out,K.out]
      ·have:=a.set_ 1 (.int .i64 ((m+total (ls.take (k+1)):Nat):Int));rw [V.out] at this ⊢;simpa [RunIs,Nat.add_assoc,Int.add_assoc] using this
      ·exact p.setCell (fun _=>rfl) _
     case measure=>simp [intOf]; omega
  ·have W:ls.take k=ls:=List.take_of_length_le (by omega);rw [W] at a ⊢;have b:=PCrc.reg_lt ls.flatten _ (PCrc.inv_lt s hs);have d:=Vb _ b;have J:=a.cell 0;have f0:=a.frozen 0;go_wp2;go_end0;refine⟨rfl,?_,p.setCell (fun _=>rfl) _⟩;exact a.set_ 0 _

theorem CrcTab.alloc {w:World} (h:CrcTab w) (o:Obj):CrcTab (w.alloc o):=fun i hi=>by
 rw [(Mod.alloc (Mod.refl (fun _=>False) w) o).cell (Zt (h i hi)) (fun h=>h)]; exact h i hi
theorem CrcTab.lt {w:World} (h:CrcTab w):4<w.heap.size:=Zt (h 0 (by omega))
theorem Parts.alloc {w:World} {v:Value} {ls:List (List UInt8)} (h:Parts w v ls) (o:Obj):Parts (w.alloc o) v ls :=
 h.keep fun _ _ hc _=>(Mod.alloc (Mod.refl (fun _=>False) w) o).cell (Zt hc) (fun h=>h)

theorem Ta (g s m:Nat) (w:World) (hr:RunIs w g s m) :
  Calls Tryz.prog 60 #[.pointer (some ⟨g,0,none⟩)] w fun e w'=>e=.returned (.int .u32 s)/\w=w':=by
 have a:=hr.cell 0;go_enter Tryz.func60,Tryz.ntmps60
 go_wp2;go_ret;exact⟨rfl,rfl⟩
theorem TT (v:Value) (ls:List (List UInt8)) (w:World) (hm:total ls<=9223372036854775807) (ht:CrcTab w) (hp:Parts w v ls) :
  Calls Tryz.prog 37 #[v] w fun e w'=>e=.returned (.int .u32 (PCrc.of ls.flatten:Nat))/\Below w.heap.size w w':=by
 go_enter Tryz.func37,Tryz.ntmps37
 go_wp2_with fail
 have a:=ht.lt;refine(U9 w.heap.size 0 0 v ls _ (by omega) (by omega) (ht.alloc _) (Blk.new w _ _) (hp.alloc _) (by omega)).mono ?_;rintro e w' ⟨rfl,c,d⟩;go_wp2_with fail
 refine(Ta _ _ _ _ c).mono ?_;rintro e f ⟨rfl,rfl⟩;go_wp2_with fail
 go_ret;refine⟨rfl,?_⟩;exact(((Mod.refl (fun _=>False) w).alloc _).trans d (fun b hb a=>by omega)).below (Nat.le_refl _) (fun _ _ h=>h)
theorem Zf (l m:List UInt8):cells8 (l++m)=cells8 l++cells8 m:=by unfold cells8; rw [List.map_append]
theorem Xw {w:World} {A:Option Addr} {n c:Nat} {l:List UInt8} (h:Byt w (.slice A n c) l):Rd w A (cells8 l):=by
 obtain⟨b,d,e,a,_,_⟩:=h;injection e with e1 e2 e3
 subst e1;exact a
theorem Zp (l:List UInt8):(cells8 l).length=l.length * 1:=by unfold cells8; rw [List.length_map,Nat.mul_one]
theorem X7 (z:Int):∀u ∈ [Value.int .u8 z],u.oneCell'=true:=by intro u a; rw [List.mem_singleton.1 a]; rfl
theorem Ub (z y:Int):∀u ∈ [Value.int .u8 z,Value.int .u8 y],u.oneCell'=true:=by
 intro u a;rcases List.mem_cons.1 a with rfl | a
 ·rfl
 ·rw [List.mem_singleton.1 a]; rfl
theorem Ve {w:World} {g:Nat} {t:TypeId} {A:Option Addr} {n c:Nat} {l:List UInt8} (hB:Blk w g t [.slice A n c]) (hb:Byt w (.slice A n c) l):Parts w (.slice (some ⟨g,0,none⟩) 1 1) [l]:=by
 refine⟨some ⟨g,0,none⟩,1,[.slice A n c],rfl,Rd.of_blk hB,rfl,by simp [maxLen],fun u hu=>?_,fun i h1 h2=>?_⟩
 ·rw [List.mem_singleton.1 hu]; exact⟨_,_,_,rfl⟩
 ·match i with
  | 0=>exact hb
  | i+1=>simp at h1
theorem Xa {g:Nat} {t:TypeId} {A:Option Addr} {n c:Nat} {l:List UInt8} (H:Sp w0 L w) (k:Nat) (hk:L[k]?=some (Bk g t [.slice A n c])) (hb:Byt w (.slice A n c) l) (ht:CrcTab w) (hl:l.length<=1000000000) :
  Calls Tryz.prog 37 #[.slice (some ⟨g,0,none⟩) 1 1] w fun e w'=>e=.returned (.int .u32 (PCrc.of l:Nat))/\Sp w0 L w':=by
 refine(TT _ [l] w (by unfold total; simp; omega) ht (Ve (H.blk k hk) hb)).mono ?_;rintro _ w' ⟨rfl,a⟩;refine⟨by simp,(Below.keep a).sep H⟩
section
variable {P:Program} {Q:Exit->Act->World->Prop}
theorem putAll_defers (x:Nat->Value):∀(ds:List (Option Tmp)) (k:Nat) (a:Act),(putAll a ds k x).defers=a.defers
 | [],_,_=>rfl
 | d::ds,k,a=>by
  unfold putAll;rw [putAll_defers x ds (k+1) _];cases d <;> rfl
theorem Sp.sub {L rest:List Pr} (H:Sp w0 rest w) (hE:∀φ,Ent L φ->Ent rest φ):Sp w0 L w :=
 ⟨H.os,H.tape,H.output,hE (fun w=>∃own:Nat->Nat,∀(i:Nat) (A:Pr),L[i]?=some A->A (cut (hpOf w) own i)) (fun _ _ h=>h.own) _ _ H⟩
def freeAt4 (ds:List (Option Tmp)) (anc:List (List Nat)) (i t:Nat):Bool:=(List.range ds.length).all fun j=>if ds.getD j none=some t then (anc.getD j []).contains i else true
def StepsSr (P:Program) (Q:Exit->Act->World->Prop) (S:Nat->Value->Prop) (R:Nat->Value->List Pr) (I:Nat->List Pr) (ds:List (Option Tmp)) (ac:List (List Nat)) (env:List (Nat × Value)) (w0:World) (L:List Pr):Nat->List Oper->List (List Nat)->List (List Nat)->List (List Nat)->Prop
 | i,o::os,an::ans,us::uss,se::ses=>(∀(x:Nat->Value) (w:World) (A:Act) (rest:List Pr),
   A.defers=[]->(∀p,p ∈ env->freeAt4 ds ac i p.1=true->A.tmps[p.1]?.getD undef=p.2)->(∀j,j ∈ an->S j (x j)/\∀t,ds.getD j none=some t->A.tmps[t]?.getD undef=x j)->(∀φ,Ent L φ->Ent rest φ) ->
   Sp w0 (I i++(us.flatMap (fun j=>R j (x j))++(se.flatMap I++rest))) w ->
   ∀K:Act->World->Prop,(∀v w',S i v->Sp w0 (R i v++(se.flatMap I++rest)) w'->K (A.put o.dst v) w') ->
   StepOb P Q o x A w K)/\StepsSr P Q S R I ds ac env w0 L (i+1) os ans uss ses
 | _,[],[],[],[]=>True
 | _,_,_,_,_=>False
theorem stepsSr_get {S:Nat->Value->Prop} {R:Nat->Value->List Pr} {I:Nat->List Pr} {ds:List (Option Tmp)} {ac:List (List Nat)} {env:List (Nat × Value)} {w0:World} :
  ∀(l:List Oper) (k i:Nat) (o:Oper) (ans uss ses:List (List Nat)),StepsSr P Q S R I ds ac env w0 L k l ans uss ses->l[i]?=some o ->
  ∀(x:Nat->Value) (w:World) (A:Act) (rest:List Pr),
   A.defers=[]->(∀p,p ∈ env->freeAt4 ds ac (k+i) p.1=true->A.tmps[p.1]?.getD undef=p.2)->(∀j,j ∈ ans.getD i []->S j (x j)/\∀t,ds.getD j none=some t->A.tmps[t]?.getD undef=x j)->(∀φ,Ent L φ->Ent rest φ) ->
   Sp w0 (I (k+i)++((uss.getD i []).flatMap (fun j=>R j (x j))++((ses.getD i []).flatMap I++rest))) w ->
   ∀K:Act->World->Prop,(∀v w',S (k+i) v->Sp w0 (R (k+i) v++((ses.getD i []).flatMap I++rest)) w'->K (A.put o.dst v) w') ->
   StepOb P Q o x A w K
 | [],_,_,_,_,_,_,_,h=>by simp at h
 | o::os,k,i,o',[],uss,ses,hs,h=>by simp [StepsSr] at hs
 | o::os,k,i,o',an::ans,[],ses,hs,h=>by simp [StepsSr] at hs
 | o::os,k,i,o',an::ans,us::uss,[],hs,h=>by simp [StepsSr] at hs
 | o::os,k,0,o',an::ans,us::uss,se::ses,hs,h=>by
  have:o=o':=by simpa using h
  subst this;exact hs.1
 | o::os,k,i+1,o',an::ans,us::uss,se::ses,hs,h=>by
  have:=stepsSr_get os (k+1) i o' ans uss ses hs.2 (by simpa using h);rw [show k+1+i=k+(i+1) by omega] at this;exact this
theorem wp_region_sr {rid:Nat} {l:List Oper} {a0:Act} {w w0:World} {L:List Pr}
    (S:Nat->Value->Prop) (R:Nat->Value->List Pr) (I:Nat->List Pr) (n sz:Nat)
    (ds:List (Option Tmp)) (pre anc use see:List (List Nat)) (env:List (Nat × Value)) (hm:P.follows .mixedOrders=true)
    (hds:l.map (·.dst)=ds) (hdist:Distinct ds)
    (hpre:(l.map fun o=>(o.after.toList.filter (Region.binds .any ·)).map (·.on))=pre)
    (hn:pre.length=n) (hanc:ancOk pre anc=true) (hflow:flowOk n anc use see=true) (hgu:guardsOk l ds anc=true) (hanl:anc.length=n)
    (hdv:a0.defers=[]) (hsz:a0.tmps.size=sz) (hlt:ds.all (fun d=>match d with | some t=>decide (t<sz) | none=>true)=true)
    (henv:∀p,p ∈ env->a0.tmps[p.1]?.getD undef=p.2)
    (H:Sp w0 ((List.range n).flatMap I++L) w)
    (hstep:StepsSr P Q S R I ds anc env w0 L 0 l anc use see)
    (hend:∀(x:Nat->Value) (w:World) (A:Act),A=putAll a0 ds 0 x->(∀i,i<n->S i (x i)) ->
      Sp w0 ((List.range n).flatMap (fun i=>if (List.range n).any (fun k=>(use.getD k []).contains i) then [] else R i (x i))++L) w->Q .normal A w) :
    (Code.region rid l.toArray true).wp P Q a0 w:=by
  have hdl:ds.length=l.length:=by rw [<- hds]; simp
  have hpl:pre.length=l.length:=by rw [<- hpre]; simp
  refine wp_region_sp0 S R I n ds pre anc use see hm hds hdist hpre hn hanc hflow H (fun i o ho x w A rest hA hS hu hE hH=>?_) hend
  have hil:i<l.length:=(List.getElem?_eq_some_iff.1 ho).1
  have hslot:∀j,j<n->∀t,ds.getD j none=some t->A.tmps[t]?=some (x j):=fun j hj t ht=>by
    have hj' : j<ds.length:=by omega
    rw [List.getD_eq_getElem?_getD,List.getElem?_eq_getElem hj'] at ht
    simp only [Option.getD_some] at ht
    have htl:=List.all_eq_true.1 hlt _ (List.getElem_mem hj')
    rw [ht] at htl
    replace htl:t<sz:=by simpa using htl
    rw [hA,putAll_eval x ds 0 j t a0 hdist (by rw [List.getElem?_eq_getElem hj',ht]) (Nat.lt_of_lt_of_eq htl hsz.symm),Nat.zero_add]
  have hanlt:∀j,j ∈ anc.getD i []->j<n:=fun j hj=>by
    have h:=List.all_eq_true.1 hanc i (by simp; omega)
    simp only [Bool.and_eq_true] at h
    have:=List.all_eq_true.1 h.2 j hj
    simp only [Bool.and_eq_true,decide_eq_true_eq] at this
    omega
  have hob:=stepsSr_get l 0 i o anc use see hstep ho x w A rest (by rw [hA,putAll_defers]; exact hdv) (fun p hp hfr=>by
      rw [Nat.zero_add] at hfr
      rw [<- henv p hp,hA]
      by_cases hm:some p.1 ∈ ds
      · obtain⟨j,hj,hjt⟩:=List.getElem_of_mem hm
        have hfj:=List.all_eq_true.1 hfr j (by simpa using hj)
        have hdj:ds.getD j none=some p.1:=by rw [List.getD_eq_getElem?_getD,List.getElem?_eq_getElem hj,hjt]; rfl
        rw [if_pos hdj] at hfj
        have hb:=hu j (by simpa using hfj)
        have hpt:p.1<a0.tmps.size:=by
          have htl:=List.all_eq_true.1 hlt _ (List.getElem_mem hj)
          rw [hjt] at htl
          replace htl:p.1<sz:=by simpa using htl
          omega
        rw [putAll_eval x ds 0 j p.1 a0 hdist (by rw [List.getElem?_eq_getElem hj,hjt]) hpt,Nat.zero_add,hb]
        unfold base
        rw [hdj]
        show(some (a0.tmps.getD p.1 undef)).getD undef=_
        rw [Array.getD_eq_getD_getElem?]; rfl
      · rw [putAll_eval_far x p.1 ds 0 a0 hm]) (fun j hj=>⟨hS j hj,fun t ht=>by rw [hslot j (hanlt j hj) t ht]; rfl⟩) hE (by rw [Nat.zero_add]; exact hH)
    (Gave w0 S R i A o.dst ((see.getD i []).flatMap I++rest)) (fun v w' h1 h2=>⟨v,rfl,by rwa [Nat.zero_add] at h1,by rwa [Nat.zero_add] at h2⟩)
  unfold StepOb at hob
  unfold wpList
  cases hg:o.guard with
  | none =>
    rw [hg] at hob
    have hw:Region.wanted o (yielded l.toArray A.tmps)=true:=by simp [Region.wanted,hg]
    rw [if_pos hw]
    refine .inl ?_
    refine Oper.wp_mono (fun a w h=>?_) (upon_exits' hob)
    exact h
  | some p =>
    obtain⟨j,b⟩:=p
    rw [hg] at hob
    obtain⟨c,hc,hob⟩:=hob
    have hg2:=List.all_eq_true.1 hgu (o,anc.getD i []) (by
      rw [List.mem_iff_getElem?]
      refine⟨i,?_⟩
      rw [List.getElem?_zip_eq_some]
      refine⟨ho,?_⟩
      rw [List.getD_eq_getElem?_getD,List.getElem?_eq_getElem (by omega)]; rfl)
    simp only [hg,Bool.and_eq_true,List.contains_iff_mem] at hg2
    obtain⟨hja,hjs⟩:=hg2
    have hjn:=hanlt j hja
    obtain⟨t,ht⟩:=Option.isSome_iff_exists.1 hjs
    have hy:yielded l.toArray A.tmps j=c:=by
      unfold yielded
      have hdj:(l.toArray[j]?).bind (·.dst)=some t:=by
        have hj' : j<ds.length:=by omega
        rw [List.getD_eq_getElem?_getD,List.getElem?_eq_getElem hj'] at ht
        simp only [Option.getD_some] at ht
        subst hds
        have hj2:j<l.length:=by simpa using hj'
        rw [List.getElem_map] at ht
        simp [hj2,ht]
      rw [hdj]
      simp only [Option.bind_some,hslot j hjn t ht]
      rw [<- hc]
      cases x j <;> rfl
    have hw:Region.wanted o (yielded l.toArray A.tmps)=(c == some b):=by simp [Region.wanted,hg,hy]
    rw [hw]
    by_cases hcb:c=some b
    · rw [if_pos hcb] at hob
      rw [if_pos (by simp [hcb])]
      exact .inl (upon_exits' hob)
    · rw [if_neg hcb] at hob
      rw [if_neg (by simpa using hcb)]
      exact hob
end
end Go.Proofs.YtnjpnmpemhldcaaGreatDoor

