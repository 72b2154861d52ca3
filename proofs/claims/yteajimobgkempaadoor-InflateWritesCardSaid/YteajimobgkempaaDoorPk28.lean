/- A pack. -/
import Derived.Test.YteajimobgkempaaDoorPk27
set_option linter.all false
set_option maxRecDepth 100000
set_option maxHeartbeats 8000000
namespace Go.Proofs.YteajimobgkempaaDoor
variable {w0 w:World} {L:List Pr}
open Go.RowKit
def DvR (T:Except Nat (Nat × Nat)) (e x a' e' : Nat):Prop:=(e'=0/\e=0/\T=.ok (a',x))∨(e'≠0/\x=0/\((e=0/\T=.error e')∨(e≠0/\e'=e)))
theorem DvR.of_end {w0 w' : World} {g:Nat} {V O:Value} {most:Nat} {bl:Value} {T:Except Nat (Nat × Nat)} {e:Ending} (k:DvEnd w0 L g V O most bl T e w') :
  ∃x a' e' : Nat,e=.returned (.int .i64 x)/\Sp w0 (SmB g V a' O most bl e'::L) w'/\DvR T 0 x a' e':=by
 cases T with
 | ok r=>exact⟨r.2,r.1,0,k.1,k.2,.inl ⟨rfl,rfl,rfl⟩⟩
 | error er =>
  obtain⟨h,a,b,c⟩:=k;exact⟨0,a,er,b,c,.inr ⟨h,rfl,.inl ⟨rfl,rfl⟩⟩⟩
def Fct (φ:Prop) (A:Pr):Pr:=fun h=>φ/\A h
theorem Sp.fct {φ:Prop} {A:Pr} (H:Sp w0 (Fct φ A::L) w):φ/\Sp w0 (A::L) w:=by
 obtain⟨b,c,d,own,a⟩:=H;obtain⟨hφ,e⟩:=a 0 _ rfl;refine⟨hφ,b,c,d,own,fun i C hi=>?_⟩
 match i with
 | 0 =>
  obtain rfl:A=C:=by simpa using hi
  exact e
 | i+1=>exact a (i+1) C (by simpa using hi)
theorem Sp.toFct {φ:Prop} {A:Pr} (h:φ) (H:Sp w0 (A::L) w):Sp w0 (Fct φ A::L) w:=by
 obtain⟨b,c,d,own,a⟩:=H;refine⟨b,c,d,own,fun i C hi=>?_⟩
 match i with
 | 0 =>
  obtain rfl:Fct φ A=C:=by simpa using hi
  exact⟨h,a 0 _ rfl⟩
 | i+1=>exact a (i+1) C (by simpa using hi)
section
variable (g:Nat) (A:Option Addr) (n c:Nat) (B:List UInt8) (at_:Nat) (O:Value) (most:Nat) (bl:Value) (e:Nat) {w0 w:World} {L:List Pr}
theorem vnumber_any (k:Nat) (H:Sp w0 (SmB g (.slice A n c) at_ O most bl e::L) w) (hn:n=B.length) (hnm:n<=1000000) (hat:e=0->at_<=8 * n) (hk:k<=16) (hb:Ent L fun w=>Byt w (.slice A n c) B) :
  Calls Tryd.prog 38 #[.pointer (some ⟨g,0,none⟩),.int .i64 k] w fun r w'=>∃x a' e' : Nat,r=.returned (.int .i64 x)/\Sp w0 (SmB g (.slice A n c) a' O most bl e'::L) w'/\x<2 ^ k/\DvR (PI.number (PBits.ofB B) at_ k) e x a' e':=by
 by_cases h:e=0
 ·subst h;refine(Zt g A n c B at_ O most bl k H hn hnm (hat rfl) hk hb).mono fun r w' q=>?_;obtain⟨x,a',e',b,d,a⟩:=DvR.of_end q;refine⟨x,a',e',b,d,?_,a⟩;rcases a with ⟨_,_,a⟩ | ⟨_,a,_⟩
  ·have:=(PI.number_ok a).1;injection this with _ h4
   rw [h4]; exact PI.numAt_lt _ _ _
  ·rw [a]; exact Nat.two_pow_pos _
 ·exact(vnumber_dead g (.slice A n c) at_ O most bl k e h hk H).mono fun r w' ⟨b,d⟩=>⟨0,at_,e,b,d,Nat.two_pow_pos _,.inr ⟨h,rfl,.inr ⟨h,rfl⟩⟩⟩
theorem vfail_any (cd:Nat) (V:Value) (H:Sp w0 (SmB g V at_ O most bl e::L) w) :
  Calls Tryd.prog 43 #[.pointer (some ⟨g,0,none⟩),.int .i64 cd] w fun r w'=>r=.returned (.tuple #[])/\Sp w0 (SmB g V at_ O most bl (if e=0 then cd else e)::L) w':=by
 by_cases h:e=0
 ·subst h;rw [if_pos rfl];exact vfail_ok g V at_ O most bl cd H
 ·rw [if_neg h];exact Zx g V at_ O most bl cd e h H
def BkR (A:Option Addr) (n c:Nat) (m:List Nat) (d:Nat) (p q:Value) (r e' : Nat) (X:Pr):Prop :=
 (PI.book m=true/\e'=d/\p=.slice A n c/\∃C k,q=.slice C n k/\r=PI.mostN m/\X=Row 47 1 (.slice C n k) n (rowU (PH.codeAt m) n))∨(PI.book m=false/\e'=(if d=0 then 20 else d)/\p=.slice none 0 0/\q=.slice none 0 0/\r=0)
theorem vbook_any (V:Value) (m:List Nat) (H:Sp w0 (SmB g V at_ O most bl e::L) w) (hn:n=m.length) (hnl:n<=1000000) (hb:Ent L fun w=>Rd w A (cells64 (castI m))) :
  Calls Tryd.prog 69 #[.pointer (some ⟨g,0,none⟩),.slice A n c] w fun z w'=>∃p q r e' X,z=.returned (.agg #[p,q,.int .i64 (r:Nat)])/\Sp w0 (SmB g V at_ O most bl e'::X::L) w'/\(p.oneCell'=true/\q.oneCell'=true)/\BkR A n c m e p q r e' X:=by
 cases hbk:PI.book m with
 | true =>
  refine(Z4 g V at_ O most bl A n c e m H hn hnl hb hbk).mono fun z w' ⟨C,k,h1,h2⟩=>?_;exact⟨_,_,_,e,_,h1,h2,⟨rfl,rfl⟩,.inl ⟨hbk,rfl,rfl,C,k,rfl,rfl,rfl⟩⟩
 | false =>
  refine(Wf g V at_ O most bl A n c (castI m) e (if e=0 then 20 else e) (fun w0 w L H=>vfail_any g at_ O most bl e 20 V H) H (by rw [hn]; simp [castI]) hnl hb hbk).mono fun z w' ⟨h1,h2⟩=>?_;exact⟨_,_,0,_,_,h1,(h2.rowNil 47 1).swap,⟨rfl,rfl⟩,.inr ⟨hbk,rfl,rfl,rfl,rfl⟩⟩
end
end Go.Proofs.YteajimobgkempaaDoor

