/- A pack of texts: InfL InfM InfN InfTells InfEnd InfKnownM. -/
import Derived.Defers
import Derived.OwnWalk
import Derived.Recover
import Derived.Test.YtiogaejfcenooaaDoorPk18
import Derived.Test.YtiogaejfcenooaaDoorPk32
import Derived.Test.YtiogaejfcenooaaDoorPk34
namespace Go.Proofs.YtiogaejfcenooaaDoor
set_option linter.unusedVariables false
set_option linter.unusedSimpArgs false
open Go.RowKit
set_option maxRecDepth 100000 in
set_option maxHeartbeats 4000000 in
theorem assert_err (v : Value) (W : World) : (Instr.typeAssert (.iface 27 v) 20 27 true).run Tryd.prog W = .ok (.tuple #[v, .bool true]) W := by kernel_rfl
set_option maxRecDepth 100000 in
set_option maxHeartbeats 4000000 in
theorem xcatch_pan (px pe c : Nat) (v0 e0 : Value) (w : World) (hx : w.cell? ⟨px, 0, none⟩ = some v0) (zx : w.frozen? ⟨px, 0, none⟩ = false) (he : (w.setCell ⟨px, 0, none⟩ (.pointer none)).cell? ⟨pe, 0, none⟩ = some e0) (ze : (w.setCell ⟨px, 0, none⟩ (.pointer none)).frozen? ⟨pe, 0, none⟩ = false) :
  CallsD Tryd.prog 45 #[.pointer (some ⟨px, 0, none⟩), .pointer (some ⟨pe, 0, none⟩)] (.panicking (pan c)) w fun e u' w' =>
   e = .returned (.tuple #[]) ∧ u' = .panicking [{ v := .iface 27 (.int .i64 (c : Int)), recovered := true }] ∧ w' = (w.setCell ⟨px, 0, none⟩ (.pointer none)).setCell ⟨pe, 0, none⟩ (.int .i64 (c : Int)) := by
 refine callsD_of_wpS Tryd.func45 rfl fun c₀ cs hu => ?_
 unfold pan at hu
 have hta := assert_err (.int .i64 (c : Int))
 apply wpS_seq
 apply wpS_region
 simp [wpOpsS, go_sem, recoverD, hu, Tryd.ntmps45, Exit.thenS]
 refine wpS_of_wp ?_
 go_wp2
 simp [bodyPostS, results, Tryd.results45]
set_option maxHeartbeats 4000000 in
theorem xcatch_idle (px pe : Nat) (w : World) :
  CallsD Tryd.prog 45 #[.pointer (some ⟨px, 0, none⟩), .pointer (some ⟨pe, 0, none⟩)] .returning w fun e u' w' => e = .returned (.tuple #[]) ∧ u' = .returning ∧ w' = w := by
 refine callsD_of_wpS Tryd.func45 rfl fun c₀ cs hu => ?_
 apply wpS_seq
 apply wpS_region
 simp [wpOpsS, go_sem, recoverD, hu, Tryd.ntmps45, Exit.thenS]
 refine wpS_of_wp ?_
 go_wp2
 cases c₀
 simp_all [bodyPostS, results, Tryd.results45]
end Go.Proofs.YtiogaejfcenooaaDoor

namespace Go.Proofs.YtiogaejfcenooaaDoor
set_option linter.unusedVariables false
set_option linter.unusedSimpArgs false
open Go.RowKit
namespace PI
theorem blocks_step {B : List Bool} {most f a : Nat} {out : List UInt8} {bl : List Blk} : blocks B most (f + 1) a out bl = (block B most a out).bind fun r =>
  if r.1 then .ok (r.2.2.1, r.2.2.2, bl ++ [⟨r.2.1, r.1, out.length, r.2.2.2.length⟩]) else blocks B most f r.2.2.1 r.2.2.2 (bl ++ [⟨r.2.1, r.1, out.length, r.2.2.2.length⟩]) := rfl
end PI
def Xd (gx : Nat) (l : List UInt8) (most : Nat) (r : Nat × List UInt8 × List PI.Blk) : Pr := Ex fun gr : Nat => Ex fun vo : Value => Ex fun vb : Value => Star (Rr gr l r.1) (Star (XpB gx gr vo most vb) (Star (Row 5 1 vo r.2.1.length (cells8 r.2.1)) (Row 40 4 vb r.2.2.length (cellsB r.2.2))))
def XEnd (w0 : World) (L : List Pr) (l : List UInt8) (most : Nat) (T : Except Nat (Nat × List UInt8 × List PI.Blk)) (e : Ending) (w' : World) : Prop :=
 match T with
 | .error c => e = .returned (.tuple #[.pointer none, .int .i64 (c : Int)]) ∧ Sp w0 L w'
 | .ok r => ∃ gx, e = .returned (.tuple #[.pointer (some ⟨gx, 0, none⟩), .int .i64 0]) ∧ Sp w0 (Xd gx l most r :: L) w'
theorem XEnd.no {w0 : World} {L : List Pr} {l : List UInt8} {most : Nat} {T : Except Nat (Nat × List UInt8 × List PI.Blk)} {w' : World} {c : Nat} (h : T = .error c) (H : Sp w0 L w') : XEnd w0 L l most T (.returned (.tuple #[.pointer none, .int .i64 (c : Int)])) w' := by
 subst h; exact ⟨rfl, H⟩
theorem XEnd.yes {w0 : World} {L : List Pr} {l : List UInt8} {most : Nat} {T : Except Nat (Nat × List UInt8 × List PI.Blk)} {w' : World} {r : Nat × List UInt8 × List PI.Blk} {gx : Nat} (h : T = .ok r) (H : Sp w0 (Xd gx l most r :: L) w') : XEnd w0 L l most T (.returned (.tuple #[.pointer (some ⟨gx, 0, none⟩), .int .i64 0])) w' := by
 subst h; exact ⟨gx, rfl, H⟩
set_option maxRecDepth 100000 in
set_option maxHeartbeats 4000000 in
theorem xexpand_arg (v : Value) (m : Int) {w0 w : World} {L : List Pr} (H : Sp w0 L w) (hm : m < 0) :
  Calls Tryd.prog 31 #[v, .int .i64 m] w fun e w' => e = .returned (.tuple #[.pointer none, .int .i64 1]) ∧ Sp w0 L w' := by
 have hmf : ∀ (fn : Fn) (first cap : Array Value) (w : World), (Instr.makeFunc fn first cap).run Tryd.prog w = .ok (.func fn first cap) w := fun _ _ _ _ => rfl
 have es : (w.alloc (.cells #[.pointer none] 75)).heap.size = w.heap.size + 1 := Array.size_push _
 have H1 := (H.newBk [.pointer none] 75).newBk [.int .i64 1] 27
 rw [es] at H1
 clear es
 go_enter_defers Tryd.func31, Tryd.ntmps31
 go_wp2
 generalize w.heap.size + 1 = pe at H1 ⊢
 generalize w.heap.size = px at H1 ⊢
 have r1 := H1.cell 0 rfl 0
 have r2 := H1.cell 1 rfl 0
 change bodyPostD _ _ _ _ _ ((w.alloc (.cells [.pointer none].toArray 75)).alloc (.cells [.int .i64 1].toArray 27))
 generalize (w.alloc _).alloc _ = w1 at H1 r1 r2 ⊢
 simp [bodyPostD, Leaves, settle, results, Tryd.results31, go_sem, r1, r2]
 exact H1.tail2
set_option maxRecDepth 100000 in
set_option maxHeartbeats 8000000 in
theorem xexpand_ok (v : Value) (l : List UInt8) (most : Nat) (TL TA : Option Addr) (cl ca : Nat) {w0 w : World} {L : List Pr} (H : Sp w0 L w) (hb : Ent L fun w => Byt w v l) (hl : l.length ≤ 100000000) (hm : most ≤ 1000000000) (hT : Ent L (Tabs TL TA cl ca)) :
  Calls Tryd.prog 31 #[v, .int .i64 (most : Int)] w (XEnd w0 L l most (PI.all (PBits.ofB l) most)) := by
 obtain ⟨T, hTT⟩ : ∃ T, PI.all (PBits.ofB l) most = T := ⟨_, rfl⟩
 rw [hTT]
 unfold PI.all at hTT
 have HT0 := Lib.hid hTT
 have HL := Lib.hid hl
 have HTB := Lib.hid hT
 have HM := Lib.hid hm
 have hmf : ∀ (fn : Fn) (first cap : Array Value) (w : World), (Instr.makeFunc fn first cap).run Tryd.prog w = .ok (.func fn first cap) w := fun _ _ _ _ => rfl
 have k0 : ¬ (most : Int) < 0 := by omega
 have es : (w.alloc (.cells #[.pointer none] 75)).heap.size = w.heap.size + 1 := Array.size_push _
 have H1 := (H.newBk [.pointer none] 75).newBk [.int .i64 0] 27
 rw [es] at H1
 clear es
 have HB := Lib.hid hb
 clear hTT hT hb hm hl
 go_enter_defers Tryd.func31, Tryd.ntmps31
 go_wp2_with fail
 generalize w.heap.size + 1 = pe at H1 ⊢
 generalize w.heap.size = px at H1 ⊢
 generalize (w.alloc _).alloc _ = w1 at H1 ⊢
 refine (newReader_ok (l := l) H1 (HB.out _ _ (H1.pick 2 [])) (by have := HL.out; omega)).mono ?_
 rintro _ w2 ⟨_, rfl, gr, rfl, H2⟩
 obtain ⟨gx, hgx⟩ : ∃ gx, w2.heap.size = gx := ⟨_, rfl⟩
 have H3 := H2.newBk [.pointer (some ⟨gr, 0, none⟩), .slice none 0 0, .int .i64 (most : Int), .slice none 0 0] 80
 rw [hgx] at H3
 have H4 := (H3.pick 4 [3, 0, 1, 2])
 have c4 : (w2.alloc (.cells #[.pointer (some ⟨gr, 0, none⟩), .slice none 0 0, .int .i64 (most : Int), .slice none 0 0] 80)).cell? ⟨px, 0, none⟩ = some (.pointer none) := H4.cell 0 rfl 0
 have z4 : (w2.alloc (.cells #[.pointer (some ⟨gr, 0, none⟩), .slice none 0 0, .int .i64 (most : Int), .slice none 0 0] 80)).frozen? ⟨px, 0, none⟩ = false := H4.frozen 0 rfl 0
 have H5 := H4.set 0 (.pointer (some ⟨gx, 0, none⟩))
 have H6 := (((H5.pick 4 [2, 1, 0, 3]).rowNil 40 4).rowNil 5 1)
 have H7 : Sp w0 (Rr gr l 0 :: XpB gx gr (.slice none 0 0) most (.slice none 0 0) :: Row 5 1 (.slice none 0 0) 0 [] :: Row 40 4 (.slice none 0 0) 0 [] :: Bk px 75 [.pointer (some ⟨gx, 0, none⟩)] :: Bk pe 27 [.int .i64 0] :: L) _ := H6.pick 6 [2, 3, 0, 1, 4, 5]
 have HH7 := Lib.hid H7
 clear H H1 H2 H3 H4 H5 H6 H7
 go_wp2_with fail
 generalize World.setCell _ _ _ = w5 at HH7 ⊢
 go_loopw [] (fun wr => ∃ (a f : Nat) (vo vb : Value) (out : List UInt8) (bl : List PI.Blk), a ≤ 8 * l.length ∧ 8 * l.length < a + f ∧ out.length ≤ most ∧ bl.length ≤ a ∧ PI.blocks (PBits.ofB l) most f a out bl = T ∧ Sp w0 (Rr gr l a :: XpB gx gr vo most vb :: Row 5 1 vo out.length (cells8 out) :: Row 40 4 vb bl.length (cellsB bl) :: Bk px 75 [.pointer (some ⟨gx, 0, none⟩)] :: Bk pe 27 [.int .i64 0] :: L) wr) (fun wr => 8 * l.length + 1 - atOf gr wr)
 case atStart => exact ⟨0, (PBits.ofB l).length + 1, _, _, [], [], Nat.zero_le _, by rw [PBits.ofB_length]; omega, Nat.zero_le _, Nat.zero_le _, HT0.out, HH7.out⟩
 case round =>
  obtain ⟨a, f, vo, vb, out, bl, haa, hf, hol, hbl, hst, H1⟩ := hrel
  clear HH7 HT0
  obtain ⟨f, rfl⟩ : ∃ f', f = f' + 1 := ⟨f - 1, by omega⟩
  rw [PI.blocks_step] at hst
  have HST := Lib.hid hst
  have HA : Hid (atOf gr wr = a) := Lib.hid (atOf_rr H1)
  have hq := xblock_ok gx gr l out bl most a vo vb TL TA cl ca H1 haa HL.out hol HM.out (by have := HL.out; omega) (fun w0 w h => HTB.out w0 w (h.pick 2 []))
  have HQ := Lib.hid hq
  have c1 : wr.cell? ⟨px, 0, none⟩ = some (.pointer (some ⟨gx, 0, none⟩)) := H1.cell 4 rfl 0
  clear hst hq
  go_wp2_with fail
  refine HQ.out.mono ?_
  intro e9 w2 h9
  unfold XPost at h9
  cases hr : PI.block (PBits.ofB l) most a out with
  | error c =>
   rw [hr] at h9
   obtain ⟨rfl, H2⟩ := h9
   have HE : T = .error c := by rw [← HST.out, hr]; rfl
   have d1 : w2.cell? ⟨px, 0, none⟩ = some (.pointer (some ⟨gx, 0, none⟩)) := H2.cell 0 rfl 0
   have z1 : w2.frozen? ⟨px, 0, none⟩ = false := H2.frozen 0 rfl 0
   have H3 := (H2.set 0 (.pointer none)).swap
   have d2 : (w2.setCell ⟨px, 0, none⟩ (.pointer none)).cell? ⟨pe, 0, none⟩ = some (.int .i64 0) := H3.cell 0 rfl 0
   have z2 : (w2.setCell ⟨px, 0, none⟩ (.pointer none)).frozen? ⟨pe, 0, none⟩ = false := H3.frozen 0 rfl 0
   have H4 := H3.set 0 (.int .i64 (c : Int))
   clear hr HQ HST
   go_wp2_with fail
   refine leaves_cons (f := 45) (args := #[.pointer (some ⟨px, 0, none⟩), .pointer (some ⟨pe, 0, none⟩)]) (by simp) (by simp [go_sem]) ?_
   refine (xcatch_pan px pe c _ _ _ d1 z1 d2 z2).mono ?_
   rintro e u' w'' ⟨rfl, rfl, rfl⟩
   have r1 := H4.cell 0 rfl 0
   have r2 := H4.cell 1 rfl 0
   generalize World.setCell _ _ _ = w9 at H4 r1 r2 ⊢
   simp [Leaves, settle, results, Tryd.results31, go_sem, r1, r2]
   exact XEnd.no HE H4.tail2
  | ok r =>
   obtain ⟨lb, kd, a2, out2⟩ := r
   rw [hr] at h9
   obtain ⟨rfl, vo2, vb2, H2⟩ := h9
   obtain ⟨q1, q2, q3, q4⟩ := PI.block_ok hol hr
   rw [PBits.ofB_length] at q2
   have HE : Hid ((if lb = true then .ok (a2, out2, bl ++ [⟨kd, lb, out.length, out2.length⟩]) else PI.blocks (PBits.ofB l) most f a2 out2 (bl ++ [⟨kd, lb, out.length, out2.length⟩])) = T) := by rw [← HST.out, hr]; exact Lib.hid rfl
   simp only at H2 q1 q2 q3 q4
   clear hr HQ HST H1 c1
   cases lb with
   | false =>
    go_wp2_with fail
    go_roundw
    case rel =>
     refine ⟨a2, f, vo2, vb2, out2, bl ++ [⟨kd, false, out.length, out2.length⟩], q2, by omega, q3, by rw [List.length_append, List.length_singleton]; omega, by have h := HE.out; rw [if_neg (by decide)] at h; exact h, ?_⟩
     rw [List.length_append, List.length_singleton]
     exact H2
    case measure =>
     have := atOf_rr H2
     rw [this, HA.out]
     omega
   | true =>
    have HE2 : T = .ok (a2, out2, bl ++ [⟨kd, true, out.length, out2.length⟩]) := by have h := HE.out; rw [if_pos rfl] at h; exact h.symm
    have d1 : w2.cell? ⟨px, 0, none⟩ = some (.pointer (some ⟨gx, 0, none⟩)) := H2.cell 4 rfl 0
    have z1 : w2.frozen? ⟨px, 0, none⟩ = false := H2.frozen 4 rfl 0
    have H3 := ((H2.pick 6 [4, 5, 0, 1, 2, 3]).set 0 (.pointer (some ⟨gx, 0, none⟩))).swap
    have d2 : (w2.setCell ⟨px, 0, none⟩ (.pointer (some ⟨gx, 0, none⟩))).cell? ⟨pe, 0, none⟩ = some (.int .i64 0) := H3.cell 0 rfl 0
    have z2 : (w2.setCell ⟨px, 0, none⟩ (.pointer (some ⟨gx, 0, none⟩))).frozen? ⟨pe, 0, none⟩ = false := H3.frozen 0 rfl 0
    have H4 := H3.set 0 (.int .i64 0)
    have HH4 := Lib.hid H4
    clear H2 H3 H4
    go_wp2_with fail
    refine leaves_cons (f := 45) (args := #[.pointer (some ⟨px, 0, none⟩), .pointer (some ⟨pe, 0, none⟩)]) (by simp) (by simp [go_sem]) ?_
    refine (xcatch_idle px pe _).mono ?_
    rintro e u' w'' ⟨rfl, rfl, rfl⟩
    have H5 := HH4.out
    have r1 := H5.cell 0 rfl 0
    have r2 := H5.cell 1 rfl 0
    generalize World.setCell _ _ _ = w9 at H5 r1 r2 ⊢
    simp [Leaves, settle, results, Tryd.results31, go_sem, r1, r2]
    have H6 := H5.pick 6 [2, 3, 4, 5]
    refine XEnd.yes HE2 ?_
    have e : (bl ++ [⟨kd, true, out.length, out2.length⟩] : List PI.Blk).length = bl.length + 1 := by rw [List.length_append]; rfl
    rw [← e] at H6
    exact Sp.ex gr (Sp.ex vo2 (Sp.ex vb2 (((H6.pick 4 [2, 3, 0, 1]).star.pick 3 [2, 0, 1]).star.swap.star)))
theorem xd_open {gx : Nat} {l : List UInt8} {most : Nat} {r : Nat × List UInt8 × List PI.Blk} {w0 w : World} {L : List Pr} (H : Sp w0 (Xd gx l most r :: L) w) :
  ∃ gr vo vb, Sp w0 (Rr gr l r.1 :: XpB gx gr vo most vb :: Row 5 1 vo r.2.1.length (cells8 r.2.1) :: Row 40 4 vb r.2.2.length (cellsB r.2.2) :: L) w := by
 obtain ⟨gr, H⟩ := H.unex
 obtain ⟨vo, H⟩ := H.unex
 obtain ⟨vb, H⟩ := H.unex
 exact ⟨gr, vo, vb, ((H.unstar.swap.unstar.pick 3 [1, 0, 2]).unstar.pick 4 [3, 2, 0, 1])⟩
end Go.Proofs.YtiogaejfcenooaaDoor

namespace Go.Proofs.YtiogaejfcenooaaDoor
set_option linter.unusedVariables false
set_option linter.unusedSimpArgs false
open Go.RowKit
def AEnd (w0 : World) (L : List Pr) (T : Except Nat (Nat × List UInt8 × List PI.Blk)) (e : Ending) (w' : World) : Prop :=
 match T with
 | .error c => e = .returned (.tuple #[.slice none 0 0, .int .i64 0, .int .i64 (c : Int)]) ∧ Sp w0 L w'
 | .ok r => ∃ vo, e = .returned (.tuple #[vo, .int .i64 (((r.1 + 7) / 8 : Nat) : Int), .int .i64 0]) ∧ Sp w0 (Row 5 1 vo r.2.1.length (cells8 r.2.1) :: L) w'
def BEnd (w0 : World) (L : List Pr) (T : Except Nat (Nat × List UInt8 × List PI.Blk)) (e : Ending) (w' : World) : Prop :=
 match T with
 | .error c => e = .returned (.tuple #[.slice none 0 0, .int .i64 (c : Int)]) ∧ Sp w0 L w'
 | .ok r => ∃ vb, e = .returned (.tuple #[vb, .int .i64 0]) ∧ Sp w0 (Row 40 4 vb r.2.2.length (cellsB r.2.2) :: L) w'
theorem AEnd.no {w0 : World} {L : List Pr} {T : Except Nat (Nat × List UInt8 × List PI.Blk)} {w' : World} {c : Nat} (h : T = .error c) (H : Sp w0 L w') : AEnd w0 L T (.returned (.tuple #[.slice none 0 0, .int .i64 0, .int .i64 (c : Int)])) w' := by
 subst h; exact ⟨rfl, H⟩
theorem AEnd.yes {w0 : World} {L : List Pr} {T : Except Nat (Nat × List UInt8 × List PI.Blk)} {w' : World} {r : Nat × List UInt8 × List PI.Blk} {vo : Value} {n : Int} (h : T = .ok r) (hn : n = (((r.1 + 7) / 8 : Nat) : Int)) (H : Sp w0 (Row 5 1 vo r.2.1.length (cells8 r.2.1) :: L) w') : AEnd w0 L T (.returned (.tuple #[vo, .int .i64 n, .int .i64 0])) w' := by
 subst h hn; exact ⟨vo, rfl, H⟩
theorem BEnd.no {w0 : World} {L : List Pr} {T : Except Nat (Nat × List UInt8 × List PI.Blk)} {w' : World} {c : Nat} (h : T = .error c) (H : Sp w0 L w') : BEnd w0 L T (.returned (.tuple #[.slice none 0 0, .int .i64 (c : Int)])) w' := by
 subst h; exact ⟨rfl, H⟩
theorem BEnd.yes {w0 : World} {L : List Pr} {T : Except Nat (Nat × List UInt8 × List PI.Blk)} {w' : World} {r : Nat × List UInt8 × List PI.Blk} {vb : Value} (h : T = .ok r) (H : Sp w0 (Row 40 4 vb r.2.2.length (cellsB r.2.2) :: L) w') : BEnd w0 L T (.returned (.tuple #[vb, .int .i64 0])) w' := by
 subst h; exact ⟨vb, rfl, H⟩
set_option maxRecDepth 100000 in
set_option maxHeartbeats 4000000 in
theorem xall_ok (v : Value) (l : List UInt8) (most : Nat) (TL TA : Option Addr) (cl ca : Nat) {w0 w : World} {L : List Pr} (H : Sp w0 L w) (hb : Ent L fun w => Byt w v l) (hl : l.length ≤ 100000000) (hm : most ≤ 1000000000) (hT : Ent L (Tabs TL TA cl ca)) :
  Calls Tryd.prog 11 #[v, .int .i64 (most : Int)] w (AEnd w0 L (PI.all (PBits.ofB l) most)) := by
 have HX := Lib.hid (xexpand_ok v l most TL TA cl ca H hb hl hm hT)
 clear hT hb
 go_enter Tryd.func11, Tryd.ntmps11
 go_wp2_with fail
 refine HX.out.mono ?_
 intro e9 w1 h9
 unfold XEnd at h9
 cases hr : PI.all (PBits.ofB l) most with
 | error c =>
  rw [hr] at h9
  obtain ⟨rfl, H1⟩ := h9
  have hc := PI.all_err hr
  have k1 : ((c : Int) != 0) = true := by simp; omega
  have k1' : ¬ (c : Int) = 0 := by omega
  have HE := Lib.hid hr
  clear hr HX hc
  go_wp2_with fail
  go_ret3
  exact AEnd.no HE.out H1
 | ok r =>
  rw [hr] at h9
  obtain ⟨gx, rfl, H1⟩ := h9
  obtain ⟨gr, vo, vb, H2⟩ := xd_open H1
  obtain ⟨at_, out, bl⟩ := r
  simp only at H2
  obtain ⟨VO, vc, rfl, hvn, hvm⟩ := Row.form H2 2 rfl
  have hat := (PI.all_pos hr).1
  rw [PBits.ofB_length] at hat
  simp only at hat
  obtain ⟨A3, e3, H3, hb3, r0, r1, r2⟩ := rr_open H2
  have d0 : w1.cell? ⟨gx, 0, none⟩ = some (.pointer (some ⟨gr, 0, none⟩)) := H2.cell 1 rfl 0
  have d1 : w1.cell? ⟨gx, 1, none⟩ = some (.slice VO out.length vc) := H2.cell 1 rfl 1
  have HE := Lib.hid hr
  obtain ⟨n8, hn8⟩ : ∃ n8, (at_ + 7) / 8 = n8 := ⟨_, rfl⟩
  obtain ⟨n7, hn7⟩ : ∃ n7, at_ + 7 = n7 := ⟨_, rfl⟩
  have y0 : (at_ : Int) + 7 = (n7 : Int) := by omega
  have y1 : (n7 : Int) / 8 = (n8 : Int) := by omega
  have HN8 := Lib.hid hn8
  have Q : Hid (∀ m : Nat, Calls Tryd.prog 32 #[.pointer (some ⟨gr, 0, none⟩)] (w1.drewN m) fun e w' => e = .returned (.int .i64 (at_ : Int)) ∧ w' = w1.drewN m) := Lib.hid fun m => (at_ok gr at_ (w := w1.drewN m) r1 r2).mono fun _ _ h => ⟨h.1, h.2.symm⟩
  clear hr HX H1 H3 hb3 r0 hn8 hn7
  go_wp2_with fail
  go_quiet ((go_at_call 32; exact Calls.quiet_of_same (Q.out _)))
  have H4 := H2.drewN nq
  generalize w1.drewN nq = w7 at H4 ⊢
  go_wp2
  go_ret3
  refine AEnd.yes HE.out (by rw [← HN8.out]) ?_
  exact H4.pick 4 [2]
theorem xall_arg (v : Value) (m : Int) {w0 w : World} {L : List Pr} (H : Sp w0 L w) (hm : m < 0) :
  Calls Tryd.prog 11 #[v, .int .i64 m] w fun e w' => e = .returned (.tuple #[.slice none 0 0, .int .i64 0, .int .i64 1]) ∧ Sp w0 L w' := by
 have HX := Lib.hid (xexpand_arg v m H hm)
 go_enter Tryd.func11, Tryd.ntmps11
 go_wp2_with fail
 refine HX.out.mono ?_
 rintro e9 w1 ⟨rfl, H1⟩
 clear HX
 go_wp2_with fail
 go_ret3
 exact ⟨rfl, H1⟩
set_option maxRecDepth 100000 in
set_option maxHeartbeats 4000000 in
theorem xblocks_ok (v : Value) (l : List UInt8) (most : Nat) (TL TA : Option Addr) (cl ca : Nat) {w0 w : World} {L : List Pr} (H : Sp w0 L w) (hb : Ent L fun w => Byt w v l) (hl : l.length ≤ 100000000) (hm : most ≤ 1000000000) (hT : Ent L (Tabs TL TA cl ca)) :
  Calls Tryd.prog 14 #[v, .int .i64 (most : Int)] w (BEnd w0 L (PI.all (PBits.ofB l) most)) := by
 have HX := Lib.hid (xexpand_ok v l most TL TA cl ca H hb hl hm hT)
 clear hT hb
 go_enter Tryd.func14, Tryd.ntmps14
 go_wp2_with fail
 refine HX.out.mono ?_
 intro e9 w1 h9
 unfold XEnd at h9
 cases hr : PI.all (PBits.ofB l) most with
 | error c =>
  rw [hr] at h9
  obtain ⟨rfl, H1⟩ := h9
  have hc := PI.all_err hr
  have k1 : ((c : Int) != 0) = true := by simp; omega
  have k1' : ¬ (c : Int) = 0 := by omega
  have HE := Lib.hid hr
  clear hr HX hc
  go_wp2_with fail
  go_ret2
  exact BEnd.no HE.out H1
 | ok r =>
  rw [hr] at h9
  obtain ⟨gx, rfl, H1⟩ := h9
  obtain ⟨gr, vo, vb, H2⟩ := xd_open H1
  have d1 : w1.cell? ⟨gx, 3, none⟩ = some vb := H2.cell 1 rfl 3
  have HE := Lib.hid hr
  clear hr HX H1
  go_wp2_with fail
  go_ret2
  exact BEnd.yes HE.out (H2.pick 4 [3])
end Go.Proofs.YtiogaejfcenooaaDoor

namespace Go.Proofs.YtiogaejfcenooaaDoor
set_option linter.unusedVariables false
set_option linter.unusedSimpArgs false
open Go.RowKit
namespace PI
set_option maxRecDepth 100000 in
theorem row_a : (all (PBits.ofB [3, 0]) 0).toOption.map (fun r => ((r.1 + 7) / 8, r.2.1)) = some (2, []) := by decide +kernel
set_option maxRecDepth 100000 in
theorem row_b : (all (PBits.ofB [1, 2, 0, 253, 255, 97, 98, 99]) 2).toOption.map (fun r => ((r.1 + 7) / 8, r.2.1)) = some (7, [97, 98]) := by decide +kernel
set_option maxRecDepth 100000 in
theorem row_c : (all (PBits.ofB [75, 4, 0]) 9).toOption.map (fun r => ((r.1 + 7) / 8, r.2.1)) = some (3, [97]) := by decide +kernel
end PI
theorem AEnd.row {w0 : World} {L : List Pr} {T : Except Nat (Nat × List UInt8 × List PI.Blk)} {n : Nat} {o : List UInt8} (h : T.toOption.map (fun r => ((r.1 + 7) / 8, r.2.1)) = some (n, o)) {e : Ending} {w' : World} (k : AEnd w0 L T e w') :
  ∃ A c, e = .returned (.tuple #[.slice A o.length c, .int .i64 (n : Int), .int .i64 0]) ∧ Sp w0 (Row 5 1 (.slice A o.length c) o.length (cells8 o) :: L) w' := by
 cases T with
 | error c => cases h
 | ok r =>
  have h2 : ((r.1 + 7) / 8, r.2.1) = (n, o) := Option.some.inj h
  injection h2 with h3 h4
  obtain ⟨vo, rfl, H⟩ := k
  rw [h4] at H
  obtain ⟨A, c, rfl, _, _⟩ := Row.form H 0 rfl
  exact ⟨A, c, by rw [h3], H⟩
set_option maxRecDepth 100000 in
set_option maxHeartbeats 4000000 in
theorem xtells_ok (TL TA : Option Addr) (cl ca : Nat) {w0 w : World} {L : List Pr} (H : Sp w0 L w) (hT : Ent L (Tabs TL TA cl ca)) :
  Calls Tryd.prog 12 #[] w fun e w' => e = .returned (.bool true) ∧ Sp w0 L w' := by
 have H1 := H.newBk (cells8 [3, 0]) 5
 have h1 := xall_ok (.slice (some ⟨w.heap.size, 0, none⟩) 2 2) [3, 0] 0 TL TA cl ca H1 (fun _ _ h => Byt.of_blk [3, 0] (h.blk 0 rfl) (by decide)) (by decide) (by decide) (fun w0 w h => hT w0 w (h.pick 1 []))
 have HQ := Lib.hid h1
 clear h1 H1
 go_enter Tryd.func12, Tryd.ntmps12
 go_wp2_with fail
 refine HQ.out.mono ?_
 intro e9 w1 k9
 obtain ⟨A1, c1, rfl, H2⟩ := AEnd.row PI.row_a k9
 replace H2 := H2.pick 2 [0]
 clear HQ k9 H
 have H3 := H2.newBk (cells8 [1, 2, 0, 253, 255, 97, 98, 99]) 5
 have h1 := xall_ok (.slice (some ⟨w1.heap.size, 0, none⟩) 8 8) [1, 2, 0, 253, 255, 97, 98, 99] 2 TL TA cl ca H3 (fun _ _ h => Byt.of_blk [1, 2, 0, 253, 255, 97, 98, 99] (h.blk 0 rfl) (by decide)) (by decide) (by decide) (fun w0 w h => hT w0 w (h.pick 2 []))
 have HQ := Lib.hid h1
 clear h1 H3
 go_wp2_with fail
 refine HQ.out.mono ?_
 intro e9 w2 k9
 obtain ⟨A2, c2, rfl, H4⟩ := AEnd.row PI.row_b k9
 replace H4 := H4.pick 3 [0, 2]
 clear HQ k9 H2
 have H5 := H4.newBk (cells8 [75, 4, 0]) 5
 have h1 := xall_ok (.slice (some ⟨w2.heap.size, 0, none⟩) 3 3) [75, 4, 0] 9 TL TA cl ca H5 (fun _ _ h => Byt.of_blk [75, 4, 0] (h.blk 0 rfl) (by decide)) (by decide) (by decide) (fun w0 w h => hT w0 w (h.pick 3 []))
 have HQ := Lib.hid h1
 clear h1 H5
 go_wp2_with fail
 refine HQ.out.mono ?_
 intro e9 w3 k9
 obtain ⟨A3, c3, rfl, H6⟩ := AEnd.row PI.row_c k9
 replace H6 := H6.pick 4 [0, 2, 3]
 clear HQ k9 H4
 have s1 : (convert 24 9 (.slice A2 2 c2)).run Tryd.prog w3 = .ok (.string (strOf [97, 98])) w3 := run_str w3 _ _ 5 _ [97, 98] Tryd.underlying24 Tryd.underlying5 Tryd.underlying9 (H6.row_byt 1 rfl)
 have s2 : (convert 24 9 (.slice A3 1 c3)).run Tryd.prog w3 = .ok (.string (strOf [97])) w3 := run_str w3 _ _ 5 _ [97] Tryd.underlying24 Tryd.underlying5 Tryd.underlying9 (H6.row_byt 0 rfl)
 have t1 : ((strOf [97]).toList == [97]) = true := by decide +kernel
 have t2 : ((strOf [97, 98]).toList == [97, 98]) = true := by decide +kernel
 have H7 := H6.pick 3 []
 clear H6
 go_wp2_with fail
 go_ret
 exact ⟨rfl, H7⟩
end Go.Proofs.YtiogaejfcenooaaDoor

namespace Go.Proofs.YtiogaejfcenooaaDoor
set_option linter.unusedVariables false
set_option linter.unusedSimpArgs false
open Go.RowKit
def blC (b : PI.Blk) : List Value := [.int .i64 (b.kind : Int), .bool b.last, .int .i64 (b.from_ : Int), .int .i64 (b.to_ : Int)]
theorem rdBlk {w : World} {A : Option Addr} {l : List PI.Blk} (h : Rd w A (cellsB l)) {i : Nat} {b : PI.Blk} (hi : l[i]? = some b) : ∃ ad, A = some ad ∧ ∀ j v, (blC b)[j]? = some v → w.cell? ((ad.add (i * 4)).add j) = some v := by
 have hil : i < l.length := (List.getElem?_eq_some_iff.1 hi).1
 have hc : cellsB l = l.flatMap blC := rfl
 rw [hc] at h
 obtain ⟨ad, e, hc⟩ := h (fun h0 => by
  have := congrArg List.length h0
  rw [flat_len blC 4 (fun _ => rfl)] at this
  simp at this
  omega)
 refine ⟨ad, e, fun j v hj => ?_⟩
 have hj4 : j < 4 := (List.getElem?_eq_some_iff.1 hj).1
 obtain ⟨p, h1, h2⟩ := flat_get blC 4 (fun _ => rfl) l i j hj4 hil
 rw [hi] at h1
 injection h1 with h1
 rw [Go.Addr.add_add]
 refine hc _ _ ?_
 rw [h2, ← h1]
 exact hj
theorem AEnd.got {w0 : World} {L : List Pr} {T : Except Nat (Nat × List UInt8 × List PI.Blk)} {r : Nat × List UInt8 × List PI.Blk} (h : T = .ok r) {e : Ending} {w' : World} (k : AEnd w0 L T e w') :
  ∃ A c, e = .returned (.tuple #[.slice A r.2.1.length c, .int .i64 (((r.1 + 7) / 8 : Nat) : Int), .int .i64 0]) ∧ Sp w0 (Row 5 1 (.slice A r.2.1.length c) r.2.1.length (cells8 r.2.1) :: L) w' := by
 subst h
 obtain ⟨vo, rfl, H⟩ := k
 obtain ⟨A, c, rfl, _, _⟩ := Row.form H 0 rfl
 exact ⟨A, c, rfl, H⟩
theorem AEnd.bad {w0 : World} {L : List Pr} {T : Except Nat (Nat × List UInt8 × List PI.Blk)} {c : Nat} (h : T = .error c) {e : Ending} {w' : World} (k : AEnd w0 L T e w') :
  e = .returned (.tuple #[.slice none 0 0, .int .i64 0, .int .i64 (c : Int)]) ∧ Sp w0 L w' := by
 subst h; exact k
theorem BEnd.got {w0 : World} {L : List Pr} {T : Except Nat (Nat × List UInt8 × List PI.Blk)} {r : Nat × List UInt8 × List PI.Blk} (h : T = .ok r) {e : Ending} {w' : World} (k : BEnd w0 L T e w') :
  ∃ A c, e = .returned (.tuple #[.slice A r.2.2.length c, .int .i64 0]) ∧ Sp w0 (Row 40 4 (.slice A r.2.2.length c) r.2.2.length (cellsB r.2.2) :: L) w' := by
 subst h
 obtain ⟨vo, rfl, H⟩ := k
 obtain ⟨A, c, rfl, _, _⟩ := Row.form H 0 rfl
 exact ⟨A, c, rfl, H⟩
theorem byt_row {w0 w : World} {M : List Pr} {A : Option Addr} {n c : Nat} {e : TypeId} {l : List UInt8} (H : Sp w0 M w) (k : Nat) (hk : M[k]? = some (Row e 1 (.slice A n c) n (cells8 l))) (hn : n = l.length) : Byt w (.slice A n c) l := by
 subst hn
 exact H.row_byt k hk
theorem tabs_same {W : World} {TL TA : Option Addr} {cl ca : Nat} (h : Tabs TL TA cl ca W) : Ent [Same W] (Tabs TL TA cl ca) := Ent.of_same 0 rfl fun _ hs => h.heap hs
end Go.Proofs.YtiogaejfcenooaaDoor

namespace Go.Proofs.YtiogaejfcenooaaDoor
namespace PI
def errOf {α : Type} : Except Nat α → Nat
 | .error n => n + 1
 | .ok _ => 0
theorem errOf_is {α : Type} {T : Except Nat α} {n : Nat} (h : errOf T = n + 1) : T = .error n := by
 cases T with
 | error c => have h2 : c + 1 = n + 1 := h; rw [show c = n by omega]
 | ok r => cases h
set_option maxRecDepth 100000 in
theorem kn_0 : errOf (all (PBits.ofB []) 100) = 4 + 1 := by decide +kernel
set_option maxRecDepth 100000 in
theorem kn_1 : errOf (all (PBits.ofB [7]) 100) = 20 + 1 := by decide +kernel
set_option maxRecDepth 100000 in
theorem kn_2 : errOf (all (PBits.ofB [1]) 100) = 4 + 1 := by decide +kernel
set_option maxRecDepth 100000 in
theorem kn_3 : errOf (all (PBits.ofB [1, 1, 0, 0, 0]) 100) = 20 + 1 := by decide +kernel
set_option maxRecDepth 100000 in
theorem kn_4 : errOf (all (PBits.ofB [1, 1, 0, 254, 255]) 100) = 4 + 1 := by decide +kernel
set_option maxRecDepth 100000 in
theorem kn_5 : errOf (all (PBits.ofB [3]) 100) = 4 + 1 := by decide +kernel
set_option maxRecDepth 100000 in
theorem kn_6 : errOf (all (PBits.ofB [253, 255]) 100) = 4 + 1 := by decide +kernel
set_option maxRecDepth 100000 in
theorem kn_7 : errOf (all (PBits.ofB [245, 255, 255]) 100) = 20 + 1 := by decide +kernel
set_option maxRecDepth 100000 in
theorem kn_8 : errOf (all (PBits.ofB [5, 254, 0, 0]) 100) = 20 + 1 := by decide +kernel
set_option maxRecDepth 100000 in
theorem kn_9 : errOf (all (PBits.ofB [3, 2]) 100) = 20 + 1 := by decide +kernel
set_option maxRecDepth 100000 in
theorem kn_10 : errOf (all (PBits.ofB [99, 4, 66, 0]) 100) = 20 + 1 := by decide +kernel
set_option maxRecDepth 100000 in
theorem kx_0 : errOf (all (PBits.ofB [1, 2, 0, 253, 255, 97, 98]) 1) = 22 + 1 := by decide +kernel
set_option maxRecDepth 100000 in
theorem kx_1 : errOf (all (PBits.ofB [1, 2, 0, 253, 255, 97]) 1) = 4 + 1 := by decide +kernel
set_option maxRecDepth 100000 in
theorem kx_2 : errOf (all (PBits.ofB [1, 3, 0, 252, 255, 97, 98]) 1) = 22 + 1 := by decide +kernel
def lwK : List WPart := [⟨2, [97, 98], [(255, 1), (254, 0), (0, 7), (100, 400)]⟩, ⟨1, [], [(255, 600)]⟩, ⟨0, [], []⟩, ⟨2, [], []⟩]
set_option maxRecDepth 100000 in
theorem out_len : (outW lwK).length = 881 := by decide +kernel
set_option maxRecDepth 100000 in
theorem blks_len : (blksW (partsW lwK)).length = 4 := by decide +kernel
set_option maxRecDepth 100000 in
theorem blks_1 : (blksW (partsW lwK))[1]?.map (fun b => (b.kind, b.last, b.from_, b.to_)) = some (1, false, 623, 881) := by decide +kernel
set_option maxRecDepth 100000 in
theorem blks_3 : (blksW (partsW lwK))[3]?.map (fun b => (b.kind, b.last, b.from_, b.to_)) = some (2, true, 881, 881) := by decide +kernel
theorem blk_is {l : List Blk} {i k f t : Nat} {b : Bool} (h : l[i]?.map (fun b => (b.kind, b.last, b.from_, b.to_)) = some (k, b, f, t)) : l[i]? = some ⟨k, b, f, t⟩ := by
 cases e : l[i]? with
 | none => rw [e] at h; cases h
 | some x =>
  rw [e] at h
  have h2 : (x.kind, x.last, x.from_, x.to_) = (k, b, f, t) := Option.some.inj h
  injection h2 with h3 h4; injection h4 with h4 h5; injection h5 with h5 h6
  subst h3 h4 h5 h6; rfl
end PI
theorem al_size (w : World) (o : Obj) : (w.alloc o).heap.size = w.heap.size + 1 := Array.size_push _
end Go.Proofs.YtiogaejfcenooaaDoor

