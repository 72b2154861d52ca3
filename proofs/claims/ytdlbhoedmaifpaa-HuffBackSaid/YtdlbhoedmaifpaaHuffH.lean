/- HuffH: the bits fed one by one. -/
import Derived.Test.YtdlbhoedmaifpaaHuffG
namespace Go.Proofs.Ytdlbhoedmaifpaa
open Go.RowKit
def cellsBo (l : List Bool) : List Value := l.map Value.bool
theorem Rd.atB {w : World} {A : Option Addr} {l : List Bool} (h : Rd w A (cellsBo l)) {k : Nat} (hk : k < l.length) :
    ∃ ad, A = some ad ∧ w.cell? (ad.add k) = some (.bool l[k]) := by
  obtain ⟨ad, e, hc⟩ := h.at_ (k := k) (by simpa [cellsBo] using hk)
  exact ⟨ad, e, by simpa [cellsBo] using hc⟩
def FeedB (g : Nat) (A : Option Addr) (n c at_ : Nat) : Pr := Bk g 75 [.slice A n c, .int .i64 (at_ : Int)]
theorem FeedB.next {w0 w : World} {L : List Pr} {g : Nat} {A : Option Addr} {n c at_ : Nat} (H : Sp w0 (FeedB g A n c at_ :: L) w) (u : Int) (hu : u = ((at_ + 1 : Nat) : Int)) : Sp w0 (FeedB g A n c (at_ + 1) :: L) (w.setCell ⟨g, 1, none⟩ (.int .i64 u)) := by
  subst hu
  exact H.set 1 _
def bitV (b : Bool) : Nat := if b then 1 else 0
set_option maxRecDepth 100000 in
theorem feed_on (g : Nat) (A : Option Addr) (n c at_ : Nat) (l : List Bool) (b : Bool) {w0 w : World} {L : List Pr} (H : Sp w0 (FeedB g A n c at_ :: L) w) (hn : n = l.length) (hb : Ent L fun w => Rd w A (cellsBo l)) (hl : n ≤ 1000000000) (h : l[at_]? = some b) :
    Calls Try.prog 37 #[.pointer (some ⟨g, 0, none⟩)] w fun e w' => e = .returned (.tuple #[.int .u32 (bitV b : Int), .int .i64 0]) ∧ Sp w0 (FeedB g A n c (at_ + 1) :: L) w' := by
  have c0 : w.cell? ⟨g, 0, none⟩ = some (.slice A n c) := H.cell 0 rfl 0
  have c1 : w.cell? ⟨g, 1, none⟩ = some (.int .i64 (at_ : Int)) := H.cell 0 rfl 1
  have f1 : w.frozen? ⟨g, 1, none⟩ = false := H.frozen 0 rfl 1
  obtain ⟨hlt, hbb⟩ := List.getElem?_eq_some_iff.1 h
  obtain ⟨G, hG⟩ : ∃ G : Addr, (⟨g, 1, none⟩ : Addr) = G := ⟨_, rfl⟩
  have k1 : ¬ (n : Int) ≤ (at_ : Int) := by omega
  have k2 : (at_ : Int) < (n : Int) := by omega
  have k3 : (at_ : Int) + 1 = ((at_ + 1 : Nat) : Int) := by omega
  have HK := Lib.hid k3
  obtain ⟨ad, rfl, hr⟩ := (hb _ _ H.tail).atB hlt
  rw [hbb] at hr
  have hrow : ∀ w', Sp w0 L w' → w'.cell? (ad.add at_) = some (.bool b) := fun w' H' => by
    obtain ⟨_, e, hc⟩ := (hb _ _ H').atB hlt
    injection e with e
    rw [e, hc, hbb]
  have HB := Lib.hid hrow
  clear hrow hbb hb hn h k3 hG hr
  go_enter Try.func37, Try.ntmps37
  go_wp2_with fail
  go_quiet (fail)
  go_wp2_with fail
  have H2 := FeedB.next (H.drewN nq) ((at_ : Int) + 1) HK.out
  generalize hw2 : (w.drewN nq).setCell _ _ = w2 at H2 ⊢
  have d0 : w2.cell? ⟨g, 0, none⟩ = some (.slice (some ad) n c) := H2.cell 0 rfl 0
  have d1 : w2.cell? ⟨g, 1, none⟩ = some (.int .i64 ((at_ : Int) + 1)) := by rw [HK.out]; exact H2.cell 0 rfl 1
  have hr := HB.out _ H2.tail
  have k4 : (at_ : Int) + 1 - 1 = (at_ : Int) := by omega
  clear hw2 c0 c1 f1 H
  go_quiet (fail)
  cases b
  all_goals (
    go_wp2_with fail
    go_ret2
    exact ⟨rfl, H2.drewN _⟩)
set_option maxRecDepth 100000 in
theorem feed_end (g : Nat) (A : Option Addr) (n c at_ : Nat) {w0 w : World} {L : List Pr} (H : Sp w0 (FeedB g A n c at_ :: L) w) (_ : n ≤ 1000000000) (h : at_ = n) :
    Calls Try.prog 37 #[.pointer (some ⟨g, 0, none⟩)] w fun e w' => e = .returned (.tuple #[.int .u32 0, .int .i64 4]) ∧ Sp w0 (FeedB g A n c at_ :: L) w' := by
  have c0 : w.cell? ⟨g, 0, none⟩ = some (.slice A n c) := H.cell 0 rfl 0
  have c1 : w.cell? ⟨g, 1, none⟩ = some (.int .i64 (at_ : Int)) := H.cell 0 rfl 1
  have k1 : (n : Int) ≤ (at_ : Int) := by omega
  clear h
  go_enter Try.func37, Try.ntmps37
  go_wp2_with fail
  go_quiet (fail)
  go_wp2_with fail
  go_ret2
  exact ⟨rfl, H.drewN _⟩
end Go.Proofs.Ytdlbhoedmaifpaa
