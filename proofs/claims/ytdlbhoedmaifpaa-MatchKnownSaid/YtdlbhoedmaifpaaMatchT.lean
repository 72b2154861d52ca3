/- MatchT: Cut and Best, whatever is asked. -/
import Derived.Test.YtdlbhoedmaifpaaMatchS
namespace Go.Proofs.Ytdlbhoedmaifpaa
open Go.RowKit Go.MapKept
def cutL (B : List UInt8) (d : Int) : List PM.St := if 1 ≤ d ∧ d ≤ 32768 then PM.Cut B d.toNat else []
def cutE (d : Int) : Int := if 1 ≤ d ∧ d ≤ 32768 then 0 else 1
def bestL (B : List UInt8) (q d : Int) : Nat × Nat := if 0 ≤ q ∧ q < B.length ∧ 1 ≤ d then PM.best B q.toNat d.toNat else (0, 0)
set_option maxRecDepth 100000 in
theorem Cut_ok (l : Nat) (d : Int) (A0 : Option Addr) (c : Nat) (B : List UInt8) {w0 w : World} {L : List Pr} (H : Sp w0 L w) (hl : l = B.length) (hb : Ent L (fun w => Byt w (.slice A0 l c) B)) (hlm : l ≤ 1000000) :
    Calls Try.prog 17 #[.slice A0 l c, .int .i64 d] w fun e w' => ∃ v, e = .returned (.tuple #[v, .int .i64 (cutE d)]) ∧ Sp w0 (Row 25 3 v (cutL B d).length (stsV (cutL B d)) :: L) w' := by
  have HL := Lib.hid hl
  have HB := Lib.hid hb
  clear hl hb
  unfold cutE cutL
  by_cases h1 : d < 1
  · rw [if_neg (by omega), if_neg (by omega)]
    have k1 : decide (d < 1) = true := decide_eq_true h1
    go_enter Try.func17, Try.ntmps17
    go_wp2
    go_ret2
    exact ⟨_, rfl, H.rowNil _ _⟩
  · have k1 : decide (d < 1) = false := decide_eq_false h1
    by_cases h2 : 32768 < d
    · rw [if_neg (by omega), if_neg (by omega)]
      have k2 : decide (32768 < d) = true := decide_eq_true h2
      go_enter Try.func17, Try.ntmps17
      go_wp2
      go_ret2
      exact ⟨_, rfl, H.rowNil _ _⟩
    · rw [if_pos (by omega), if_pos (by omega)]
      have k2 : decide (32768 < d) = false := decide_eq_false h2
      obtain ⟨n, rfl⟩ := Int.eq_ofNat_of_zero_le (show 0 ≤ d by omega)
      rw [show (n : Int).toNat = n from rfl]
      go_enter Try.func17, Try.ntmps17
      go_wp2_with fail
      refine (finds_ok A0 l c (n : Int) B H).mono ?_
      rintro _ w2 ⟨g, rfl, H2⟩
      go_wp2_with fail
      refine (steps_ok g l n A0 c B H2 HL.out HB.out hlm).mono ?_
      rintro _ w3 ⟨v, rfl, H3⟩
      go_wp2
      go_ret2
      exact ⟨_, rfl, H3⟩
set_option maxRecDepth 100000 in
theorem Best_ok (l : Nat) (q d : Int) (A0 : Option Addr) (c : Nat) (B : List UInt8) {w0 w : World} {L : List Pr} (H : Sp w0 L w) (hl : l = B.length) (hb : Ent L (fun w => Byt w (.slice A0 l c) B)) (hlm : l ≤ 1000000) :
    Calls Try.prog 14 #[.slice A0 l c, .int .i64 q, .int .i64 d] w fun e w' => e = .returned (.tuple #[stV ((bestL B q d).1, (bestL B q d).2, 0), .bool (decide (0 < (bestL B q d).1))]) ∧ Sp w0 L w' := by
  have HL := Lib.hid hl
  have HB := Lib.hid hb
  clear hl hb
  have H3 := H.newBk [.int .i64 0, .int .i64 0, .int .u8 0] 25
  have f0 := H3.cell 0 rfl 0
  have f1 := H3.cell 0 rfl 1
  have f2 := H3.cell 0 rfl 2
  have hz : (bestL B q d = (0, 0)) → ∀ e, e = Ending.returned (.tuple #[.agg #[.int .i64 0, .int .i64 0, .int .u8 0], .bool false]) → e = .returned (.tuple #[stV ((bestL B q d).1, (bestL B q d).2, 0), .bool (decide (0 < (bestL B q d).1))]) := fun h e he => by rw [h, he]; rfl
  have HZ := Lib.hid hz
  clear hz
  by_cases h1 : q < 0
  · have hb : bestL B q d = (0, 0) := if_neg (by omega)
    have HE := Lib.hid (HZ.out hb)
    have k1 : decide (q < 0) = true := decide_eq_true h1
    clear hb
    go_enter Try.func14, Try.ntmps14
    go_wp2
    refine bodyPost_ret (v := .tuple #[.agg #[.int .i64 0, .int .i64 0, .int .u8 0], .bool false]) (by simp [results, Try.results14, go_sem, f0, f1, f2]) rfl ?_
    exact ⟨HE.out _ rfl, H3.tail⟩
  · have k1 : decide (q < 0) = false := decide_eq_false h1
    by_cases h2 : (l : Int) ≤ q
    · have hb : bestL B q d = (0, 0) := if_neg (by rw [← HL.out]; omega)
      have HE := Lib.hid (HZ.out hb)
      have k2 : decide ((l : Int) ≤ q) = true := decide_eq_true h2
      clear hb
      go_enter Try.func14, Try.ntmps14
      go_wp2
      refine bodyPost_ret (v := .tuple #[.agg #[.int .i64 0, .int .i64 0, .int .u8 0], .bool false]) (by simp [results, Try.results14, go_sem, f0, f1, f2]) rfl ?_
      exact ⟨HE.out _ rfl, H3.tail⟩
    · have k2 : decide ((l : Int) ≤ q) = false := decide_eq_false h2
      by_cases h3 : d < 1
      · have hb : bestL B q d = (0, 0) := if_neg (by omega)
        have HE := Lib.hid (HZ.out hb)
        have k3 : decide (d < 1) = true := decide_eq_true h3
        clear hb
        go_enter Try.func14, Try.ntmps14
        go_wp2
        refine bodyPost_ret (v := .tuple #[.agg #[.int .i64 0, .int .i64 0, .int .u8 0], .bool false]) (by simp [results, Try.results14, go_sem, f0, f1, f2]) rfl ?_
        exact ⟨HE.out _ rfl, H3.tail⟩
      · have k3 : decide (d < 1) = false := decide_eq_false h3
        have hb : bestL B q d = PM.best B q.toNat d.toNat := if_pos (by rw [← HL.out]; omega)
        obtain ⟨n, rfl⟩ := Int.eq_ofNat_of_zero_le (show 0 ≤ d by omega)
        obtain ⟨p, rfl⟩ := Int.eq_ofNat_of_zero_le (show 0 ≤ q by omega)
        rw [hb, show (n : Int).toNat = n from rfl, show (p : Int).toNat = p from rfl]
        clear HZ hb f0 f1 f2
        go_enter Try.func14, Try.ntmps14
        go_wp2_with fail
        generalize w.heap.size = r at H3 ⊢
        generalize w.alloc _ = w1 at H3 ⊢
        refine (finds_ok A0 l c (n : Int) B H3).mono ?_
        rintro _ w2 ⟨g, rfl, H2⟩
        go_wp2_with fail
        refine (best_ok g p 0 l n A0 c B H2 HL.out (Ent.cons _ HB.out) (by omega) (by omega) (Nat.zero_le _)).mono ?_
        rintro _ w3 ⟨n', hn', rfl, H4⟩
        obtain ⟨b1, hb1⟩ : ∃ b1, (PM.best B p n).1 = b1 := ⟨_, rfl⟩
        obtain ⟨b2, hb2⟩ : ∃ b2, (PM.best B p n).2 = b2 := ⟨_, rfl⟩
        rw [hb1, hb2]
        have HB1 := Lib.hid hb1
        have HB2 := Lib.hid hb2
        clear hb1 hb2
        unfold stV
        have z0 := H4.frozen 1 rfl 0
        have z1 := H4.frozen 1 rfl 1
        have z2 := H4.frozen 1 rfl 2
        have y0 := H4.cell 1 rfl 0
        have y1 := H4.cell 1 rfl 1
        have y2 := H4.cell 1 rfl 2
        simp only [List.getElem?_cons_zero, List.getElem?_cons_succ] at y0 y1 y2
        have H5 := (((H4.swap.set 0 (.int .i64 (b1 : Int))).set 1 (.int .i64 (b2 : Int))).set 2 (.int .u8 0))
        go_wp2
        have f0 := H5.cell 0 rfl 0
        have f1 := H5.cell 0 rfl 1
        have f2 := H5.cell 0 rfl 2
        generalize ((w3.setCell _ _).setCell _ _).setCell _ _ = w6 at H5 f0 f1 f2 ⊢
        refine bodyPost_ret (v := .tuple #[.agg #[.int .i64 (b1 : Int), .int .i64 (b2 : Int), .int .u8 0], .bool (decide (0 < b1))]) (by simp [results, Try.results14, go_sem, f0, f1, f2]) rfl ?_
        exact ⟨by rw [HB1.out, HB2.out]; rfl, H5.pick 2 []⟩
end Go.Proofs.Ytdlbhoedmaifpaa
