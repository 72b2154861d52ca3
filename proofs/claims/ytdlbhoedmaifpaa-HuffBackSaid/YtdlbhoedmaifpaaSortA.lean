/- SortA: the comparison of packs. -/
import Derived.Test.YtdlbhoedmaifpaaPack
import Derived.Test.YtdlbhoedmaifpaaHuffC
namespace Go.Proofs.Ytdlbhoedmaifpaa
open Go.RowKit
/-- The comparison that the sort is handed. -/
def cmpF : Value := .func (.func 67) #[] #[]
set_option maxRecDepth 100000 in
theorem cmpK_ok (x y : PK) {w0 w : World} {L : List Pr} (H : Sp w0 L w) :
    Calls Try.prog 67 #[x.val, y.val] w fun e w' => e = .returned (.int .i64 (cmpI x.c y.c)) ∧ Sp w0 L w' := by
  obtain ⟨a, b, p⟩ := x
  obtain ⟨c, d, q⟩ := y
  unfold PK.val PK.ptr
  simp only
  obtain ⟨P, hP⟩ : ∃ P : Option Addr, p.map (fun g => (⟨g, 0, none⟩ : Addr)) = P := ⟨_, rfl⟩
  obtain ⟨Q, hQ⟩ : ∃ P : Option Addr, q.map (fun g => (⟨g, 0, none⟩ : Addr)) = P := ⟨_, rfl⟩
  rw [hP, hQ]
  clear hP hQ p q
  obtain ⟨r, hr⟩ : ∃ r, cmpI a c = r := ⟨_, rfl⟩
  have hc := fun w => cmp_ok a c w
  rw [hr] at hc ⊢
  have HC := Lib.hid hc
  clear hc hr
  have es : (w.alloc (.cells #[.int .i64 a, .int .i64 b, .pointer P] 102)).heap.size = w.heap.size + 1 := Array.size_push _
  have H1 := (H.newBk [.int .i64 a, .int .i64 b, .pointer P] 102).newBk [.int .i64 c, .int .i64 d, .pointer Q] 102
  rw [es] at H1
  clear es
  go_enter Try.func67, Try.ntmps67
  go_wp2_with fail
  generalize w.heap.size + 1 = g2 at H1 ⊢
  generalize w.heap.size = g1 at H1 ⊢
  generalize (w.alloc _).alloc _ = w1 at H1 ⊢
  have c1 := H1.cell 0 rfl 0
  have c2 := H1.cell 1 rfl 0
  simp only [List.getElem?_cons_zero] at c1 c2
  refine (HC.out _).mono ?_
  rintro _ _ ⟨rfl, rfl⟩
  go_wp2_with fail
  go_ret
  exact ⟨rfl, H1.pick 2 []⟩
end Go.Proofs.Ytdlbhoedmaifpaa
