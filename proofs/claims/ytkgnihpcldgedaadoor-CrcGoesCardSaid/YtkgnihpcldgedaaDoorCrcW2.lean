import Derived.Test.YtkgnihpcldgedaaDoorCrcW
namespace Go.Proofs.YtkgnihpcldgedaaDoor
open Go.RowKit

theorem CrcTab.alloc {w : World} (h : CrcTab w) (o : Obj) : CrcTab (w.alloc o) := fun i hi => by
  rw [(Mod.alloc (Mod.refl (fun _ => False) w) o).cell (cell_lt (h i hi)) (fun h => h)]; exact h i hi
theorem CrcTab.mod {M : Nat → Prop} {w w' : World} (h : CrcTab w) (hM : Mod M w w') (hm : ¬ M 3) : CrcTab w' := fun i hi => by
  rw [hM.cell (cell_lt (h i hi)) hm]; exact h i hi
theorem CrcTab.lt {w : World} (h : CrcTab w) : 3 < w.heap.size := cell_lt (h 0 (by omega))
theorem Parts.alloc {w : World} {v : Value} {ls : List (List UInt8)} (h : Parts w v ls) (o : Obj) : Parts (w.alloc o) v ls :=
  h.keep fun _ _ hc _ => (Mod.alloc (Mod.refl (fun _ => False) w) o).cell (cell_lt hc) (fun h => h)

set_option maxHeartbeats 400000 in
theorem sum_any (g s m : Nat) (w : World) (hr : RunIs w g s m) :
    Calls Tryd.prog 19 #[.pointer (some ⟨g, 0, none⟩)] w fun e w' => e = .returned (.int .u32 (s : Int)) ∧ w = w' := by
  have c0 := hr.cell 0
  go_enter Tryd.func19, Tryd.ntmps19
  go_wp2
  go_ret
  exact ⟨rfl, rfl⟩
set_option maxHeartbeats 400000 in
theorem len_any (g s m : Nat) (w : World) (hr : RunIs w g s m) :
    Calls Tryd.prog 20 #[.pointer (some ⟨g, 0, none⟩)] w fun e w' => e = .returned (.int .i64 (m : Int)) ∧ w = w' := by
  have c1 := hr.cell 1
  go_enter Tryd.func20, Tryd.ntmps20
  go_wp2
  go_ret
  exact ⟨rfl, rfl⟩
set_option maxHeartbeats 400000 in
theorem reset_any (g s m : Nat) (w : World) (hr : RunIs w g s m) :
    Calls Tryd.prog 16 #[.pointer (some ⟨g, 0, none⟩)] w fun e w' => e = .returned (.tuple #[]) ∧ RunIs w' g 0 0 ∧ Mod (· = g) w w' := by
  have c0 := hr.cell 0
  have c1 := hr.cell 1
  have f0 := hr.frozen 0
  have f1 := hr.frozen 1
  go_enter Tryd.func16, Tryd.ntmps16
  go_wp2
  go_end0
  refine ⟨rfl, ?_, ?_⟩
  · exact (hr.set_ 0 _).set_ 1 _
  · exact Mod.setCell (M := (· = g)) (Mod.setCell (M := (· = g)) (Mod.refl _ _) (fun _ => rfl) _) (fun _ => rfl) _

set_option maxHeartbeats 400000 in
theorem of_any (v : Value) (ls : List (List UInt8)) (w : World) (hm : total ls ≤ 9223372036854775807) (ht : CrcTab w) (hp : Parts w v ls) :
    Calls Tryd.prog 15 #[v] w fun e w' => e = .returned (.int .u32 (PCrc.of ls.flatten : Nat)) ∧ Below w.heap.size w w' := by
  go_enter Tryd.func15, Tryd.ntmps15
  go_wp2_with fail
  have hlt := ht.lt
  refine (add_any w.heap.size 0 0 v ls _ (by omega) (by omega) (ht.alloc _) (Blk.new w _ _) (hp.alloc _) (by omega)).mono ?_
  rintro e w' ⟨rfl, hr, hM⟩
  go_wp2_with fail
  refine (sum_any _ _ _ _ hr).mono ?_
  rintro e w1 ⟨rfl, rfl⟩
  go_wp2_with fail
  go_ret
  refine ⟨rfl, ?_⟩
  exact (((Mod.refl (fun _ => False) w).alloc _).trans hM (fun b hb hlt => by omega)).below (Nat.le_refl _) (fun _ _ h => h)
end Go.Proofs.YtkgnihpcldgedaaDoor
