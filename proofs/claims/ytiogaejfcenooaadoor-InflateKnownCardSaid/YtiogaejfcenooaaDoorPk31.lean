/- A pack of texts: InfV InfLen. -/
import Derived.Test.YtiogaejfcenooaaDoorPk25
import Derived.Test.YtiogaejfcenooaaDoorPk30
namespace Go.Proofs.YtiogaejfcenooaaDoor
set_option linter.unusedVariables false
set_option linter.unusedSimpArgs false
open Go.RowKit
theorem PI.sgsW_len (m d : List Nat) (hm : ∀ x ∈ m, x ≤ 15) (hd : ∀ x ∈ d, x ≤ 15) (l : List PI.Sg) (hk : PI.SgOk l) : ∀ k, k ≤ l.length → (PI.sgsW m d l k).length ≤ 28 * k := by
 intro k
 induction k with
 | zero => intro _; exact Nat.zero_le _
 | succ k ih =>
  intro h
  have h1 := ih (by omega)
  have h2 := (hk k (by omega)).2.1
  have hl : ∀ q : List Nat, (∀ x ∈ q, x ≤ 15) → ∀ s, q.getD s 0 ≤ 15 := fun q hq s => by
   rw [List.getD_eq_getElem?_getD]
   rcases Nat.lt_or_ge s q.length with h | h
   ·rw [List.getElem?_eq_getElem h]; exact hq _ (List.getElem_mem h)
   ·rw [List.getElem?_eq_none h]; exact Nat.zero_le _
  show (PI.sgsW m d l k ++ PI.sgW m d (l.getD k (0, 0, 0)) (PI.farAt l k)).length ≤ _
  rw [List.length_append]
  have h3 : (PI.sgW m d (l.getD k (0, 0, 0)) (PI.farAt l k)).length ≤ 28 := by
   unfold PI.sgW PI.sayW
   rw [List.length_append, PI.codeW_len, PBits.bitsOf_length]
   split
   ·have := hl d hd (l.getD k (0, 0, 0)).1; omega
   ·have := hl m hm (l.getD k (0, 0, 0)).1; omega
  omega
set_option maxRecDepth 100000 in
set_option maxHeartbeats 8000000 in
theorem pbody_ok (gp n c nm ca nd cb : Nat) (AR VA VB : Option Addr) (m d : List Nat) (l : List PI.Sg) (l1 : List Bool) {w0 w : World} {L : List Pr} (H : Sp w0 (Pen gp l1 :: L) w) (hn : n = l.length) (hnd : nd = d.length) (hnm : nm = m.length) (hsg : PI.SgOk l) (hl : l1.length ≤ 50000000) (hnb : n ≤ 100000)
  (hdl : 30 ≤ nd) (hml : 286 ≤ nm) (hdu : nd ≤ 1024) (hmu : nm ≤ 1024) (hd15 : ∀ x ∈ d, x ≤ 15) (hm15 : ∀ x ∈ m, x ≤ 15) (hds : PH.sum d ≤ 32768) (hms : PH.sum m ≤ 32768)
  (hr : Ent L fun w => Rd w AR (cellsS l)) (hvb : Ent L fun w => Rd w VB (cellsN d)) (hva : Ent L fun w => Rd w VA (cellsN m)) :
  Calls Tryd.prog 30 #[.pointer (some ⟨gp, 0, none⟩), .slice AR n c, .slice VA nm ca, .slice VB nd cb] w fun e w' => e = .returned (.tuple #[]) ∧ Sp w0 (Pen gp (l1 ++ PI.sgsW m d l n) :: L) w' := by
 have H4 := (((H.newBk [.pointer (some ⟨gp, 0, none⟩)] 58).newBk [.slice AR n c] 64).newBk [.slice VA nm ca] 67).newBk [.slice VB nd cb] 67
 have s1 : (w.alloc (.cells #[.pointer (some ⟨gp, 0, none⟩)] 58)).heap.size = w.heap.size + 1 := Array.size_push _
 have s2 : ((w.alloc (.cells #[.pointer (some ⟨gp, 0, none⟩)] 58)).alloc (.cells #[.slice AR n c] 64)).heap.size = w.heap.size + 1 + 1 := (Array.size_push _).trans (by rw [s1])
 have s3 : (((w.alloc (.cells #[.pointer (some ⟨gp, 0, none⟩)] 58)).alloc (.cells #[.slice AR n c] 64)).alloc (.cells #[.slice VA nm ca] 67)).heap.size = w.heap.size + 1 + 1 + 1 := (Array.size_push _).trans (by rw [s2])
 rw [s3, s2, s1] at H4
 clear s1 s2 s3
 have HR := Lib.hid hr
 have HND := Lib.hid hnd
 have HNM := Lib.hid hnm
 have HD15 := Lib.hid hd15
 have HM15 := Lib.hid hm15
 have HDS := Lib.hid hds
 have HMS := Lib.hid hms
 have HVB0 := Lib.hid hvb
 have HVA0 := Lib.hid hva
 have HSG := Lib.hid hsg
 have HN := Lib.hid hn
 have HVB : Hid (∀ g4 g5 g6 g7, Ent (Bk g7 67 [.slice VB nd cb] :: Bk g6 67 [.slice VA nm ca] :: Bk g5 64 [.slice AR n c] :: Bk g4 58 [.pointer (some ⟨gp, 0, none⟩)] :: Pen gp l1 :: L) fun w => Rd w VB (cellsN d)) := Lib.hid fun g4 g5 g6 g7 w0 w h => hvb w0 w (h.pick 5 [])
 have HVA : Hid (∀ g4 g5 g6 g7, Ent (Bk g7 67 [.slice VB nd cb] :: Bk g6 67 [.slice VA nm ca] :: Bk g5 64 [.slice AR n c] :: Bk g4 58 [.pointer (some ⟨gp, 0, none⟩)] :: Pen gp l1 :: L) fun w => Rd w VA (cellsN m)) := Lib.hid fun g4 g5 g6 g7 w0 w h => hva w0 w (h.pick 5 [])
 clear hr hvb hva hnd hnm hd15 hm15 hds hms hsg hn
 go_enter Tryd.func30, Tryd.ntmps30
 go_wp2_with fail
 generalize w.heap.size + 1 + 1 + 1 = g7 at H4 ⊢
 generalize w.heap.size + 1 + 1 = g6 at H4 ⊢
 generalize w.heap.size + 1 = g5 at H4 ⊢
 generalize w.heap.size = g4 at H4 ⊢
 generalize World.alloc _ _ = w4 at H4 ⊢
 have HVB2 := Lib.hid (HVB.out g4 g5 g6 g7)
 have HVA2 := Lib.hid (HVA.out g4 g5 g6 g7)
 clear HVA HVB
 have HX := Lib.hid H4
 clear H4 H
 refine wp_region_dp (L := (Bk g7 67 [.slice VB nd cb] :: Bk g6 67 [.slice VA nm ca] :: Bk g5 64 [.slice AR n c] :: Bk g4 58 [.pointer (some ⟨gp, 0, none⟩)] :: Pen gp l1 :: L)) (fun ix ux vx => ([(fun _ => (· = .slice VA nm ca)), (fun _ => fun _ => True), (fun _ => (· = .slice VB nd cb)), (fun _ => fun _ => True), (fun _ => fun u => u = .pointer (some ⟨ptB u, 0, none⟩)), (fun _ => fun u => u = .pointer (some ⟨ptB u, 0, none⟩)), (fun _ => (· = undef)), (fun _ => (· = undef))] : List (Value → Value → Prop)).getD ix (fun _ _ => True) ux vx)
  (fun ix ux vx => ([fun _ _ => [], fun _ u => [Row 63 1 u nm (rowU (PH.codeAt m) nm)], fun _ _ => [], fun _ u => [Row 63 1 u nd (rowU (PH.codeAt d) nd)], fun _ u => [Bk (ptB u) 107 [.slice none 0 0]], fun _ u => [Bk (ptB u) 107 [.slice none 0 0]], fun ux _ => [Ex fun u => Star (Bk (ptB ux) 107 [u]) (Row 63 1 u nm (rowU (PH.codeAt m) nm))], fun ux _ => [Ex fun u => Star (Bk (ptB ux) 107 [u]) (Row 63 1 u nd (rowU (PH.codeAt d) nd))]] : List (Value → Value → List Pr)).getD ix (fun _ _ => []) ux vx) (fun ix => ([[], [], [], [], [], [], [], []] : List (List Pr)).getD ix []) 8 18
  [some 11, some 12, some 13, some 14, some 8, some 9, none, none]
  [[], [0], [], [2, 1], [], [], [4, 1, 3, 0, 1, 4, 5], [5, 3, 6, 0, 1, 2, 3, 4, 5, 6]]
  [[], [0], [], [0, 1, 2], [], [], [0, 1, 2, 3, 4, 5], [0, 1, 2, 3, 4, 5, 6]]
  [[], [], [], [], [], [], [4, 1], [5, 3]]
  [[], [], [], [], [], [], [], []]
  [none, none, none, none, none, none, some 4, some 5] (by decide) [(6, .pointer (some ⟨g6, 0, none⟩)), (7, .pointer (some ⟨g7, 0, none⟩))]
  (by kernel_rfl) rfl (by decide) (by rfl) rfl (by decide +kernel) (by decide +kernel) (by rfl) rfl rfl (by decide) (by simp) (by rfl) (HX.out) ?hstep ?hend
 case hstep =>
  refine ⟨?_, ⟨?_, ⟨?_, ⟨?_, ⟨?_, ⟨?_, ⟨?_, ⟨?_, trivial⟩⟩⟩⟩⟩⟩⟩⟩
  ·intro x wx A rest hN hS hE H K hK0
   have e6 : A.tmps[6]?.getD undef = .pointer (some ⟨g6, 0, none⟩) := hN (6, .pointer (some ⟨g6, 0, none⟩)) (by simp)
   replace H : Sp w0 (rest) wx := H
   have hK : Hid (∀ (v : Value) (w' : World), v = .slice VA nm ca → Sp w0 (rest) w' → K (A.put (some 11) v) w') := Lib.hid hK0
   clear hK0 hN hS
   have ctb := hE (fun w => w.cell? ⟨g6, 0, none⟩ = some (.slice VA nm ca)) (fun w0 w h => h.cell 1 rfl 0) _ _ H
   change Oper.wp _ _ A wx K _
   go_step
   exact hK.out _ _ rfl (H)
  ·intro x wx A rest hN hS hE H K hK0
   have e11 : A.tmps[11]?.getD undef = .slice VA nm ca := ((hS 0 (by decide)).2 11 rfl).trans (hS 0 (by decide)).1
   replace H : Sp w0 (rest) wx := H
   have hK : Hid (∀ (v : Value) (w' : World), (fun _ => True) v → Sp w0 ((Row 63 1 v nm (rowU (PH.codeAt m) nm)) :: rest) w' → K (A.put (some 12) v) w') := Lib.hid hK0
   clear hK0 hN hS
   change Oper.wp _ _ A wx K _
   go_wp2_with fail
   refine (pcodes_ok VA nm ca m H HNM.out (hE _ HVA2.out) (by omega) HM15.out HMS.out).mono ?_
   rintro _ w9 ⟨v9, rfl, H9⟩
   exact hK.out _ _ trivial H9
  ·intro x wx A rest hN hS hE H K hK0
   have e7 : A.tmps[7]?.getD undef = .pointer (some ⟨g7, 0, none⟩) := hN (7, .pointer (some ⟨g7, 0, none⟩)) (by simp)
   replace H : Sp w0 (rest) wx := H
   have hK : Hid (∀ (v : Value) (w' : World), v = .slice VB nd cb → Sp w0 (rest) w' → K (A.put (some 13) v) w') := Lib.hid hK0
   clear hK0 hN hS
   have ctb := hE (fun w => w.cell? ⟨g7, 0, none⟩ = some (.slice VB nd cb)) (fun w0 w h => h.cell 0 rfl 0) _ _ H
   change Oper.wp _ _ A wx K _
   go_step
   exact hK.out _ _ rfl (H)
  ·intro x wx A rest hN hS hE H K hK0
   have e13 : A.tmps[13]?.getD undef = .slice VB nd cb := ((hS 2 (by decide)).2 13 rfl).trans (hS 2 (by decide)).1
   replace H : Sp w0 (rest) wx := H
   have hK : Hid (∀ (v : Value) (w' : World), (fun _ => True) v → Sp w0 ((Row 63 1 v nd (rowU (PH.codeAt d) nd)) :: rest) w' → K (A.put (some 14) v) w') := Lib.hid hK0
   clear hK0 hN hS
   change Oper.wp _ _ A wx K _
   go_wp2_with fail
   refine (pcodes_ok VB nd cb d H HND.out (hE _ HVB2.out) (by omega) HD15.out HDS.out).mono ?_
   rintro _ w9 ⟨v9, rfl, H9⟩
   exact hK.out _ _ trivial H9
  ·intro x wx A rest hN hS hE H K hK0
   replace H : Sp w0 (rest) wx := H
   have hK : Hid (∀ (v : Value) (w' : World), (fun u => u = .pointer (some ⟨ptB u, 0, none⟩)) v → Sp w0 ((Bk (ptB v) 107 [.slice none 0 0]) :: rest) w' → K (A.put (some 8) v) w') := Lib.hid hK0
   clear hK0 hN hS hE
   change Oper.wp _ _ A wx K _
   go_step
   exact hK.out _ _ rfl (H.newBk _ _)
  ·intro x wx A rest hN hS hE H K hK0
   replace H : Sp w0 (rest) wx := H
   have hK : Hid (∀ (v : Value) (w' : World), (fun u => u = .pointer (some ⟨ptB u, 0, none⟩)) v → Sp w0 ((Bk (ptB v) 107 [.slice none 0 0]) :: rest) w' → K (A.put (some 9) v) w') := Lib.hid hK0
   clear hK0 hN hS hE
   change Oper.wp _ _ A wx K _
   go_step
   exact hK.out _ _ rfl (H.newBk _ _)
  ·intro x wx A rest hN hS hE H K hK0
   have q8 := (hS 4 (by decide)).1
   have e8 : A.tmps[8]?.getD undef = x 4 := (hS 4 (by decide)).2 8 rfl
   have q12 := (hS 1 (by decide)).1
   have e12 : A.tmps[12]?.getD undef = x 1 := (hS 1 (by decide)).2 12 rfl
   replace H : Sp w0 ((Bk (ptB (x 4)) 107 [.slice none 0 0]) :: (Row 63 1 (x 1) nm (rowU (PH.codeAt m) nm)) :: rest) wx := H
   have hK : Hid (∀ (v : Value) (w' : World), v = undef → Sp w0 ((Ex fun u => Star (Bk (ptB (x 4)) 107 [u]) (Row 63 1 u nm (rowU (PH.codeAt m) nm))) :: rest) w' → K (A.put none v) w') := Lib.hid hK0
   clear hK0 hN hS hE
   obtain ⟨g9, eg⟩ : ∃ g9, ptB (x 4) = g9 := ⟨_, rfl⟩
   rw [q8] at e8
   rw [eg] at H hK e8
   have c0 : wx.cell? ⟨g9, 0, none⟩ = some (.slice none 0 0) := H.cell 0 rfl 0
   have z0 : wx.frozen? ⟨g9, 0, none⟩ = false := H.frozen 0 rfl 0
   obtain ⟨x9, ex9⟩ : ∃ x9, x 1 = x9 := ⟨_, rfl⟩
   rw [ex9] at e12 H
   obtain ⟨V9, c9, rfl, _, _⟩ := Row.form H 1 rfl
   change Oper.wp _ _ A wx K _
   go_step
   exact hK.out _ _ rfl (Sp.ex _ (Sp.star (H.set 0 (.slice V9 nm c9))))
  ·intro x wx A rest hN hS hE H K hK0
   have q9 := (hS 5 (by decide)).1
   have e9 : A.tmps[9]?.getD undef = x 5 := (hS 5 (by decide)).2 9 rfl
   have q14 := (hS 3 (by decide)).1
   have e14 : A.tmps[14]?.getD undef = x 3 := (hS 3 (by decide)).2 14 rfl
   replace H : Sp w0 ((Bk (ptB (x 5)) 107 [.slice none 0 0]) :: (Row 63 1 (x 3) nd (rowU (PH.codeAt d) nd)) :: rest) wx := H
   have hK : Hid (∀ (v : Value) (w' : World), v = undef → Sp w0 ((Ex fun u => Star (Bk (ptB (x 5)) 107 [u]) (Row 63 1 u nd (rowU (PH.codeAt d) nd))) :: rest) w' → K (A.put none v) w') := Lib.hid hK0
   clear hK0 hN hS hE
   obtain ⟨g9, eg⟩ : ∃ g9, ptB (x 5) = g9 := ⟨_, rfl⟩
   rw [q9] at e9
   rw [eg] at H hK e9
   have c0 : wx.cell? ⟨g9, 0, none⟩ = some (.slice none 0 0) := H.cell 0 rfl 0
   have z0 : wx.frozen? ⟨g9, 0, none⟩ = false := H.frozen 0 rfl 0
   obtain ⟨x9, ex9⟩ : ∃ x9, x 3 = x9 := ⟨_, rfl⟩
   rw [ex9] at e14 H
   obtain ⟨V9, c9, rfl, _, _⟩ := Row.form H 1 rfl
   change Oper.wp _ _ A wx K _
   go_step
   exact hK.out _ _ rfl (Sp.ex _ (Sp.star (H.set 0 (.slice V9 nd c9))))
 case hend =>
  intro x wx A hA hS H
  replace H : Sp w0 ((Ex fun u => Star (Bk (ptB (x 4)) 107 [u]) (Row 63 1 u nm (rowU (PH.codeAt m) nm))) :: (Ex fun u => Star (Bk (ptB (x 5)) 107 [u]) (Row 63 1 u nd (rowU (PH.codeAt d) nd))) :: (Bk g7 67 [.slice VB nd cb] :: Bk g6 67 [.slice VA nm ca] :: Bk g5 64 [.slice AR n c] :: Bk g4 58 [.pointer (some ⟨gp, 0, none⟩)] :: Pen gp l1 :: L)) wx := H
  have y4 : (x 4) = .pointer (some ⟨ptB (x 4), 0, none⟩) := hS 4 (by decide)
  have y5 : (x 5) = .pointer (some ⟨ptB (x 5), 0, none⟩) := hS 5 (by decide)
  clear hS
  simp only [putAll, Act.put, List.setIfInBounds_toArray, List.set_cons_succ, List.set_cons_zero, Nat.reduceAdd] at hA
  subst hA
  obtain ⟨g8, e8⟩ : ∃ g, ptB (x 4) = g := ⟨_, rfl⟩
  obtain ⟨g9, e9⟩ : ∃ g, ptB (x 5) = g := ⟨_, rfl⟩
  rw [e8] at y4 H
  rw [e9] at y5 H
  rw [y4, y5]
  clear y4 y5 e8 e9 HX
  obtain ⟨vc, H⟩ := H.unex
  replace H := (H.unstar.pick 3 [2, 0, 1])
  obtain ⟨vd, H⟩ := H.unex
  replace H := H.unstar
  obtain ⟨VC, cc, rfl, _, _⟩ := Row.form H 3 rfl
  obtain ⟨VD, cd, rfl, _, _⟩ := Row.form H 1 rfl
  have H5 := H.newBk [.int .i64 0] 3
  have H6 := H5.pick 10 [7, 0, 8, 1, 5, 3, 6, 9, 4, 2]
  have c5 : (wx.alloc (.cells [.int .i64 0].toArray 3)).cell? ⟨g5, 0, none⟩ = some (.slice AR n c) := H6.cell 0 rfl 0
  obtain ⟨g10, hg10⟩ : ∃ g10, wx.heap.size = g10 := ⟨_, rfl⟩
  rw [hg10] at H6
  have HY := Lib.hid H6
  have hmf : ∀ (fn : Fn) (first cap : Array Value) (w : World), (Instr.makeFunc fn first cap).run Tryd.prog w = .ok (.func fn first cap) w := fun _ _ _ _ => rfl
  clear H H5 H6
  go_wp2_with fail
  refine (countB_ok (w0 := w0) AR n c l _ _ _ _ _ _ _ (fun k : Nat => Bk g5 64 [.slice AR n c] :: Bk g10 3 [.int .i64 (k : Int)] :: Bk g4 58 [.pointer (some ⟨gp, 0, none⟩)] :: Bk g9 107 [.slice VD nd cd] :: Bk g7 67 [.slice VB nd cb] :: Bk g8 107 [.slice VC nm cc] :: Bk g6 67 [.slice VA nm ca] :: Pen gp (l1 ++ PI.sgsW m d l k) :: Row 63 1 (.slice VC nm cc) nm (rowU (PH.codeAt m) nm) :: Row 63 1 (.slice VD nd cd) nd (rowU (PH.codeAt d) nd) :: L) ?_ HN.out (by omega) HSG.out ?_ ?_).mono ?_
  ·have h := HY.out
   rw [show l1 = l1 ++ PI.sgsW m d l 0 by show l1 = l1 ++ []; rw [List.append_nil]] at h
   exact h
  ·exact fun k hk w0 w h => HR.out w0 w (h.pick 10 [])
  ·intro k X w hk Hk
   have hlen := PI.sgsW_len m d HM15.out HD15.out l HSG.out k (by rw [← HN.out]; omega)
   have h9 := cloB_ok g5 g10 g4 g9 g7 g8 g6 gp k n c nd cd cb nm cc ca AR VD VB VC VA m d l (PI.farAt l k) (l1 ++ PI.sgsW m d l k) Hk HN.out HND.out HNM.out hk rfl HSG.out (by rw [List.length_append]; omega) (by omega) hdl hml HD15.out HM15.out HDS.out HMS.out
    (fun w0 w h => HR.out w0 w (h.pick 2 [])) (fun w0 w h => row_ent 1 rfl w0 w h) (fun w0 w h => HVB0.out w0 w (h.pick 2 [])) (fun w0 w h => row_ent 0 rfl w0 w h) (fun w0 w h => HVA0.out w0 w (h.pick 2 []))
   rw [List.append_assoc] at h9
   exact h9
  ·rintro _ w9 ⟨rfl, H9⟩
   go_wp2_with fail
   go_end0
   exact ⟨rfl, H9.pick 10 [7]⟩
end Go.Proofs.YtiogaejfcenooaaDoor

namespace Go.Proofs.YtiogaejfcenooaaDoor
set_option linter.unusedVariables false
set_option linter.unusedSimpArgs false
namespace PI
theorem cps_len : ∀ (l : List (Nat × Nat)) (out : List UInt8), (cps l out).length ≤ l.length := by
 intro l
 induction l with
 | nil => intro out; exact Nat.le_refl _
 | cons c l ih =>
  intro out
  unfold cps
  split
  ·exact Nat.zero_le _
  ·have := ih (copy (1 + c.2 % min out.length 32768) (3 + c.1 % 256) out)
   simp only [List.length_cons]
   omega
theorem toks_count (x : WPart) (out : List UInt8) : (toks x out).length ≤ 86 := by
 unfold toks lits
 rw [List.length_append, List.length_map, List.length_take]
 have := cps_len (x.copies.take 6) (out ++ x.bytes.take 80)
 rw [List.length_take] at this
 omega
theorem toksO_most : ∀ (l : List Tok) (out : List UInt8), Good out l → (toksO out l).length ≤ out.length + 258 * l.length := by
 intro l
 induction l with
 | nil => intro out _; exact Nat.le_refl _
 | cons t l ih =>
  intro out h
  cases t with
  | lit c =>
   have := ih (out ++ [c]) h
   show (toksO (out ++ [c]) l).length ≤ _
   rw [List.length_append, List.length_singleton] at this
   rw [List.length_cons]
   omega
  | cpy n b =>
   obtain ⟨⟨h1, h2, _⟩, h6⟩ := h
   have := ih (copy b n out) h6
   show (toksO (copy b n out) l).length ≤ _
   rw [copy_len] at this
   rw [List.length_cons]
   omega
theorem sgs_count (x : WPart) (out : List UInt8) : (sgs (toks x out)).length ≤ 173 := by
 have h1 := sgs_len (toks x out)
 have h2 := toks_count x out
 omega
theorem toksW_len (m d : List Nat) (hm : ∀ x ∈ m, x ≤ 15) (hd : ∀ x ∈ d, x ≤ 15) (x : WPart) (out : List UInt8) : (toksW m d (toks x out)).length ≤ 4844 := by
 rw [← sgsW_toks]
 have h1 := sgsW_len m d hm hd (sgs (toks x out)) (sgOk_toks _ _ (good_toks x out)) _ (Nat.le_refl _)
 have h2 := sgs_count x out
 omega
theorem firstsW_len (FF l : List Nat) : (firstsW FF l).length = 3 * l.length := by
 unfold firstsW
 induction l with
 | nil => rfl
 | cons x l ih => rw [List.flatMap_cons, List.length_append, ih, PBits.bitsOf_length, List.length_cons]; omega
theorem tellsW_len (FF : List Nat) (h : ∀ x ∈ FF, x ≤ 7) (l : List (Nat × Nat)) : (tellsW FF l).length ≤ 14 * l.length := by
 unfold tellsW
 induction l with
 | nil => exact Nat.le_refl _
 | cons x l ih =>
  rw [List.flatMap_cons, List.length_append, List.length_cons]
  have h1 : (tellW FF x).length ≤ 14 := by
   unfold tellW sayW
   rw [List.length_append, codeW_len, PBits.bitsOf_length]
   have h2 := tellB_le x.1
   have h3 : FF.getD x.1 0 ≤ 7 := by
    rw [List.getD_eq_getElem?_getD]
    rcases Nat.lt_or_ge x.1 FF.length with h9 | h9
    ·rw [List.getElem?_eq_getElem h9]; exact h _ (List.getElem_mem h9)
    ·rw [List.getElem?_eq_none h9]; exact Nat.zero_le _
   omega
  omega
theorem headsW_len (a b : List Nat) (ha : a.length = 286) (hb : b.length = 30) (ha15 : ∀ x ∈ a, x ≤ 15) (hb15 : ∀ x ∈ b, x ≤ 15) : (headsW a b).length ≤ 4495 := by
 have h15 : ∀ x ∈ a ++ b, x ≤ 15 := fun x hx => by
  rcases List.mem_append.1 hx with h | h
  ·exact ha15 x h
  ·exact hb15 x h
 have hl : (a ++ b).length = 316 := by rw [List.length_append, ha, hb]
 have hr : (rowsOf a b).length ≤ 316 := by
  have h := tellsO_len [] (rowsOf a b)
  unfold rowsOf at h ⊢
  rw [rle_out _ (a ++ b) [] (Nat.le_refl _) h15, List.nil_append, hl] at h
  rw [hl]
  simp only [List.length_nil] at h
  omega
 obtain ⟨F1, F2, F3, F4, F5⟩ := lens_fits 19 7 ((rowsOf a b).map Prod.fst) (by decide) (by decide) (by decide) (by decide)
 have h2 := tellsW_len (firstOf (rowsOf a b)) F3 (rowsOf a b)
 unfold headsW headW
 simp only [List.length_append, PBits.bitsOf_length, firstsW_len, List.length_take]
 have : orderT.length = 19 := rfl
 omega
theorem lensA_ok (ts : List Tok) : book (lensA ts) = true ∧ (lensA ts).length = 286 ∧ ∀ x ∈ lensA ts, x ≤ 15 := by
 obtain ⟨F1, F2, F3, F4, F5⟩ := lens_fits 286 15 (symsOf ts) (by decide) (by decide) (by decide) (by decide)
 exact ⟨F1, F2, F3⟩
theorem lensB_ok (ts : List Tok) : book (lensB ts) = true ∧ (lensB ts).length = 30 ∧ ∀ x ∈ lensB ts, x ≤ 15 := by
 obtain ⟨F1, F2, F3, F4, F5⟩ := lens_fits 30 15 (farsOf ts) (by decide) (by decide) (by decide) (by decide)
 exact ⟨F1, F2, F3⟩
theorem fixedL_15 : ∀ x ∈ fixedL, x ≤ 15 := by decide +kernel
theorem fixedD_15 : ∀ x ∈ fixedD, x ≤ 15 := by decide +kernel
theorem bodyW_len (x : WPart) (n : Nat) (out : List UInt8) : (bodyW x n out).length ≤ 9400 := by
 unfold bodyW
 split
 ·rw [List.length_append, List.length_replicate]
  unfold storedW
  rw [List.length_append, List.length_append, PBits.bitsOf_length, PBits.bitsOf_length, PBits.ofB_length, List.length_take]
  omega
 split
 ·have := toksW_len fixedL fixedD fixedL_15 fixedD_15 x out
  omega
 ·obtain ⟨a1, a2, a3⟩ := lensA_ok (toks x out)
  obtain ⟨b1, b2, b3⟩ := lensB_ok (toks x out)
  have h1 := headsW_len _ _ a2 b2 a3 b3
  have h2 := toksW_len _ _ a3 b3 x out
  rw [List.length_append]
  omega
theorem partO_most (x : WPart) (out : List UInt8) : (partO x out).length ≤ out.length + 22188 := by
 unfold partO
 split
 ·rw [List.length_append, List.length_take]; omega
 ·have h1 := toksO_most _ _ (good_toks x out)
  have h2 := toks_count x out
  omega
theorem stW_most (l : List WPart) : ∀ i, (stW l i).1.length ≤ 9403 * i ∧ (stW l i).2.length ≤ 22188 * i := by
 intro i
 induction i with
 | zero => exact ⟨Nat.le_refl _, Nat.le_refl _⟩
 | succ i ih =>
  rw [stW]
  simp only
  have h1 := bodyW_len (l.getD i ⟨0, [], []⟩) ((stW l i).1.length + 3) (stW l i).2
  have h2 := partO_most (l.getD i ⟨0, [], []⟩) (stW l i).2
  unfold partW
  rw [List.length_append, List.length_append, List.length_append, PBits.bitsOf_length, List.length_singleton]
  omega
end PI
end Go.Proofs.YtiogaejfcenooaaDoor

