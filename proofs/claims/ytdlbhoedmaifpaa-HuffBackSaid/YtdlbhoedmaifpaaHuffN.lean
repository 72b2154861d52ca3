/- HuffN: packs of packs: what a pack means; spread. -/
import Derived.Test.YtdlbhoedmaifpaaHuffM
namespace Go.Proofs.Ytdlbhoedmaifpaa
set_option linter.unusedVariables false
open Go.RowKit
/-- The blocks of two packs, as they were made; they stay. -/
abbrev PoolT := List (Nat × PK × PK)
def Pool (F : PoolT) : Pr := fun h => ∀ e ∈ F, h e.1 = some (.cells (e.2.1.cells ++ e.2.2.cells).toArray 104 (0, 0))
/-- Pack x bears count c and the symbols s. -/
inductive Enc (F : PoolT) : Nat → List Nat → PK → Prop
  | leaf (c s : Nat) : Enc F c [s] ⟨(c : Int), (s : Int), none⟩
  | node {ca cb : Nat} {sa sb : List Nat} {pa pb : PK} {g : Nat} (h : (g, pa, pb) ∈ F) (ha : Enc F ca sa pa) (hb : Enc F cb sb pb) : Enc F (ca + cb) (sa ++ sb) ⟨((ca + cb : Nat) : Int), 0, some g⟩
theorem Enc.count {F : PoolT} {c : Nat} {s : List Nat} {x : PK} (h : Enc F c s x) : x.c = (c : Int) := by cases h <;> rfl
theorem Enc.mono {F F' : PoolT} {c : Nat} {s : List Nat} {x : PK} (h : Enc F c s x) (k : ∀ e ∈ F, e ∈ F') : Enc F' c s x := by
  induction h with
  | leaf => exact .leaf _ _
  | node h _ _ iha ihb => exact .node (k _ h) iha ihb
theorem Enc.one {F : PoolT} {c : Nat} {s : List Nat} {x : PK} (h : Enc F c s x) : 0 < s.length := by
  induction h with
  | leaf => simp
  | node h _ _ iha ihb => rw [List.length_append]; omega
theorem Pool.get {w0 w : World} {L : List Pr} {F : PoolT} (H : Sp w0 L w) (k : Nat) (hk : L[k]? = some (Pool F)) {g : Nat} {pa pb : PK} (h : (g, pa, pb) ∈ F) :
    w.cell? ⟨g, 0, none⟩ = some (.int .i64 pa.c) ∧ w.cell? ⟨g, 1, none⟩ = some (.int .i64 pa.s) ∧ w.cell? ⟨g, 2, none⟩ = some pa.ptr ∧ w.cell? ⟨g, 3, none⟩ = some (.int .i64 pb.c) ∧ w.cell? ⟨g, 4, none⟩ = some (.int .i64 pb.s) ∧ w.cell? ⟨g, 5, none⟩ = some pb.ptr := by
  obtain ⟨_, _, _, own, hL⟩ := H
  have h2 := (rs_some (hL k _ hk _ h)).2
  have hb : Blk w g 104 (pa.cells ++ pb.cells) := h2
  exact ⟨hb.cell 0, hb.cell 1, hb.cell 2, hb.cell 3, hb.cell 4, hb.cell 5⟩
theorem Pool.nil {w0 w : World} {L : List Pr} (H : Sp w0 L w) : Sp w0 (Pool [] :: L) w := by
  have := H.rowNil 0 0
  exact this.imp fun _ _ e he => by cases he
theorem Pool.cons {w0 w : World} {L : List Pr} {F : PoolT} {g : Nat} {pa pb : PK} (H : Sp w0 (Bk g 104 (pa.cells ++ pb.cells) :: Pool F :: L) w) : Sp w0 (Pool ((g, pa, pb) :: F) :: L) w := by
  refine H.star.imp fun p hp => ?_
  obtain ⟨s, h1, h2⟩ := hp
  intro e he
  rcases List.mem_cons.1 he with rfl | he
  · exact (rs_some h1).2
  · exact (rs_some (h2 e he)).2
/-- How often each symbol stands in a row of symbols. -/
def cntR (n : Nat) (acc : List Nat) : List Value := (List.range n).map fun i => .int .i64 (acc.count i : Int)
theorem cntR_get (n i : Nat) (acc : List Nat) (h : i < n) : (cntR n acc)[i]? = some (.int .i64 (acc.count i : Int)) := by
  unfold cntR
  rw [List.getElem?_map, List.getElem?_range h]; rfl
theorem cntR_len (n : Nat) (acc : List Nat) : (cntR n acc).length = n := by simp [cntR]
theorem cntR_set (n s : Nat) (acc : List Nat) (v : Int) (hv : v = ((acc.count s : Nat) : Int) + 1) : (cntR n acc).set s (.int .i64 v) = cntR n (acc ++ [s]) := by
  apply List.ext_getElem?
  intro i
  rw [List.getElem?_set]
  by_cases h : i < n
  · rw [cntR_get _ _ _ h, cntR_get _ _ _ h, List.count_append, List.count_singleton]
    by_cases e : s = i
    · subst e
      rw [if_pos rfl, if_pos (by rw [cntR_len]; exact h), hv]
      simp
    · rw [if_neg e]
      have : (s == i) = false := by rw [beq_eq_false_iff_ne]; exact e
      simp [e]
  · have h1 : (cntR n acc)[i]? = none := List.getElem?_eq_none (by rw [cntR_len]; omega)
    have h2 : (cntR n (acc ++ [s]))[i]? = none := List.getElem?_eq_none (by rw [cntR_len]; omega)
    rw [h1, h2]
    split
    · rw [if_neg (by rw [cntR_len]; omega)]
    · rfl
set_option maxRecDepth 100000 in
set_option maxHeartbeats 2000000 in
theorem spread_ok {F : PoolT} {w0 : World} {n : Nat} {v : Value} (hn : n ≤ 1000000) {cc : Nat} {s : List Nat} {x : PK} (hE : Enc F cc s x) :
    ∀ (L : List Pr) (acc : List Nat) (w : World), (∀ z ∈ s, z < n) → acc.length + s.length ≤ 1000000000 → Sp w0 (Row 3 1 v n (cntR n acc) :: Pool F :: L) w →
    Calls Try.prog 53 #[x.val, v] w fun e w' => e = .returned (.tuple #[]) ∧ Sp w0 (Row 3 1 v n (cntR n (acc ++ s)) :: Pool F :: L) w' := by
  induction hE with
  | leaf c s =>
    intro L acc w hs hl H
    have hsn : s < n := hs s (List.mem_singleton.2 rfl)
    unfold PK.val PK.ptr
    simp only [Option.map_none]
    have H1 := (H.newBk [.int .i64 (c : Int), .int .i64 (s : Int), .pointer none] 102).swap
    clear H hs
    obtain ⟨ad, cv, hv, _, hc, hz, hset⟩ := H1.rowSet hsn
    subst hv
    rw [cntR_get _ _ _ hsn] at hc
    obtain ⟨q, hq⟩ : ∃ q, acc.count s = q := ⟨_, rfl⟩
    have hql : q ≤ 1000000000 := by
      rw [← hq]
      refine Nat.le_trans List.count_le_length ?_
      omega
    rw [hq] at hc
    have k1 : (s : Int) < (n : Int) := by omega
    have hres := hset (.int .i64 ((q : Int) + 1))
    rw [cntR_set n s acc _ (by rw [hq])] at hres
    have HR := Lib.hid hres
    clear hres hset hq
    go_enter Try.func53, Try.ntmps53
    go_wp2_with fail
    refine bodyPost_ret (results_none rfl _ _ _) rfl ?_
    exact ⟨rfl, HR.out.pick 3 [0, 2]⟩
  | @node ca cb sa sb pa pb g hF ha hb iha ihb =>
    intro L acc w hs hl H
    rw [List.length_append] at hl
    unfold PK.val PK.ptr at *
    simp only [Option.map_some] at *
    have H1 : Sp w0 (Row 3 1 v n (cntR n acc) :: Pool F :: Bk w.heap.size 102 [.int .i64 ((ca + cb : Nat) : Int), .int .i64 0, .pointer (some ⟨g, 0, none⟩)] :: L) (w.alloc (.cells #[.int .i64 ((ca + cb : Nat) : Int), .int .i64 0, .pointer (some ⟨g, 0, none⟩)] 102)) := (H.newBk [.int .i64 ((ca + cb : Nat) : Int), .int .i64 0, .pointer (some ⟨g, 0, none⟩)] 102).pick 3 [1, 2, 0]
    obtain ⟨p0, p1, p2, p3, p4, p5⟩ := Pool.get H1 1 rfl hF
    have ia := iha _ acc _ (fun z hz => hs z (List.mem_append_left _ hz)) (by omega) H1
    have ib := fun (M : List Pr) w => ihb M (acc ++ sa) w (fun z hz => hs z (List.mem_append_right _ hz)) (by rw [List.length_append]; omega)
    have IA := Lib.hid ia
    have IB := Lib.hid ib
    have HF := Lib.hid hF
    obtain ⟨cc, hcc⟩ : ∃ cc : Int, ((ca + cb : Nat) : Int) = cc := ⟨_, rfl⟩
    rw [hcc] at H1 IA p0 p1 p2 p3 p4 p5
    rw [hcc]
    unfold PK.ptr at p2 p5
    clear hcc hF hs iha ihb ia ib H ha hb
    go_enter Try.func53, Try.ntmps53
    go_wp2_with fail
    refine IA.out.mono ?_
    rintro _ w2 ⟨rfl, H2⟩
    clear IA H1 p0 p1 p2 p3 p4 p5
    obtain ⟨p0, p1, p2, p3, p4, p5⟩ := Pool.get H2 1 rfl HF.out
    have b2 := H2.cell 2 rfl 2
    simp only [List.getElem?_cons_zero, List.getElem?_cons_succ] at b2
    unfold PK.ptr at p2 p5
    have HI := Lib.hid (IB.out _ _ H2)
    clear IB
    go_wp2_with fail
    refine HI.out.mono ?_
    rintro _ w3 ⟨rfl, H3⟩
    go_wp2_with fail
    go_end0
    refine ⟨rfl, ?_⟩
    rw [← List.append_assoc]
    exact H3.pick 3 [0, 1]
end Go.Proofs.Ytdlbhoedmaifpaa
