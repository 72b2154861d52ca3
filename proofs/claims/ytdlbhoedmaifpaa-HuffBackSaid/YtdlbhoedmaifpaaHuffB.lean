/- HuffB: tally. -/
import Derived.Test.YtdlbhoedmaifpaaHuffA
import Derived.Test.YtdlbhoedmaifpaaLib4
namespace Go.Proofs.Ytdlbhoedmaifpaa
open Go.RowKit
/-- Sixteen numbers, as cells. -/
def cntV (f : Nat → Nat) : List Value := (List.range 16).map fun i => .int .i64 (f i : Int)
theorem cntV_get (f : Nat → Nat) (i : Nat) (h : i < 16) : (cntV f)[i]? = some (.int .i64 (f i : Int)) := by
  unfold cntV
  rw [List.getElem?_map, List.getElem?_range h]
  rfl
theorem cntV_set (f : Nat → Nat) (x v : Nat) : (cntV f).set x (.int .i64 (v : Int)) = cntV fun i => if i = x then v else f i := by
  apply List.ext_getElem?
  intro i
  rw [List.getElem?_set]
  by_cases h : i < 16
  · rw [cntV_get _ _ h, cntV_get _ _ h]
    by_cases e : x = i
    · subst e
      rw [if_pos rfl, if_pos (by simp [cntV]; exact h), if_pos rfl]
    · rw [if_neg e, if_neg (fun h => e h.symm)]
  · have h1 : (cntV f)[i]? = none := List.getElem?_eq_none (by simp [cntV]; omega)
    have h2 : (cntV fun i => if i = x then v else f i)[i]? = none := List.getElem?_eq_none (by simp [cntV]; omega)
    rw [h1, h2]
    split
    · rw [if_neg (by simp [cntV]; omega)]
    · rfl
theorem cntV_one (f : Nat → Nat) : ∀ v ∈ cntV f, v.oneCell' = true := by
  intro v hv
  obtain ⟨i, _, rfl⟩ := List.mem_map.1 hv
  rfl
def tallyV (m : List Nat) : Value := .agg (cntV (PH.tal m)).toArray
theorem addr0 (g j : Nat) : (⟨g, 0, none⟩ : Addr).add j = ⟨g, j, none⟩ := by
  unfold Addr.add; split
  · rename_i h0; subst h0; rfl
  · simp
def castI (m : List Nat) : List Int := m.map fun n : Nat => (n : Int)
set_option maxRecDepth 100000 in
set_option maxHeartbeats 4000000 in
theorem tally_ok (A : Option Addr) (n c : Nat) (m : List Nat) {w0 w : World} {L : List Pr} (H : Sp w0 L w) (hn : n = m.length) (hb : Ent L fun w => Rd w A (cells64 (castI m))) (hl : n ≤ 1000000000) (h15 : ∀ x ∈ m, x ≤ 15) :
    Calls Try.prog 57 #[.slice A n c] w fun e w' => e = .returned (tallyV m) ∧ Sp w0 L w' := by
  have HN := Lib.hid hn
  have HB := Lib.hid hb
  clear hn hb
  obtain ⟨t, ht⟩ : ∃ t, tallyV m = t := ⟨_, rfl⟩
  rw [ht]
  have HT := Lib.hid ht
  clear ht
  have es : (w.alloc (.cells #[.int .i64 0, .int .i64 0, .int .i64 0, .int .i64 0, .int .i64 0, .int .i64 0, .int .i64 0, .int .i64 0, .int .i64 0, .int .i64 0, .int .i64 0, .int .i64 0, .int .i64 0, .int .i64 0, .int .i64 0, .int .i64 0] 112)).heap.size = w.heap.size + 1 := Array.size_push _
  have H1 := (H.newBk [.int .i64 0, .int .i64 0, .int .i64 0, .int .i64 0, .int .i64 0, .int .i64 0, .int .i64 0, .int .i64 0, .int .i64 0, .int .i64 0, .int .i64 0, .int .i64 0, .int .i64 0, .int .i64 0, .int .i64 0, .int .i64 0] 112).newBk [.int .i64 0, .int .i64 0, .int .i64 0, .int .i64 0, .int .i64 0, .int .i64 0, .int .i64 0, .int .i64 0, .int .i64 0, .int .i64 0, .int .i64 0, .int .i64 0, .int .i64 0, .int .i64 0, .int .i64 0, .int .i64 0] 112
  rw [es] at H1
  clear es
  go_enter Try.func57, Try.ntmps57
  go_wp2_with fail
  generalize w.heap.size + 1 = g3 at H1 ⊢
  generalize w.heap.size = g2 at H1 ⊢
  generalize (w.alloc _).alloc _ = w1 at H1 ⊢
  obtain ⟨G, hG⟩ : ∃ G : Addr, (⟨g3, 0, none⟩ : Addr) = G := ⟨_, rfl⟩
  rw [hG]
  have HG := Lib.hid hG
  clear hG
  go_loopw [8] (fun iv wr => ∃ i : Nat, iv = .int .i64 (i : Int) ∧ i ≤ n ∧ Sp w0 (Bk g3 112 (cntV fun k => (m.take i).count k) :: Bk g2 112 [.int .i64 0, .int .i64 0, .int .i64 0, .int .i64 0, .int .i64 0, .int .i64 0, .int .i64 0, .int .i64 0, .int .i64 0, .int .i64 0, .int .i64 0, .int .i64 0, .int .i64 0, .int .i64 0, .int .i64 0, .int .i64 0] :: L) wr) (fun iv _ => n - (intOf iv).toNat)
  case atStart => exact ⟨0, rfl, Nat.zero_le _, H1⟩
  case round =>
    obtain ⟨i, rfl, hi, H2⟩ := hrel
    by_cases hin : i < n
    · have k1 : (i : Int) < (n : Int) := by omega
      have hiX : i < m.length := by rw [← HN.out]; exact hin
      obtain ⟨ad, rfl, hc⟩ := (HB.out _ _ (H2.pick 2 [])).at64 (k := i) (by simpa [castI] using hiX)
      obtain ⟨x, hx⟩ : ∃ x, m[i] = x := ⟨_, rfl⟩
      have hx15 : x ≤ 15 := by rw [← hx]; exact h15 _ (List.getElem_mem hiX)
      replace hc : wr.cell? (ad.add i) = some (.int .i64 (x : Int)) := by
        rw [hc]
        simp [castI, hx]
      obtain ⟨q, hq⟩ : ∃ q, (m.take i).count x = q := ⟨_, rfl⟩
      have hqn : q ≤ i := by
        rw [← hq]
        refine Nat.le_trans List.count_le_length ?_
        rw [List.length_take]; omega
      have c1 : wr.cell? (G.add x) = some (.int .i64 (q : Int)) := by
        rw [← HG.out, addr0, H2.cell 0 rfl x, cntV_get _ _ (by omega), hq]
      have z1 : wr.frozen? (G.add x) = false := by
        rw [← HG.out, addr0]
        exact H2.frozen 0 rfl x
      have k2 : (x : Int) < 16 := by omega
      have hset : Sp w0 (Bk g3 112 (cntV fun k => (m.take (i + 1)).count k) :: Bk g2 112 [.int .i64 0, .int .i64 0, .int .i64 0, .int .i64 0, .int .i64 0, .int .i64 0, .int .i64 0, .int .i64 0, .int .i64 0, .int .i64 0, .int .i64 0, .int .i64 0, .int .i64 0, .int .i64 0, .int .i64 0, .int .i64 0] :: L) (wr.setCell (G.add x) (.int .i64 ((q : Int) + 1))) := by
        have h := H2.set x (.int .i64 ((q + 1 : Nat) : Int))
        rw [cntV_set] at h
        rw [← HG.out, addr0]
        have e : (fun k => (m.take (i + 1)).count k) = fun k => if k = x then q + 1 else (m.take i).count k := by
          funext k
          rw [List.take_succ_eq_append_getElem hiX, List.count_append, hx]
          by_cases ek : k = x
          · subst ek
            rw [if_pos rfl, hq]
            simp
          · rw [if_neg ek, List.count_singleton, beq_eq_false_iff_ne.2 (fun h => ek h.symm)]
            simp
        rw [e]
        exact h
      have HS := Lib.hid hset
      clear hset hq hx
      go_wp2_with fail
      go_roundw
      case rel => exact ⟨i + 1, by go_num, by omega, HS.out⟩
      case measure => first | (simp [intOf]; omega) | simp [intOf]
    · have k1 : ¬ (i : Int) < (n : Int) := by omega
      rw [List.take_of_length_le (by rw [← HN.out]; omega)] at H2
      have e0 : (fun i => if i = 0 then 0 else m.count i) = PH.tal m := by
        funext i; unfold PH.tal; rfl
      have H4 := H2.set 0 (.int .i64 ((0 : Nat) : Int))
      rw [cntV_set, e0] at H4
      have c0 : wr.cell? ⟨g3, 0, none⟩ = some (.int .i64 (m.count 0 : Int)) := by rw [H2.cell 0 rfl 0, cntV_get _ _ (by omega)]
      have z0 : wr.frozen? ⟨g3, 0, none⟩ = false := H2.frozen 0 rfl 0
      have HH4 := Lib.hid H4
      have hsw := H4.swap
      have HSW := Lib.hid hsw
      clear H4 hsw
      obtain rfl := HG.out
      go_wp2_with (first | (refine wpList_load_whole rfl 112 _ rfl g3 112 (cntV (PH.tal m)) rfl (HH4.out.blk 0 rfl) Try.isAgg112 Try.sizeOf112 ?_) | (refine wpList_store_whole rfl 112 _ _ rfl g2 112 _ (cntV (PH.tal m)) rfl rfl HSW.out rfl Try.sizeOf112 (cntV_one _) ?_))
      intro w9 H9
      go_wp2_with fail
      have hld := run_loadCells_list (P := Try.prog) w9 ⟨g2, 0, none⟩ (cntV (PH.tal m)) (fun j v hj => by rw [addr0, H9.cell 0 rfl]; exact hj)
      rw [show (cntV (PH.tal m)).length = 16 from rfl] at hld
      refine bodyPost_ret (v := tallyV m) (by simp [results, Try.results57, Try.isAgg112, Try.sizeOf112, hld, Result.andThen, tallyV, asAddr, loadVar]) rfl ?_
      exact ⟨by rw [HT.out], H9.pick 2 []⟩
end Go.Proofs.Ytdlbhoedmaifpaa
