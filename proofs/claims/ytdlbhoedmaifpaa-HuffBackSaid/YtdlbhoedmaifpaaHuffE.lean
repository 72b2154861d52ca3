/- HuffE: Codes. -/
import Derived.Test.YtdlbhoedmaifpaaHuffD
namespace Go.Proofs.Ytdlbhoedmaifpaa
open Go.RowKit
theorem infoU : (Try.prog.info? 70).map (fun i => (i.zero, i.size, i.bytes)) = some (some (.int .u32 0), 1, 4) := by kernel_rfl
def rowU (f : Nat → Nat) (n : Nat) : List Value := (List.range n).map fun i => .int .u32 (f i : Int)
theorem rowU_get (f : Nat → Nat) (n i : Nat) (h : i < n) : (rowU f n)[i]? = some (.int .u32 (f i : Int)) := by
  unfold rowU
  rw [List.getElem?_map, List.getElem?_range h]
  rfl
theorem rowU_set (f : Nat → Nat) (n x v : Nat) : (rowU f n).set x (.int .u32 (v : Int)) = rowU (fun i => if i = x then v else f i) n := by
  apply List.ext_getElem?
  intro i
  rw [List.getElem?_set]
  by_cases h : i < n
  · rw [rowU_get _ _ _ h, rowU_get _ _ _ h]
    by_cases e : x = i
    · subst e
      rw [if_pos rfl, if_pos (by simp [rowU]; exact h), if_pos rfl]
    · rw [if_neg e, if_neg (fun h => e h.symm)]
  · have h1 : (rowU f n)[i]? = none := List.getElem?_eq_none (by simp [rowU]; omega)
    have h2 : (rowU (fun i => if i = x then v else f i) n)[i]? = none := List.getElem?_eq_none (by simp [rowU]; omega)
    rw [h1, h2]
    split
    · rw [if_neg (by simp [rowU]; omega)]
    · rfl
theorem rowU_zero (n : Nat) : List.replicate n (Value.int .u32 0) = rowU (fun _ => 0) n := by
  apply List.ext_getElem?
  intro i
  by_cases h : i < n
  · rw [rowU_get _ _ _ h, List.getElem?_replicate, if_pos h]; rfl
  · rw [List.getElem?_eq_none (by simp; omega), List.getElem?_eq_none (by simp [rowU]; omega)]
set_option maxRecDepth 100000 in
set_option maxHeartbeats 4000000 in
theorem codes_ok (A : Option Addr) (n c : Nat) (m : List Nat) {w0 w : World} {L : List Pr} (H : Sp w0 L w) (hn : n = m.length) (hb : Ent L fun w => Rd w A (cells64 (castI m))) (hl : n ≤ 1024) (h15 : ∀ x ∈ m, x ≤ 15) (hs : PH.sum m ≤ 32768) :
    Calls Try.prog 35 #[.slice A n c] w fun e w' => ∃ v, e = .returned (.tuple #[v, .int .i64 0]) ∧ Sp w0 (Row 70 1 v n (rowU (PH.codeAt m) n) :: L) w' := by
  obtain ⟨i0, hi0, hz0, hz1, hz2⟩ := info_parts infoU
  have hst := state_ok A n c m H hn hb hl h15
  have hne : ((PH.state m) == 1) = false := by
    rw [beq_eq_false_iff_ne]
    unfold PH.state
    split
    · omega
    · rw [if_neg (by omega)]; omega
  obtain ⟨st, hst2⟩ : ∃ st, PH.state m = st := ⟨_, rfl⟩
  rw [hst2] at hst hne
  clear hst2
  have HN := Lib.hid hn
  have HB := Lib.hid hb
  have H15 := Lib.hid h15
  have HS := Lib.hid hs
  have hf : ∀ k, k ≤ 16 → PH.fst m k ≤ 65536 := fun k hk => PH.fst_le m k hk hs
  have HF := Lib.hid hf
  clear hn hb h15 hs hf
  go_enter Try.func35, Try.ntmps35
  go_wp2_with fail
  refine hst.mono ?_
  rintro _ w1 ⟨rfl, H1⟩
  clear hst
  go_wp2_with fail
  refine (tally_ok A n c m H1 HN.out HB.out (by omega) H15.out).mono ?_
  rintro _ w2 ⟨rfl, H2⟩
  go_wp2_with fail
  refine (firsts_ok m H2 HS.out (by rw [← HN.out]; exact hl)).mono ?_
  rintro _ w3 ⟨rfl, H3⟩
  have H4 := H3.newBk [.int .u32 0, .int .u32 0, .int .u32 0, .int .u32 0, .int .u32 0, .int .u32 0, .int .u32 0, .int .u32 0, .int .u32 0, .int .u32 0, .int .u32 0, .int .u32 0, .int .u32 0, .int .u32 0, .int .u32 0, .int .u32 0, .int .u32 0] 117
  go_wp2_with (refine wpList_store_whole rfl 117 _ _ rfl w3.heap.size 117 _ (cntU (PH.fst m)) rfl rfl H4 rfl Try.sizeOf117 (cntU_one _) ?_)
  intro w4 H5
  generalize w3.heap.size = g6 at H5 ⊢
  clear H1 H2 H3 H4 H
  go_wp2_with (at_make; refine wpList_make_sp rfl _ _ _ rfl 70 i0 (.int .u32 0) Try.underlying60 hi0 hz0 hz1 rfl n rfl rfl (by rw [hz2]; omega) (by unfold maxLen; omega) H5 ?_)
  intro ad w5 H6
  rw [rowU_zero] at H6
  obtain ⟨G6, hG6⟩ : ∃ G : Addr, (⟨g6, 0, none⟩ : Addr) = G := ⟨_, rfl⟩
  rw [hG6]
  have HG6 := Lib.hid hG6
  clear hG6
  go_wp2_with fail
  go_loopw [30] (fun iv wr => ∃ k : Nat, iv = .int .i64 (k : Int) ∧ k ≤ n ∧ Sp w0 (Row 70 1 (.slice (some ad) n n) n (rowU (fun j => if j < k then PH.codeAt m j else 0) n) :: Bk g6 117 (cntU (fun i => PH.fst m i + if i = 0 then 0 else (m.take k).count i)) :: L) wr) (fun iv _ => n - (intOf iv).toNat)
  case atStart =>
    refine ⟨0, rfl, Nat.zero_le _, ?_⟩
    have e1 : (fun i => PH.fst m i + if i = 0 then 0 else (m.take 0).count i) = PH.fst m := by
      funext i
      simp
    have e2 : (fun j => if j < 0 then PH.codeAt m j else 0) = fun _ => 0 := by
      funext j
      rw [if_neg (Nat.not_lt_zero _)]
    rw [e1, e2]
    exact H6
  case round =>
    obtain ⟨k, rfl, hk, H7⟩ := hrel
    by_cases hkn : k < n
    · have k1 : (k : Int) < (n : Int) := by omega
      have hkm : k < m.length := by rw [← HN.out]; exact hkn
      obtain ⟨al, rfl, hc⟩ := (HB.out _ _ (H7.pick 2 [])).at64 (k := k) (by simpa [castI] using hkm)
      obtain ⟨x, hx⟩ : ∃ x, m[k] = x := ⟨_, rfl⟩
      have hx15 : x ≤ 15 := by rw [← hx]; exact H15.out _ (List.getElem_mem hkm)
      replace hc : wr.cell? (al.add k) = some (.int .i64 (x : Int)) := by
        rw [hc]
        simp [castI, hx]
      have hgd : m.getD k 0 = x := by rw [List.getD_eq_getElem?_getD, List.getElem?_eq_getElem hkm, hx]; rfl
      have htk : ∀ i, (m.take (k + 1)).count i = (m.take k).count i + if i = x then 1 else 0 := fun i => by
        rw [List.take_succ_eq_append_getElem hkm, List.count_append, hx, List.count_singleton]
        by_cases e : i = x
        · subst e; simp
        · rw [if_neg e, if_neg (by simpa using fun h => e h.symm)]
      have HGD := Lib.hid hgd
      have HTK := Lib.hid htk
      clear hgd htk hx
      by_cases hx0 : 0 < x
      · have k2 : (0 : Int) < (x : Int) := by omega
        obtain ⟨q, hq⟩ : ∃ q, PH.fst m x + (m.take k).count x = q := ⟨_, rfl⟩
        have hqb : q ≤ 70000 := by
          rw [← hq]
          have h1 := HF.out x (by omega)
          have h2 : (m.take k).count x ≤ 1024 := Nat.le_trans List.count_le_length (by rw [List.length_take]; omega)
          omega
        have k3 : (x : Int) < 17 := by omega
        have hcode : PH.codeAt m k = q := by
          unfold PH.codeAt
          rw [HGD.out, if_neg (by omega), hq]
        have c6 : wr.cell? (G6.add x) = some (.int .u32 (q : Int)) := by
          rw [← HG6.out, addr0, H7.cell 1 rfl x, cntU_get _ _ (by omega), if_neg (by omega), hq]
        obtain ⟨ad2, c2, ev, _, hcc, hfz, hset⟩ := H7.rowSet hkn
        injection ev with ev
        injection ev with ev
        subst ev
        rw [rowU_get _ _ _ hkn, if_neg (Nat.lt_irrefl _)] at hcc
        replace hcc : wr.cell? (ad.add k) = some (.int .u32 0) := hcc
        have H8 := hset (.int .u32 (q : Int))
        rw [rowU_set] at H8
        have d6 : (wr.setCell (ad.add k) (.int .u32 (q : Int))).cell? (G6.add x) = some (.int .u32 (q : Int)) := by
          rw [← HG6.out, addr0, H8.cell 1 rfl x, cntU_get _ _ (by omega), if_neg (by omega), hq]
        have e6 : (wr.setCell (ad.add k) (.int .u32 (q : Int))).frozen? (G6.add x) = false := by
          rw [← HG6.out, addr0]
          exact H8.frozen 1 rfl x
        have H9 := (H8.swap.set x (.int .u32 ((q + 1 : Nat) : Int))).swap
        rw [cntU_set] at H9
        have e1 : (fun i => if i = x then q + 1 else PH.fst m i + if i = 0 then 0 else (m.take k).count i) = fun i => PH.fst m i + if i = 0 then 0 else (m.take (k + 1)).count i := by
          funext i
          rw [HTK.out]
          by_cases e : i = x
          · subst e
            rw [if_pos rfl, if_neg (by omega), if_pos rfl, ← hq]; omega
          · rw [if_neg e, if_neg e, Nat.add_zero]
        have e2 : (fun i => if i = k then q else if i < k then PH.codeAt m i else 0) = fun i => if i < k + 1 then PH.codeAt m i else 0 := by
          funext i
          by_cases e : i = k
          · subst e
            rw [if_pos rfl, if_pos (by omega), hcode]
          · rw [if_neg e]
            by_cases h : i < k
            · rw [if_pos h, if_pos (by omega)]
            · rw [if_neg h, if_neg (by omega)]
        rw [e1, e2] at H9
        have eg : (⟨g6, x, none⟩ : Addr) = G6.add x := by rw [← HG6.out, addr0]
        rw [eg] at H9
        have H10 := Lib.hid H9
        clear H9 H8 hset e1 e2 eg hcode hq
        go_wp2_with fail
        go_roundw
        case rel => exact ⟨k + 1, by go_num, by omega, H10.out⟩
        case measure => first | (simp [intOf]; omega) | simp [intOf]
      · have k2 : ¬ (0 : Int) < (x : Int) := by omega
        obtain rfl : x = 0 := by omega
        have e1 : (fun i => PH.fst m i + if i = 0 then 0 else (m.take k).count i) = fun i => PH.fst m i + if i = 0 then 0 else (m.take (k + 1)).count i := by
          funext i
          rw [HTK.out]
          by_cases e : i = 0
          · rw [if_pos e, if_pos e]
          · rw [if_neg e, if_neg e, if_neg e, Nat.add_zero]
        have e2 : (fun i => if i < k then PH.codeAt m i else 0) = fun i => if i < k + 1 then PH.codeAt m i else 0 := by
          funext i
          by_cases e : i = k
          · subst e
            rw [if_neg (Nat.lt_irrefl _), if_pos (by omega)]
            unfold PH.codeAt
            rw [HGD.out, if_pos rfl]
          · by_cases h : i < k
            · rw [if_pos h, if_pos (by omega)]
            · rw [if_neg h, if_neg (by omega)]
        rw [e1, e2] at H7
        have H10 := Lib.hid H7
        clear H7 e1 e2
        go_wp2_with fail
        go_roundw
        case rel => exact ⟨k + 1, by go_num, by omega, H10.out⟩
        case measure => first | (simp [intOf]; omega) | simp [intOf]
    · have k1 : ¬ (k : Int) < (n : Int) := by omega
      obtain rfl : k = n := by omega
      have e2 : rowU (fun j => if j < k then PH.codeAt m j else 0) k = rowU (PH.codeAt m) k := by
        unfold rowU
        refine List.map_congr_left fun j hj => ?_
        show Value.int .u32 ((if j < k then PH.codeAt m j else 0 : Nat) : Int) = _
        rw [if_pos (List.mem_range.1 hj)]
      rw [e2] at H7
      go_wp2_with fail
      go_ret2
      exact ⟨_, rfl, H7.pick 2 [0]⟩
end Go.Proofs.Ytdlbhoedmaifpaa
