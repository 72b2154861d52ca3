/- HuffW: the document's Lengths. -/
import Derived.Test.YtdlbhoedmaifpaaHuffV
import Derived.Test.YtdlbhoedmaifpaaSepRegion2
namespace Go.Proofs.Ytdlbhoedmaifpaa
set_option linter.unusedVariables false
set_option linter.unusedSimpArgs false
open Go.RowKit
def blkH : Value → Nat
  | .pointer (some a) => a.block
  | _ => 0
/-- Rows of symbols, as they were made; they stay. -/
abbrev RPoolT := List ((Option Addr × Nat) × List Nat)
def RPool (F : RPoolT) : Pr := fun h => ∀ e ∈ F, Row 3 1 (.slice e.1.1 e.2.length e.1.2) e.2.length (cellsN e.2) h
theorem Row.more {e : TypeId} {z n : Nat} {v : Value} {xs : List Value} {s : Nat → Prop} {h : Hp} (k : Row e z v n xs (rs s h)) : Row e z v n xs h := by
  refine ⟨k.1, k.2.imp id ?_⟩
  rintro ⟨g, cap, cur, hv, hg, r⟩
  exact ⟨g, cap, cur, hv, (rs_some hg).2, r⟩
theorem RPool.nil {w0 w : World} {L : List Pr} (H : Sp w0 L w) : Sp w0 (RPool [] :: L) w := by
  have := H.rowNil 0 0
  exact this.imp fun _ _ e he => by cases he
theorem RPool.cons {w0 w : World} {L : List Pr} {F : RPoolT} {A : Option Addr} {c : Nat} {s : List Nat} (H : Sp w0 (Row 3 1 (.slice A s.length c) s.length (cellsN s) :: RPool F :: L) w) : Sp w0 (RPool (((A, c), s) :: F) :: L) w := by
  refine H.star.imp fun p hp => ?_
  obtain ⟨q, h1, h2⟩ := hp
  intro e he
  rcases List.mem_cons.1 he with rfl | he
  · exact h1.more
  · exact (h2 e he).more
theorem RPool.rd {w0 w : World} {L : List Pr} {F : RPoolT} (H : Sp w0 (RPool F :: L) w) {A : Option Addr} {c : Nat} {s : List Nat} (h : ((A, c), s) ∈ F) : Rd w A (cellsN s) ∧ s.length ≤ c ∧ c ≤ maxLen := by
  have H2 : Sp w0 (Row 3 1 (.slice A s.length c) s.length (cellsN s) :: L) w := H.imp fun p hp => hp _ h
  obtain ⟨A9, c9, e9, hr, h1, h2⟩ := H2.row_rd 0 rfl
  injection e9 with e1 e2 e3
  subst e1 e3
  exact ⟨hr, h1, h2⟩
def EncR (F : RPoolT) (t : PL.Pk) (x : RK) : Prop := x.c = (t.1 : Int) ∧ ((x.A, x.cp), t.2) ∈ F ∧ x.n = t.2.length
def EncRL (F : RPoolT) (ts : List PL.Pk) (xs : List RK) : Prop := All2 (EncR F) ts xs
theorem EncR.mono {F F' : RPoolT} {t : PL.Pk} {x : RK} (h : EncR F t x) (k : ∀ e ∈ F, e ∈ F') : EncR F' t x := ⟨h.1, k _ h.2.1, h.2.2⟩
theorem EncRL.mono {F F' : RPoolT} {ts : List PL.Pk} {xs : List RK} (h : EncRL F ts xs) (k : ∀ e ∈ F, e ∈ F') : EncRL F' ts xs := All2.mono (fun _ _ h => EncR.mono h k) h
theorem EncRL.put {F : RPoolT} {ts : List PL.Pk} {xs : List RK} {t : PL.Pk} {x : RK} (h : EncRL F ts xs) (k : EncR F t x) : EncRL F (SS.put PL.keyP ts t) (SS.put keyR xs x) := All2.put (fun _ _ h => by show _ = RK.c _; rw [h.1]; rfl) h k
theorem itemsTo_isort (cs : List Nat) (k : Nat) : SS.isort PL.keyP (PL.itemsTo cs (k + 1)) = if 0 < cs.getD k 0 then SS.put PL.keyP (SS.isort PL.keyP (PL.itemsTo cs k)) (cs.getD k 0, [k]) else SS.isort PL.keyP (PL.itemsTo cs k) := by
  rw [PL.itemsTo_succ]
  split
  · rw [SS.isort_snoc]
  · rfl
theorem nxt_mrg (cs : List Nat) (l : List PL.Pk) : PL.nxt (PL.sorted cs) l = SS.mrg PL.keyP (PL.sorted cs) (PL.pairs l) := by
  unfold PL.nxt
  rw [SS.isort_app]
  unfold PL.sorted
  rw [SS.isort_isort]
theorem pairs_succ_mrg (it l : List PL.Pk) (j : Nat) : SS.mrg PL.keyP it (PL.pairsTo l (j + 1)) = SS.put PL.keyP (SS.mrg PL.keyP it (PL.pairsTo l j)) (PL.comb (l.getD (2 * j) PL.pk0) (l.getD (2 * j + 1) PL.pk0)) := by
  rw [PL.pairsTo_succ, SS.mrg_app]; rfl
theorem Sp.dropMid2 {w0 w : World} {A : Pr} {Rs L : List Pr} (H : Sp w0 (A :: (Rs ++ L)) w) : Sp w0 (A :: L) w := Sp.dropMid 0 [] rfl H
set_option maxRecDepth 100000 in
set_option maxHeartbeats 40000000 in
theorem rlengths_ok (A : Option Addr) (n c : Nat) (cs : List Nat) (lm : Nat) {w0 w : World} {L : List Pr} (H : Sp w0 L w) (hn : n = cs.length) (hb : Ent L fun w => Rd w A (cells64 (castN cs))) (hl : n ≤ 1024) (h1 : 1 ≤ lm) (h15 : lm ≤ 15) (hc : ∀ x ∈ cs, x ≤ 4294967296) (hk : (PL.items cs).length ≤ 2 ^ lm) :
    Calls Try.prog 27 #[.slice A n c, .int .i64 (lm : Int)] w fun e w' => ∃ v, e = .returned (.tuple #[v, .int .i64 0]) ∧ Sp w0 (Row 3 1 v n (cellsN (PL.lens cs lm)) :: L) w' := by
  obtain ⟨i1, hj, hj0, hj1, hj2⟩ := info_parts infoJ
  have HN := Lib.hid hn
  have HB := Lib.hid hb
  have HC := Lib.hid hc
  have HK := Lib.hid hk
  have hres : cellsN (PL.lens cs lm) = cntR n (PL.flat cs lm) := by
    unfold cellsN PL.lens cntR
    rw [List.map_map, ← hn]; rfl
  rw [hres]
  obtain ⟨T, hT⟩ : ∃ T, PL.flat cs lm = T := ⟨_, rfl⟩
  rw [hT]
  have HT := Lib.hid hT
  obtain ⟨pw, hpw⟩ : ∃ p, 2 ^ lm = p := ⟨_, rfl⟩
  have hpw2 : pw ≤ 32768 := by
    rw [← hpw]
    have : (2 : Nat) ^ lm ≤ 2 ^ 15 := Nat.pow_le_pow_right (by omega) h15
    exact this
  have hpo := fun w => power_ok lm h15 w
  rw [hpw] at HK hpo
  have HPO := Lib.hid hpo
  have HPW := Lib.hid hpw
  clear hn hb hc hk hres hT hpw hpo
  go_enter Try.func27, Try.ntmps27
  go_wp2_with fail
  go_loopw [6, 7] (fun vv iv wr => ∃ (i nn cc : Nat) (AA : Option Addr) (F : RPoolT) (xs : List RK) (Rs : List Pr), iv = .int .i64 (i : Int) ∧ vv = .slice AA nn cc ∧ i ≤ n ∧ nn ≤ i ∧ nn ≤ cc ∧ Hid (xs.length = nn ∧ EncRL F (SS.isort PL.keyP (PL.itemsTo cs i)) xs ∧ Ent (Rs ++ L) (fun w => Rd w AA (cellsR xs))) ∧ Sp w0 (RPool F :: (Rs ++ L)) wr) (fun _ iv _ => n - (intOf iv).toNat)
  case atStart => exact ⟨0, 0, 0, none, [], [], [], rfl, rfl, Nat.zero_le _, Nat.zero_le _, Nat.zero_le _, Lib.hid ⟨rfl, trivial, fun _ _ _ => Rd.nil⟩, RPool.nil H⟩
  case round =>
    clear H
    obtain ⟨i, nn, cc, AA, F, xs, Rs, rfl, rfl, hin, hni, hnc, HX, H⟩ := hrel
    by_cases hlt : i < n
    · have k1 : (i : Int) < (n : Int) := by omega
      have hic : i < cs.length := by rw [← HN.out]; exact hlt
      obtain ⟨al, hal, hcell⟩ := (HB.out _ _ (Sp.dropMid2 H).tail).at64 (k := i) (by simpa [castN] using hic)
      obtain ⟨x, hx⟩ : ∃ x, cs.getD i 0 = x := ⟨_, rfl⟩
      have hx2 : cs[i] = x := by rw [← hx, List.getD_eq_getElem?_getD, List.getElem?_eq_getElem hic]; rfl
      have hxl : x ≤ 4294967296 := by rw [← hx2]; exact HC.out _ (List.getElem_mem hic)
      replace hcell : wr.cell? (al.add i) = some (.int .i64 (x : Int)) := by
        rw [hcell]
        simp [castN, hx2]
      have hnext := itemsTo_isort cs i
      rw [hx] at hnext
      have HNX := Lib.hid hnext
      have k2 : ¬ (x : Int) < 0 := by omega
      have k3 : ¬ 4294967296 < (x : Int) := by omega
      subst hal
      clear hx hx2 hnext
      by_cases hx0 : 0 < x
      · have k4 : (0 : Int) < (x : Int) := by omega
        have H9 := (H.newBk [.int .i64 (i : Int)] 3).bkRow 1 1 rfl (by decide)
        have H10 : Sp w0 (RPool (((some ⟨wr.heap.size, 0, none⟩, 1), [i]) :: F) :: (Rs ++ L)) (wr.alloc (.cells #[.int .i64 (i : Int)] 3)) := RPool.cons H9
        have hpt := rput_ok AA nn cc xs ⟨(x : Int), some ⟨wr.heap.size, 0, none⟩, 1, 1⟩ H10 HX.out.1.symm (HX.out.2.2.cons _) hnc (by omega)
        have henc : EncRL (((some ⟨wr.heap.size, 0, none⟩, 1), [i]) :: F) (SS.isort PL.keyP (PL.itemsTo cs (i + 1))) (SS.put keyR xs ⟨(x : Int), some ⟨wr.heap.size, 0, none⟩, 1, 1⟩) := by
          rw [HNX.out, if_pos hx0]
          exact (HX.out.2.1.mono fun _ h => List.mem_cons_of_mem _ h).put ⟨rfl, List.mem_cons_self .., rfl⟩
        have hlen : (SS.put keyR xs ⟨(x : Int), some ⟨wr.heap.size, 0, none⟩, 1, 1⟩).length = nn + 1 := by rw [SS.len_put, HX.out.1]
        obtain ⟨Y, hY⟩ : ∃ Y, SS.put keyR xs ⟨(x : Int), some ⟨wr.heap.size, 0, none⟩, 1, 1⟩ = Y := ⟨_, rfl⟩
        rw [hY] at hpt henc hlen
        unfold RK.val at hpt
        have HPT := Lib.hid hpt
        have HENC := Lib.hid henc
        have HLEN := Lib.hid hlen
        clear H9 H10 hpt henc hlen hY H
        go_wp2_with fail
        refine HPT.out.mono ?_
        rintro _ w9 ⟨v9, rfl, H11⟩
        clear HPT
        obtain ⟨V9, c9, hv9, hc9, _⟩ := Row.form H11 0 rfl
        subst hv9
        have hrd : Ent (([Row 109 2 (.slice V9 (nn + 1) c9) (nn + 1) (cellsR Y)] ++ Rs) ++ L) (fun w => Rd w V9 (cellsR Y)) := fun _ _ H => by
          obtain ⟨A9, c9, e9, hr9, _, _⟩ := H.row_rd 0 rfl
          injection e9 with e9
          rw [e9]; exact hr9
        have HRD := Lib.hid hrd
        have H12 := H11.swap
        clear hrd H11
        go_wp2_with fail
        go_roundw
        case rel => exact ⟨i + 1, nn + 1, c9, V9, _, Y, [Row 109 2 (.slice V9 (nn + 1) c9) (nn + 1) (cellsR Y)] ++ Rs, by go_num, rfl, by omega, by omega, hc9, Lib.hid ⟨HLEN.out, HENC.out, HRD.out⟩, H12⟩
        case measure => first | (simp [intOf]; omega) | simp [intOf]
      · have k4 : ¬ (0 : Int) < (x : Int) := by omega
        go_wp2_with fail
        go_roundw
        case rel => exact ⟨i + 1, nn, cc, AA, F, xs, Rs, by go_num, rfl, by omega, by omega, hnc, Lib.hid ⟨HX.out.1, by rw [HNX.out, if_neg hx0]; exact HX.out.2.1, HX.out.2.2⟩, H⟩
        case measure => first | (simp [intOf]; omega) | simp [intOf]
    · have k1 : ¬ (i : Int) < (n : Int) := by omega
      obtain rfl : i = n := by omega
      have henc : EncRL F (PL.sorted cs) xs := by
        have h := HX.out.2.1
        rw [HN.out] at h
        exact h
      have hkk : (PL.items cs).length = nn := by
        have h := henc.len
        rw [HX.out.1] at h
        rw [← h]
        unfold PL.sorted
        rw [SS.len_isort]
      have hkp : nn ≤ pw := by have := HK.out; omega
      have k2 : ¬ (pw : Int) < (nn : Int) := by omega
      have HENC := Lib.hid henc
      have HKK := Lib.hid hkk
      clear henc hkk
      go_wp2_with fail
      refine (HPO.out _).mono ?_
      rintro _ _ ⟨rfl, rfl⟩
      clear HPO
      go_wp2_with (at_make; refine wpList_make_sp rfl _ _ _ rfl 3 i1 (.int .i64 0) Try.underlying52 hj hj0 hj1 rfl i rfl rfl (by rw [hj2]; omega) (by unfold maxLen; omega) H ?_)
      intro ad w5 H5
      rw [cntR_nil] at H5
      replace H5 := H5.swap
      clear H
      by_cases hk1 : nn = 1
      · have k3 : ((nn : Int) == 1) = true := by rw [beq_iff_eq]; omega
        have k4 : (nn : Int) < 2 := by omega
        have hs1 : (PL.sorted cs).length = 1 := by unfold PL.sorted; rw [SS.len_isort, HKK.out, hk1]
        obtain ⟨p, hp⟩ := List.length_eq_one_iff.1 hs1
        have hi1 : PL.items cs = [p] := by
          obtain ⟨q, hq⟩ := List.length_eq_one_iff.1 (by rw [HKK.out, hk1] : (PL.items cs).length = 1)
          have : PL.sorted cs = [q] := by unfold PL.sorted; rw [hq]; rfl
          rw [hp] at this
          injection this with this
          rw [hq, this]
        have hp2 := PL.itemsTo_mem cs cs.length p (by rw [show PL.itemsTo cs cs.length = PL.items cs from rfl, hi1]; exact List.mem_singleton.2 rfl)
        obtain ⟨pc, ps⟩ := p
        obtain ⟨sy, hsy⟩ := List.length_eq_one_iff.1 hp2.2.1
        simp only at hsy
        subst hsy
        have hsn : sy < i := by rw [HN.out]; exact hp2.2.2.2 sy (List.mem_singleton.2 rfl)
        obtain ⟨px, hpx⟩ := List.length_eq_one_iff.1 (by rw [HX.out.1, hk1] : xs.length = 1)
        subst hpx
        have hen := HENC.out
        rw [hp] at hen
        obtain ⟨⟨he1, he2, he3⟩, _⟩ := hen
        have hT1 : T = [sy] := by
          rw [← HT.out, PL.flat, if_pos (by rw [HKK.out]; omega), hi1]; rfl
        subst hT1
        obtain ⟨xc, xA, xn, xp⟩ := px
        simp only at he1 he2 he3
        obtain ⟨hsr, _, _⟩ := RPool.rd H5 he2
        obtain ⟨sa, hsa, hsc⟩ := hsr (by simp [cellsN])
        subst hsa
        have s0 : w5.cell? sa = some (.int .i64 (sy : Int)) := hsc 0 _ rfl
        obtain ⟨ai, hai, d0, d1⟩ := rdR (HX.out.2.2 _ _ H5.tail2) (i := 0) (by simp)
        subst hai
        replace d1 : w5.cell? ⟨ai.block, ai.off + 1, none⟩ = some (.slice (some sa) 1 xp) := by
          have h : (⟨(ai.add (0 * 2)).block, (ai.add (0 * 2)).off + 1, none⟩ : Addr) = ⟨ai.block, ai.off + 1, none⟩ := by rw [Nat.zero_mul]; rfl
          rw [h] at d1
          rw [d1, he3]; rfl
        subst hk1
        obtain ⟨ad2, c2, ev, _, hcx, hz, hset⟩ := (H5.swap).rowSet hsn
        injection ev with ev ev2 ev3
        injection ev with ev
        subst ev
        clear ev2 ev3
        rw [cntR_get _ _ _ hsn] at hcx
        replace hcx : w5.cell? (ad.add sy) = some (.int .i64 0) := hcx
        have hst := hset (.int .i64 1)
        rw [cntR_set i sy [] 1 (by simp), List.nil_append] at hst
        have HST := Lib.hid hst
        have k5 : (sy : Int) < (i : Int) := by omega
        clear hset hst hsc hsr hp hp2 HENC HKK hi1 hs1 he1 he2 he3 HX d0
        go_wp2_with fail
        go_ret2
        exact ⟨_, rfl, Sp.dropMid 1 [_] rfl HST.out⟩
      · have k3 : ((nn : Int) == 1) = false := by rw [beq_eq_false_iff_ne]; omega
        by_cases hk2 : nn < 2
        · have k4 : (nn : Int) < 2 := by omega
          have hi0 : PL.items cs = [] := List.eq_nil_of_length_eq_zero (by rw [HKK.out]; omega)
          have hT0 : T = [] := by rw [← HT.out, PL.flat, if_pos (by rw [HKK.out]; omega), hi0]; rfl
          subst hT0
          clear hi0
          go_wp2_with fail
          go_ret2
          exact ⟨_, rfl, Sp.dropMid 1 [_] rfl H5.swap⟩
        · have k4 : ¬ (nn : Int) < 2 := by omega
          obtain ⟨it, hit⟩ : ∃ it, PL.sorted cs = it := ⟨_, rfl⟩
          have henc := HENC.out
          rw [hit] at henc
          have hitl : it.length = nn := by rw [← hit, PL.sorted, SS.len_isort, HKK.out]
          have hT2 : T = ((PL.lst it (lm - 1)).take (2 * nn - 2)).flatMap Prod.snd := by
            rw [← HT.out, PL.flat, if_neg (by rw [HKK.out]; exact hk2), HKK.out, hit]
          have hen := PL.lst_enough it lm h1 (by rw [hitl, HPW.out]; exact hkp)
          have hmem : ∀ p ∈ it, p.1 ≤ 4294967296 ∧ p.2.length = 1 ∧ ∀ s ∈ p.2, s < i := by
            intro p hp
            rw [← hit] at hp
            have h9 := PL.itemsTo_mem cs cs.length p (SS.mem_isort.1 hp)
            exact ⟨HC.out _ h9.1, h9.2.1, fun s hs => by rw [HN.out]; exact h9.2.2.2 s hs⟩
          have hnx : ∀ l, PL.nxt it l = SS.mrg PL.keyP it (PL.pairs l) := by rw [← hit]; exact nxt_mrg cs
          have HE2 := Lib.hid henc
          have HIT := Lib.hid hitl
          have HT2 := Lib.hid hT2
          have HEN := Lib.hid hen
          have HME := Lib.hid hmem
          have HNXT := Lib.hid hnx
          obtain ⟨xs0, hxs0⟩ : ∃ x, xs = x := ⟨_, rfl⟩
          clear henc hitl hT2 hen hmem hit HENC HKK hxs0 hnx
          go_wp2_with fail
          go_loopw [10, 11] (fun lv qv wr => ∃ (q n2 c2 : Nat) (A2 : Option Addr) (F2 : RPoolT) (ys : List RK) (R2 : List Pr), qv = .int .i64 ((q + 1 : Nat) : Int) ∧ lv = .slice A2 n2 c2 ∧ q + 1 ≤ lm ∧ n2 ≤ c2 ∧ Hid (ys.length = n2 ∧ EncRL F2 (PL.lst it q) ys ∧ EncRL F2 it xs ∧ Ent (R2 ++ L) (fun w => Rd w A2 (cellsR ys)) ∧ Ent (R2 ++ L) (fun w => Rd w AA (cellsR xs))) ∧ Sp w0 (RPool F2 :: Row 3 1 (.slice (some ad) i i) i (cntR i []) :: (R2 ++ L)) wr) (fun _ qv _ => lm - (intOf qv).toNat)
          case atStart => exact ⟨0, nn, cc, AA, F, xs, Rs, rfl, rfl, h1, hnc, Lib.hid ⟨HX.out.1, HE2.out, HE2.out, HX.out.2.2, HX.out.2.2⟩, H5⟩
          case round =>
            clear H5 HE2
            obtain ⟨q, n2, c2, A2, F2, ys, R2, rfl, rfl, hq, hn2c, HY, H⟩ := hrel
            have e1 : ((q + 1 : Nat) : Int) = (q : Int) + 1 := by omega
            rw [e1]
            have hnl : (PL.lst it q).length = n2 := by rw [← HY.out.1]; exact HY.out.2.1.len
            have hn22 : n2 ≤ 2048 := by
              rw [← hnl]
              have := PL.lst_le it q
              have := HIT.out; omega
            by_cases hql : q + 1 < lm
            · have k5 : (q : Int) + 1 < (lm : Int) := by omega
              have HNL := Lib.hid hnl
              clear hnl
              go_wp2_with fail
              go_loopw [12, 13] (fun nv kv wr => ∃ (k j n3 c3 : Nat) (A3 : Option Addr) (F3 : RPoolT) (zs : List RK) (R3 : List Pr), kv = .int .i64 (k : Int) ∧ nv = .slice A3 n3 c3 ∧ k ≤ n2 ∧ n3 ≤ c3 ∧ n3 ≤ 2 * n2 + 2048 ∧ Hid (k = 2 * j ∧ zs.length = n3 ∧ n3 = nn + j ∧ EncRL F3 (SS.mrg PL.keyP it (PL.pairsTo (PL.lst it q) j)) zs ∧ (∀ e ∈ F2, e ∈ F3) ∧ Ent (R3 ++ L) (fun w => Rd w A3 (cellsR zs)) ∧ Ent (R3 ++ L) (fun w => Rd w A2 (cellsR ys)) ∧ Ent (R3 ++ L) (fun w => Rd w AA (cellsR xs))) ∧ Sp w0 (RPool F3 :: Row 3 1 (.slice (some ad) i i) i (cntR i []) :: (R3 ++ L)) wr) (fun _ kv _ => n2 - (intOf kv).toNat)
              case atStart => exact ⟨0, 0, nn, cc, AA, F2, xs, R2, rfl, rfl, Nat.zero_le _, hnc, by omega, Lib.hid ⟨rfl, HX.out.1, rfl, HY.out.2.2.1, fun _ h => h, HY.out.2.2.2.2, HY.out.2.2.2.1, HY.out.2.2.2.2⟩, H⟩
              case round =>
                clear H
                obtain ⟨k, j, n3, c3, A3, F3, zs, R3, rfl, rfl, hkn, hn3c, hn3, HJ, H⟩ := hrel
                by_cases hk3 : k + 1 < n2
                · have k6 : (k : Int) + 1 < (n2 : Int) := by omega
                  obtain ⟨k9, hk9⟩ : ∃ k1, k + 1 = k1 := ⟨_, rfl⟩
                  have y3 : (k : Int) + 1 = (k9 : Int) := by omega
                  have k7 : (k : Int) < (n2 : Int) := by omega
                  have k8 : (k9 : Int) < (n2 : Int) := by omega
                  obtain ⟨pa, hpa⟩ : ∃ pa, ys.getD k rk0 = pa := ⟨_, rfl⟩
                  obtain ⟨pb, hpb⟩ : ∃ pb, ys.getD k9 rk0 = pb := ⟨_, rfl⟩
                  obtain ⟨ta, hta⟩ : ∃ ta, (PL.lst it q).getD k PL.pk0 = ta := ⟨_, rfl⟩
                  obtain ⟨tb, htb⟩ : ∃ tb, (PL.lst it q).getD k9 PL.pk0 = tb := ⟨_, rfl⟩
                  have hea : EncR F3 ta pa := by
                    rw [← hta, ← hpa]
                    exact (HY.out.2.1.get PL.pk0 rk0 k (by rw [HNL.out]; omega)).mono HJ.out.2.2.2.2.1
                  have heb : EncR F3 tb pb := by
                    rw [← htb, ← hpb]
                    exact (HY.out.2.1.get PL.pk0 rk0 k9 (by rw [HNL.out]; omega)).mono HJ.out.2.2.2.2.1
                  have hwt : ∀ t ∈ PL.lst it q, t.1 ≤ 17179869184000000 ∧ t.2.length ≤ 4000000 := by
                    intro t ht
                    have g1 := PL.wt_mem Prod.fst ht
                    have g2 := PL.wt_lst Prod.fst (fun _ _ => rfl) it q
                    have g3 := PL.wt_mem (fun p => p.2.length) ht
                    have g4 := PL.wt_lst (fun p => p.2.length) (fun _ _ => List.length_append) it q
                    have key : ∀ (f : PL.Pk → Nat) (B : Nat) (l : List PL.Pk), (∀ p ∈ l, f p ≤ B) → PL.wt f l ≤ l.length * B := by
                      intro f B l
                      induction l with
                      | nil => intro _; simp [PL.wt]
                      | cons p l ih =>
                        intro hp
                        have h1 := hp p (List.mem_cons_self ..)
                        have h2 := ih fun q hq => hp q (List.mem_cons_of_mem _ hq)
                        show f p + PL.wt f l ≤ (l.length + 1) * B
                        rw [Nat.succ_mul]; omega
                    have g5 := key Prod.fst 4294967296 it fun p hp => (HME.out p hp).1
                    have g6 := key (fun p => p.2.length) 1 it fun p hp => by rw [(HME.out p hp).2.1]; exact Nat.le_refl _
                    rw [HIT.out] at g5 g6
                    have g7 : nn * 4294967296 ≤ 8589934592000 := by omega
                    have g8 : (q + 1) * PL.wt Prod.fst it ≤ 2000 * 8589934592000 := Nat.mul_le_mul (by omega) (by omega)
                    have g9 : (q + 1) * PL.wt (fun p => p.2.length) it ≤ 2000 * 2000 := Nat.mul_le_mul (by omega) (by omega)
                    omega
                  have hca := hwt ta (by rw [← hta, List.getD_eq_getElem?_getD, List.getElem?_eq_getElem (by rw [HNL.out]; omega)]; exact List.getElem_mem _)
                  have hcb := hwt tb (by rw [← htb, List.getD_eq_getElem?_getD, List.getElem?_eq_getElem (by rw [HNL.out]; omega)]; exact List.getElem_mem _)
                  obtain ⟨ca, aA, an, ac⟩ := pa
                  obtain ⟨cb, bA, bn, bc⟩ := pb
                  obtain ⟨ha1, ha2, ha3⟩ := hea
                  obtain ⟨hb1, hb2, hb3⟩ := heb
                  simp only at ha1 ha2 ha3 hb1 hb2 hb3
                  obtain ⟨cc2, hcc⟩ : ∃ cc2, ta.1 + tb.1 = cc2 := ⟨_, rfl⟩
                  have y4 : ca + cb = (cc2 : Int) := by omega
                  have kc1 : 0 ≤ ca := by omega
                  have kc2 : ca ≤ 20000000000000000 := by omega
                  have kc3 : 0 ≤ cb := by omega
                  have kc4 : cb ≤ 20000000000000000 := by omega
                  have hal : an ≤ 4000000 := by omega
                  have hbl : bn ≤ 4000000 := by omega
                  obtain ⟨sa, hsa⟩ : ∃ s, ta.2 = s := ⟨_, rfl⟩
                  obtain ⟨sb, hsb⟩ : ∃ s, tb.2 = s := ⟨_, rfl⟩
                  rw [hsa] at ha2 ha3
                  rw [hsb] at hb2 hb3
                  have hnext : SS.mrg PL.keyP it (PL.pairsTo (PL.lst it q) (j + 1)) = SS.put PL.keyP (SS.mrg PL.keyP it (PL.pairsTo (PL.lst it q) j)) (cc2, sa ++ sb) := by
                    rw [pairs_succ_mrg, ← HJ.out.1, hk9, hta, htb, ← hcc, ← hsa, ← hsb]; rfl
                  have hra : Ent (RPool F3 :: Row 3 1 (.slice (some ad) i i) i (cntR i []) :: (R3 ++ L)) (fun w => Rd w aA (cellsN sa)) := fun _ _ H => (RPool.rd H ha2).1
                  have hrb : Ent (RPool F3 :: Row 3 1 (.slice (some ad) i i) i (cntR i []) :: (R3 ++ L)) (fun w => Rd w bA (cellsN sb)) := fun _ _ H => (RPool.rd H hb2).1
                  obtain ⟨al, hal2, _, _⟩ := rdR (HJ.out.2.2.2.2.2.2.1 _ _ H.tail2) (i := k) (by rw [HY.out.1]; omega)
                  have hea2 : Ent (R3 ++ L) (fun w => w.cell? (al.add (k * 2)) = some (.int .i64 ca) ∧ w.cell? ⟨(al.add (k * 2)).block, (al.add (k * 2)).off + 1, none⟩ = some (.slice aA an ac)) := fun _ _ H => by
                    obtain ⟨a9, e9, d0, d1⟩ := rdR (HJ.out.2.2.2.2.2.2.1 _ _ H) (i := k) (by rw [HY.out.1]; omega)
                    rw [hal2] at e9
                    injection e9 with e9
                    rw [hpa] at d0 d1
                    rw [e9]; exact ⟨d0, d1⟩
                  have heb2 : Ent (R3 ++ L) (fun w => w.cell? (al.add (k9 * 2)) = some (.int .i64 cb) ∧ w.cell? ⟨(al.add (k9 * 2)).block, (al.add (k9 * 2)).off + 1, none⟩ = some (.slice bA bn bc)) := fun _ _ H => by
                    obtain ⟨a9, e9, d0, d1⟩ := rdR (HJ.out.2.2.2.2.2.2.1 _ _ H) (i := k9) (by rw [HY.out.1]; omega)
                    rw [hal2] at e9
                    injection e9 with e9
                    rw [hpb] at d0 d1
                    rw [e9]; exact ⟨d0, d1⟩
                  have HNX := Lib.hid hnext
                  have HRA := Lib.hid hra
                  have HRB := Lib.hid hrb
                  have HEA := Lib.hid hea2
                  have HEB := Lib.hid heb2
                  have HSA : Hid (an = sa.length ∧ bn = sb.length) := Lib.hid ⟨ha3, hb3⟩
                  have HK9 := Lib.hid hk9
                  subst hal2
                  clear hpa hpb hta htb hwt hca hcb ha1 ha2 ha3 hb1 hb2 hb3 hcc hsa hsb hnext hra hrb hea2 heb2 hk9
                  have hk9b : k + 2 ≤ n2 := by omega
                  go_wp2_with fail
                  refine wp_region_dp (L := RPool F3 :: Row 3 1 (.slice (some ad) i i) i (cntR i []) :: (R3 ++ L)) (fun ix ux vx => ([(fun _ => (· = .slice (some al) n2 c2)), (fun _ => (· = .int .i64 (k : Int))), (fun _ => (· = .pointer (some (al.add (k * 2))))), (fun _ => (· = .pointer (some (al.add (k * 2))))), (fun _ => (· = .int .i64 ca)), (fun _ => (· = .slice (some al) n2 c2)), (fun _ => (· = .int .i64 (k : Int))), (fun _ => (· = .int .i64 (k9 : Int))), (fun _ => (· = .pointer (some (al.add (k9 * 2))))), (fun _ => (· = .pointer (some (al.add (k9 * 2))))), (fun _ => (· = .int .i64 cb)), (fun _ => (· = .int .i64 (cc2 : Int))), (fun _ => (· = .agg #[.int .i64 (cc2 : Int), .slice none 0 0])), (fun _ => fun v => v = .pointer (some ⟨blkH v, 0, none⟩)), (fun _ _ => True)] : List (Value → Value → Prop)).getD ix (fun _ _ => True) ux vx)
                    (fun ix ux vx => ([fun _ _ => [], fun _ _ => [], fun _ _ => [], fun _ _ => [], fun _ _ => [], fun _ _ => [], fun _ _ => [], fun _ _ => [], fun _ _ => [], fun _ _ => [], fun _ _ => [], fun _ _ => [], fun _ _ => [], fun _ v => [Bk (blkH v) 109 [.int .i64 0, .slice none 0 0]], fun ux _ => [Bk (blkH ux) 109 [.int .i64 (cc2 : Int), .slice none 0 0]]] : List (Value → Value → List Pr)).getD ix (fun _ _ => []) ux vx) (fun ix => ([[], [], [], [], [], [], [], [], [], [], [], [], [], [], []] : List (List Pr)).getD ix []) 15 163
                    [some 96, some 97, some 98, some 99, some 100, some 101, some 102, some 103, some 104, some 105, some 106, some 107, some 108, some 14, none]
                    [[], [], [0, 1], [2], [3], [], [], [6], [5, 7], [8], [9], [4, 10], [11], [], [13, 12, 0, 1, 2, 3, 4, 5, 6, 7, 8, 9, 10, 11, 12, 13]]
                    [[], [], [0, 1], [0, 1, 2], [0, 1, 2, 3], [], [], [6], [5, 6, 7], [5, 6, 7, 8], [5, 6, 7, 8, 9], [0, 1, 2, 3, 4, 5, 6, 7, 8, 9, 10], [0, 1, 2, 3, 4, 5, 6, 7, 8, 9, 10, 11], [], [0, 1, 2, 3, 4, 5, 6, 7, 8, 9, 10, 11, 12, 13]]
                    [[], [], [], [], [], [], [], [], [], [], [], [], [], [], [13]]
                    [[], [], [], [], [], [], [], [], [], [], [], [], [], [], []]
                    [none, none, none, none, none, none, none, none, none, none, none, none, none, none, some 13] (by decide) [(10, .slice (some al) n2 c2), (13, .int .i64 (k : Int))]
                    (by kernel_rfl) rfl (by decide) (by rfl) rfl (by decide +kernel) (by decide +kernel) (by rfl) rfl rfl (by decide) (by simp) (by rfl) (H) ?hstep ?hend
                  case hstep =>
                    refine ⟨?_, ⟨?_, ⟨?_, ⟨?_, ⟨?_, ⟨?_, ⟨?_, ⟨?_, ⟨?_, ⟨?_, ⟨?_, ⟨?_, ⟨?_, ⟨?_, ⟨?_, trivial⟩⟩⟩⟩⟩⟩⟩⟩⟩⟩⟩⟩⟩⟩⟩
                    · intro x wx A rest hN hS hE H K hK0
                      have e10 : A.tmps[10]?.getD undef = .slice (some al) n2 c2 := hN (10, .slice (some al) n2 c2) (by simp)
                      replace H : Sp w0 (rest) wx := H
                      have hK : Hid (∀ (v : Value) (w' : World), v = .slice (some al) n2 c2 → Sp w0 (rest) w' → K (A.put (some 96) v) w') := Lib.hid hK0
                      clear hK0 hN hS hE
                      change Oper.wp _ _ A wx K _
                      go_step
                      exact hK.out _ _ rfl (H)
                    · intro x wx A rest hN hS hE H K hK0
                      have e13 : A.tmps[13]?.getD undef = .int .i64 (k : Int) := hN (13, .int .i64 (k : Int)) (by simp)
                      replace H : Sp w0 (rest) wx := H
                      have hK : Hid (∀ (v : Value) (w' : World), v = .int .i64 (k : Int) → Sp w0 (rest) w' → K (A.put (some 97) v) w') := Lib.hid hK0
                      clear hK0 hN hS hE
                      change Oper.wp _ _ A wx K _
                      go_step
                      exact hK.out _ _ rfl (H)
                    · intro x wx A rest hN hS hE H K hK0
                      have e96 : A.tmps[96]?.getD undef = .slice (some al) n2 c2 := ((hS 0 (by decide)).2 96 rfl).trans (hS 0 (by decide)).1
                      have e97 : A.tmps[97]?.getD undef = .int .i64 (k : Int) := ((hS 1 (by decide)).2 97 rfl).trans (hS 1 (by decide)).1
                      replace H : Sp w0 (rest) wx := H
                      have hK : Hid (∀ (v : Value) (w' : World), v = .pointer (some (al.add (k * 2))) → Sp w0 (rest) w' → K (A.put (some 98) v) w') := Lib.hid hK0
                      clear hK0 hN hS hE
                      change Oper.wp _ _ A wx K _
                      go_step
                      exact hK.out _ _ rfl (H)
                    · intro x wx A rest hN hS hE H K hK0
                      have e98 : A.tmps[98]?.getD undef = .pointer (some (al.add (k * 2))) := ((hS 2 (by decide)).2 98 rfl).trans (hS 2 (by decide)).1
                      replace H : Sp w0 (rest) wx := H
                      have hK : Hid (∀ (v : Value) (w' : World), v = .pointer (some (al.add (k * 2))) → Sp w0 (rest) w' → K (A.put (some 99) v) w') := Lib.hid hK0
                      clear hK0 hN hS hE
                      change Oper.wp _ _ A wx K _
                      go_step
                      exact hK.out _ _ rfl (H)
                    · intro x wx A rest hN hS hE H K hK0
                      have e99 : A.tmps[99]?.getD undef = .pointer (some (al.add (k * 2))) := ((hS 3 (by decide)).2 99 rfl).trans (hS 3 (by decide)).1
                      replace H : Sp w0 (rest) wx := H
                      have hK : Hid (∀ (v : Value) (w' : World), v = .int .i64 ca → Sp w0 (rest) w' → K (A.put (some 100) v) w') := Lib.hid hK0
                      clear hK0 hN hS
                      obtain ⟨d0, d1⟩ := hE _ (Ent.cons _ (Ent.cons _ (HEA.out))) _ _ H
                      change Oper.wp _ _ A wx K _
                      go_step
                      exact hK.out _ _ rfl (H)
                    · intro x wx A rest hN hS hE H K hK0
                      have e10 : A.tmps[10]?.getD undef = .slice (some al) n2 c2 := hN (10, .slice (some al) n2 c2) (by simp)
                      replace H : Sp w0 (rest) wx := H
                      have hK : Hid (∀ (v : Value) (w' : World), v = .slice (some al) n2 c2 → Sp w0 (rest) w' → K (A.put (some 101) v) w') := Lib.hid hK0
                      clear hK0 hN hS hE
                      change Oper.wp _ _ A wx K _
                      go_step
                      exact hK.out _ _ rfl (H)
                    · intro x wx A rest hN hS hE H K hK0
                      have e13 : A.tmps[13]?.getD undef = .int .i64 (k : Int) := hN (13, .int .i64 (k : Int)) (by simp)
                      replace H : Sp w0 (rest) wx := H
                      have hK : Hid (∀ (v : Value) (w' : World), v = .int .i64 (k : Int) → Sp w0 (rest) w' → K (A.put (some 102) v) w') := Lib.hid hK0
                      clear hK0 hN hS hE
                      change Oper.wp _ _ A wx K _
                      go_step
                      exact hK.out _ _ rfl (H)
                    · intro x wx A rest hN hS hE H K hK0
                      have e102 : A.tmps[102]?.getD undef = .int .i64 (k : Int) := ((hS 6 (by decide)).2 102 rfl).trans (hS 6 (by decide)).1
                      replace H : Sp w0 (rest) wx := H
                      have hK : Hid (∀ (v : Value) (w' : World), v = .int .i64 (k9 : Int) → Sp w0 (rest) w' → K (A.put (some 103) v) w') := Lib.hid hK0
                      clear hK0 hN hS hE
                      change Oper.wp _ _ A wx K _
                      go_step
                      exact hK.out _ _ rfl (H)
                    · intro x wx A rest hN hS hE H K hK0
                      have e101 : A.tmps[101]?.getD undef = .slice (some al) n2 c2 := ((hS 5 (by decide)).2 101 rfl).trans (hS 5 (by decide)).1
                      have e103 : A.tmps[103]?.getD undef = .int .i64 (k9 : Int) := ((hS 7 (by decide)).2 103 rfl).trans (hS 7 (by decide)).1
                      replace H : Sp w0 (rest) wx := H
                      have hK : Hid (∀ (v : Value) (w' : World), v = .pointer (some (al.add (k9 * 2))) → Sp w0 (rest) w' → K (A.put (some 104) v) w') := Lib.hid hK0
                      clear hK0 hN hS hE
                      change Oper.wp _ _ A wx K _
                      go_step
                      exact hK.out _ _ rfl (H)
                    · intro x wx A rest hN hS hE H K hK0
                      have e104 : A.tmps[104]?.getD undef = .pointer (some (al.add (k9 * 2))) := ((hS 8 (by decide)).2 104 rfl).trans (hS 8 (by decide)).1
                      replace H : Sp w0 (rest) wx := H
                      have hK : Hid (∀ (v : Value) (w' : World), v = .pointer (some (al.add (k9 * 2))) → Sp w0 (rest) w' → K (A.put (some 105) v) w') := Lib.hid hK0
                      clear hK0 hN hS hE
                      change Oper.wp _ _ A wx K _
                      go_step
                      exact hK.out _ _ rfl (H)
                    · intro x wx A rest hN hS hE H K hK0
                      have e105 : A.tmps[105]?.getD undef = .pointer (some (al.add (k9 * 2))) := ((hS 9 (by decide)).2 105 rfl).trans (hS 9 (by decide)).1
                      replace H : Sp w0 (rest) wx := H
                      have hK : Hid (∀ (v : Value) (w' : World), v = .int .i64 cb → Sp w0 (rest) w' → K (A.put (some 106) v) w') := Lib.hid hK0
                      clear hK0 hN hS
                      obtain ⟨d0, d1⟩ := hE _ (Ent.cons _ (Ent.cons _ (HEB.out))) _ _ H
                      change Oper.wp _ _ A wx K _
                      go_step
                      exact hK.out _ _ rfl (H)
                    · intro x wx A rest hN hS hE H K hK0
                      have e100 : A.tmps[100]?.getD undef = .int .i64 ca := ((hS 4 (by decide)).2 100 rfl).trans (hS 4 (by decide)).1
                      have e106 : A.tmps[106]?.getD undef = .int .i64 cb := ((hS 10 (by decide)).2 106 rfl).trans (hS 10 (by decide)).1
                      replace H : Sp w0 (rest) wx := H
                      have hK : Hid (∀ (v : Value) (w' : World), v = .int .i64 (cc2 : Int) → Sp w0 (rest) w' → K (A.put (some 107) v) w') := Lib.hid hK0
                      clear hK0 hN hS hE
                      change Oper.wp _ _ A wx K _
                      go_step
                      exact hK.out _ _ rfl (H)
                    · intro x wx A rest hN hS hE H K hK0
                      have e107 : A.tmps[107]?.getD undef = .int .i64 (cc2 : Int) := ((hS 11 (by decide)).2 107 rfl).trans (hS 11 (by decide)).1
                      replace H : Sp w0 (rest) wx := H
                      have hK : Hid (∀ (v : Value) (w' : World), v = .agg #[.int .i64 (cc2 : Int), .slice none 0 0] → Sp w0 (rest) w' → K (A.put (some 108) v) w') := Lib.hid hK0
                      clear hK0 hN hS hE
                      change Oper.wp _ _ A wx K _
                      go_step
                      exact hK.out _ _ rfl (H)
                    · intro x wx A rest hN hS hE H K hK0
                      replace H : Sp w0 (rest) wx := H
                      have hK : Hid (∀ (v : Value) (w' : World), (fun v => v = .pointer (some ⟨blkH v, 0, none⟩)) v → Sp w0 ((Bk (blkH v) 109 [.int .i64 0, .slice none 0 0]) :: rest) w' → K (A.put (some 14) v) w') := Lib.hid hK0
                      clear hK0 hN hS hE
                      change Oper.wp _ _ A wx K _
                      go_step
                      exact hK.out _ _ rfl (H.newBk _ _)
                    · intro x wx A rest hN hS hE H K hK0
                      have q14 := (hS 13 (by decide)).1
                      have e14 : A.tmps[14]?.getD undef = x 13 := (hS 13 (by decide)).2 14 rfl
                      have e108 : A.tmps[108]?.getD undef = .agg #[.int .i64 (cc2 : Int), .slice none 0 0] := ((hS 12 (by decide)).2 108 rfl).trans (hS 12 (by decide)).1
                      replace H : Sp w0 ((Bk (blkH (x 13)) 109 [.int .i64 0, .slice none 0 0]) :: rest) wx := H
                      have hK : Hid (∀ (v : Value) (w' : World), True → Sp w0 ((Bk (blkH (x 13)) 109 [.int .i64 (cc2 : Int), .slice none 0 0]) :: rest) w' → K (A.put none v) w') := Lib.hid hK0
                      clear hK0 hN hS hE
                      obtain ⟨g9, e9⟩ : ∃ g9, blkH (x 13) = g9 := ⟨_, rfl⟩
                      have q : x 13 = .pointer (some ⟨blkH (x 13), 0, none⟩) := q14
                      rw [e9] at q H
                      rw [q] at e14
                      clear q q14
                      have z0 : wx.frozen? ⟨g9, 0, none⟩ = false := H.frozen 0 rfl 0
                      have z1 : wx.frozen? ⟨g9, 1, none⟩ = false := H.frozen 0 rfl 1
                      have z3 : wx.cell? ⟨g9, 0, none⟩ = some (.int .i64 0) := H.cell 0 rfl 0
                      have z4 : wx.cell? ⟨g9, 1, none⟩ = some (.slice none 0 0) := H.cell 0 rfl 1
                      change Oper.wp _ _ A wx K _
                      go_step
                      refine hK.out (x 13) _ trivial ?_
                      rw [e9]
                      exact (H.set 0 _).set 1 _
                  case hend =>
                    intro x wx A hA hS H
                    replace H : Sp w0 ((Bk (blkH (x 13)) 109 [.int .i64 (cc2 : Int), .slice none 0 0]) :: RPool F3 :: Row 3 1 (.slice (some ad) i i) i (cntR i []) :: (R3 ++ L)) wx := H
                    have y13 : (x 13) = .pointer (some ⟨blkH (x 13), 0, none⟩) := hS 13 (by decide)
                    clear hS
                    simp only [putAll, Act.put, List.setIfInBounds_toArray, List.set_cons_succ, List.set_cons_zero, Nat.reduceAdd] at hA
                    subst hA
                    obtain ⟨g, hg⟩ : ∃ g, blkH (x 13) = g := ⟨_, rfl⟩
                    have y13b : x 13 = .pointer (some ⟨g, 0, none⟩) := by rw [y13, hg]
                    rw [hg] at H
                    rw [y13b]
                    clear y13 y13b hg
                    go_wp2_with fail
                    refine wp_region_dp (L := RPool F3 :: Row 3 1 (.slice (some ad) i i) i (cntR i []) :: (R3 ++ L)) (fun ix ux vx => ([(fun _ => (· = .pointer (some ⟨g, 1, none⟩))), (fun _ => (· = .slice none 0 0)), (fun _ => (· = .slice (some al) n2 c2)), (fun _ => (· = .int .i64 (k : Int))), (fun _ => (· = .pointer (some (al.add (k * 2))))), (fun _ => (· = .pointer (some ⟨(al.add (k * 2)).block, (al.add (k * 2)).off + 1, none⟩))), (fun _ => (· = .slice aA an ac)), (fun _ => fun v => ∃ V c, v = .slice V an c), (fun _ => (· = .pointer (some ⟨g, 1, none⟩))), (fun _ _ => True)] : List (Value → Value → Prop)).getD ix (fun _ _ => True) ux vx)
                      (fun ix ux vx => ([fun _ _ => [], fun _ _ => [], fun _ _ => [], fun _ _ => [], fun _ _ => [], fun _ _ => [], fun _ _ => [], fun _ v => [Row 3 1 v an (cellsN sa)], fun _ _ => [], fun ux _ => [Bk g 109 [.int .i64 (cc2 : Int), ux]]] : List (Value → Value → List Pr)).getD ix (fun _ _ => []) ux vx) (fun ix => ([[], [], [], [], [], [], [], [Row 3 1 (.slice none 0 0) 0 (cellsN ([] : List Nat))], [], [Bk g 109 [.int .i64 (cc2 : Int), .slice none 0 0]]] : List (List Pr)).getD ix []) 10 163
                      [some 109, some 110, some 111, some 112, some 113, some 114, some 115, some 116, some 117, none]
                      [[], [0], [], [], [2, 3], [4], [5], [1, 6], [0, 1, 2, 3, 4, 5, 6, 7], [8, 7, 7, 0, 1, 2, 3, 4, 5, 6, 7]]
                      [[], [0], [], [], [2, 3], [2, 3, 4], [2, 3, 4, 5], [0, 1, 2, 3, 4, 5, 6], [0, 1, 2, 3, 4, 5, 6, 7], [0, 1, 2, 3, 4, 5, 6, 7, 8]]
                      [[], [], [], [], [], [], [], [], [], []]
                      [[], [9], [], [], [], [], [], [], [], []]
                      [none, none, none, none, none, none, none, none, none, some 7] (by decide) [(10, .slice (some al) n2 c2), (13, .int .i64 (k : Int)), (14, .pointer (some ⟨g, 0, none⟩))]
                      (by kernel_rfl) rfl (by decide) (by rfl) rfl (by decide +kernel) (by decide +kernel) (by rfl) rfl rfl (by decide) (by simp) (by rfl) ((H.rowNil 3 1)) ?hstep ?hend
                    case hstep =>
                      refine ⟨?_, ⟨?_, ⟨?_, ⟨?_, ⟨?_, ⟨?_, ⟨?_, ⟨?_, ⟨?_, ⟨?_, trivial⟩⟩⟩⟩⟩⟩⟩⟩⟩⟩
                      · intro x wx A rest hN hS hE H K hK0
                        have e14 : A.tmps[14]?.getD undef = .pointer (some ⟨g, 0, none⟩) := hN (14, .pointer (some ⟨g, 0, none⟩)) (by simp)
                        replace H : Sp w0 (rest) wx := H
                        have hK : Hid (∀ (v : Value) (w' : World), v = .pointer (some ⟨g, 1, none⟩) → Sp w0 (rest) w' → K (A.put (some 109) v) w') := Lib.hid hK0
                        clear hK0 hN hS hE
                        change Oper.wp _ _ A wx K _
                        go_step
                        exact hK.out _ _ rfl (H)
                      · intro x wx A rest hN hS hE H K hK0
                        have e109 : A.tmps[109]?.getD undef = .pointer (some ⟨g, 1, none⟩) := ((hS 0 (by decide)).2 109 rfl).trans (hS 0 (by decide)).1
                        replace H : Sp w0 ((Bk g 109 [.int .i64 (cc2 : Int), .slice none 0 0]) :: rest) wx := H
                        have hK : Hid (∀ (v : Value) (w' : World), v = .slice none 0 0 → Sp w0 ((Bk g 109 [.int .i64 (cc2 : Int), .slice none 0 0]) :: rest) w' → K (A.put (some 110) v) w') := Lib.hid hK0
                        clear hK0 hN hS hE
                        have c1x : wx.cell? ⟨g, 1, none⟩ = some (.slice none 0 0) := H.cell 0 rfl 1
                        change Oper.wp _ _ A wx K _
                        go_step
                        exact hK.out _ _ rfl (H)
                      · intro x wx A rest hN hS hE H K hK0
                        have e10 : A.tmps[10]?.getD undef = .slice (some al) n2 c2 := hN (10, .slice (some al) n2 c2) (by simp)
                        replace H : Sp w0 (rest) wx := H
                        have hK : Hid (∀ (v : Value) (w' : World), v = .slice (some al) n2 c2 → Sp w0 (rest) w' → K (A.put (some 111) v) w') := Lib.hid hK0
                        clear hK0 hN hS hE
                        change Oper.wp _ _ A wx K _
                        go_step
                        exact hK.out _ _ rfl (H)
                      · intro x wx A rest hN hS hE H K hK0
                        have e13 : A.tmps[13]?.getD undef = .int .i64 (k : Int) := hN (13, .int .i64 (k : Int)) (by simp)
                        replace H : Sp w0 (rest) wx := H
                        have hK : Hid (∀ (v : Value) (w' : World), v = .int .i64 (k : Int) → Sp w0 (rest) w' → K (A.put (some 112) v) w') := Lib.hid hK0
                        clear hK0 hN hS hE
                        change Oper.wp _ _ A wx K _
                        go_step
                        exact hK.out _ _ rfl (H)
                      · intro x wx A rest hN hS hE H K hK0
                        have e111 : A.tmps[111]?.getD undef = .slice (some al) n2 c2 := ((hS 2 (by decide)).2 111 rfl).trans (hS 2 (by decide)).1
                        have e112 : A.tmps[112]?.getD undef = .int .i64 (k : Int) := ((hS 3 (by decide)).2 112 rfl).trans (hS 3 (by decide)).1
                        replace H : Sp w0 (rest) wx := H
                        have hK : Hid (∀ (v : Value) (w' : World), v = .pointer (some (al.add (k * 2))) → Sp w0 (rest) w' → K (A.put (some 113) v) w') := Lib.hid hK0
                        clear hK0 hN hS hE
                        change Oper.wp _ _ A wx K _
                        go_step
                        exact hK.out _ _ rfl (H)
                      · intro x wx A rest hN hS hE H K hK0
                        have e113 : A.tmps[113]?.getD undef = .pointer (some (al.add (k * 2))) := ((hS 4 (by decide)).2 113 rfl).trans (hS 4 (by decide)).1
                        replace H : Sp w0 (rest) wx := H
                        have hK : Hid (∀ (v : Value) (w' : World), v = .pointer (some ⟨(al.add (k * 2)).block, (al.add (k * 2)).off + 1, none⟩) → Sp w0 (rest) w' → K (A.put (some 114) v) w') := Lib.hid hK0
                        clear hK0 hN hS hE
                        change Oper.wp _ _ A wx K _
                        go_step
                        exact hK.out _ _ rfl (H)
                      · intro x wx A rest hN hS hE H K hK0
                        have e114 : A.tmps[114]?.getD undef = .pointer (some ⟨(al.add (k * 2)).block, (al.add (k * 2)).off + 1, none⟩) := ((hS 5 (by decide)).2 114 rfl).trans (hS 5 (by decide)).1
                        replace H : Sp w0 (rest) wx := H
                        have hK : Hid (∀ (v : Value) (w' : World), v = .slice aA an ac → Sp w0 (rest) w' → K (A.put (some 115) v) w') := Lib.hid hK0
                        clear hK0 hN hS
                        obtain ⟨d0, d1⟩ := hE _ (Ent.cons _ (Ent.cons _ (HEA.out))) _ _ H
                        change Oper.wp _ _ A wx K _
                        go_step
                        exact hK.out _ _ rfl (H)
                      · intro x wx A rest hN hS hE H K hK0
                        have e110 : A.tmps[110]?.getD undef = .slice none 0 0 := ((hS 1 (by decide)).2 110 rfl).trans (hS 1 (by decide)).1
                        have e115 : A.tmps[115]?.getD undef = .slice aA an ac := ((hS 6 (by decide)).2 115 rfl).trans (hS 6 (by decide)).1
                        replace H : Sp w0 ((Row 3 1 (.slice none 0 0) 0 (cellsN ([] : List Nat))) :: rest) wx := H
                        have hK : Hid (∀ (v : Value) (w' : World), (fun v => ∃ V c, v = .slice V an c) v → Sp w0 ((Row 3 1 v an (cellsN sa)) :: rest) w' → K (A.put (some 116) v) w') := Lib.hid hK0
                        clear hK0 hN hS
                        have hrd := hE _ HRA.out _ _ H.tail
                        change Oper.wp _ _ A wx K _
                        refine wp_append_sp _ _ 52 rfl 3 i1 (.int .i64 0) 1 8 Try.underlying52 hj hj0 hj1 hj2 rfl (by decide) (.slice none 0 0) 0 (cellsN ([] : List Nat)) (ev e110) H aA an ac (cellsN sa) (ev e115) (by rw [show (cellsN sa).length = sa.length by simp [cellsN]]; have := HSA.out; omega) hrd (by intro u hu; obtain ⟨x9, _, rfl⟩ := List.mem_map.1 hu; rfl) (by simp only [maxLen]; omega) (by omega) ?_
                        intro v1 w2 H2 _
                        rw [← cellsN_append] at H2
                        rw [List.nil_append, Nat.zero_add] at H2
                        obtain ⟨V9, c9, hv9, _, _⟩ := Row.form H2 0 rfl
                        exact hK.out _ _ ⟨V9, c9, hv9⟩ H2
                      · intro x wx A rest hN hS hE H K hK0
                        have e14 : A.tmps[14]?.getD undef = .pointer (some ⟨g, 0, none⟩) := hN (14, .pointer (some ⟨g, 0, none⟩)) (by simp)
                        replace H : Sp w0 (rest) wx := H
                        have hK : Hid (∀ (v : Value) (w' : World), v = .pointer (some ⟨g, 1, none⟩) → Sp w0 (rest) w' → K (A.put (some 117) v) w') := Lib.hid hK0
                        clear hK0 hN hS hE
                        change Oper.wp _ _ A wx K _
                        go_step
                        exact hK.out _ _ rfl (H)
                      · intro x wx A rest hN hS hE H K hK0
                        have e117 : A.tmps[117]?.getD undef = .pointer (some ⟨g, 1, none⟩) := ((hS 8 (by decide)).2 117 rfl).trans (hS 8 (by decide)).1
                        have q116 := (hS 7 (by decide)).1
                        have e116 : A.tmps[116]?.getD undef = x 7 := (hS 7 (by decide)).2 116 rfl
                        replace H : Sp w0 ((Bk g 109 [.int .i64 (cc2 : Int), .slice none 0 0]) :: rest) wx := H
                        have hK : Hid (∀ (v : Value) (w' : World), True → Sp w0 ((Bk g 109 [.int .i64 (cc2 : Int), (x 7)]) :: rest) w' → K (A.put none v) w') := Lib.hid hK0
                        clear hK0 hN hS hE
                        obtain ⟨V9, c9, e9⟩ := q116
                        rw [e9] at e116
                        have z0 : wx.frozen? ⟨g, 1, none⟩ = false := H.frozen 0 rfl 1
                        have z1 : wx.cell? ⟨g, 1, none⟩ = some (.slice none 0 0) := H.cell 0 rfl 1
                        change Oper.wp _ _ A wx K _
                        go_step
                        refine hK.out (x 7) _ trivial ?_
                        rw [e9]
                        exact H.set 1 _
                    case hend =>
                      intro x wx A hA hS H
                      replace H : Sp w0 ((Row 3 1 (x 7) an (cellsN sa)) :: (Bk g 109 [.int .i64 (cc2 : Int), (x 7)]) :: RPool F3 :: Row 3 1 (.slice (some ad) i i) i (cntR i []) :: (R3 ++ L)) wx := H
                      have y7 : ∃ V c, (x 7) = .slice V an c := hS 7 (by decide)
                      clear hS
                      simp only [putAll, Act.put, List.setIfInBounds_toArray, List.set_cons_succ, List.set_cons_zero, Nat.reduceAdd] at hA
                      subst hA
                      obtain ⟨V1, c1, hv1, _, _⟩ := Row.form H 0 rfl
                      rw [hv1] at H
                      clear y7 hv1
                      go_wp2_with fail
                      refine wp_region_dp (L := RPool F3 :: Row 3 1 (.slice (some ad) i i) i (cntR i []) :: (R3 ++ L)) (fun ix ux vx => ([(fun _ => (· = .pointer (some ⟨g, 1, none⟩))), (fun _ => (· = .slice V1 an c1)), (fun _ => (· = .slice (some al) n2 c2)), (fun _ => (· = .int .i64 (k : Int))), (fun _ => (· = .int .i64 (k9 : Int))), (fun _ => (· = .pointer (some (al.add (k9 * 2))))), (fun _ => (· = .pointer (some ⟨(al.add (k9 * 2)).block, (al.add (k9 * 2)).off + 1, none⟩))), (fun _ => (· = .slice bA bn bc)), (fun _ => fun v => ∃ V c, v = .slice V (an + bn) c), (fun _ => (· = .pointer (some ⟨g, 1, none⟩))), (fun _ _ => True)] : List (Value → Value → Prop)).getD ix (fun _ _ => True) ux vx)
                        (fun ix ux vx => ([fun _ _ => [], fun _ _ => [], fun _ _ => [], fun _ _ => [], fun _ _ => [], fun _ _ => [], fun _ _ => [], fun _ _ => [], fun _ v => [Row 3 1 v (an + bn) (cellsN (sa ++ sb))], fun _ _ => [], fun ux _ => [Bk g 109 [.int .i64 (cc2 : Int), ux]]] : List (Value → Value → List Pr)).getD ix (fun _ _ => []) ux vx) (fun ix => ([[], [], [], [], [], [], [], [], [Row 3 1 (.slice V1 an c1) an (cellsN sa)], [], [Bk g 109 [.int .i64 (cc2 : Int), .slice V1 an c1]]] : List (List Pr)).getD ix []) 11 163
                        [some 118, some 119, some 120, some 121, some 122, some 123, some 124, some 125, some 126, some 127, none]
                        [[], [0], [], [], [3], [2, 4], [5], [6], [1, 7], [0, 1, 2, 3, 4, 5, 6, 7, 8], [9, 8, 8, 0, 1, 2, 3, 4, 5, 6, 7, 8]]
                        [[], [0], [], [], [3], [2, 3, 4], [2, 3, 4, 5], [2, 3, 4, 5, 6], [0, 1, 2, 3, 4, 5, 6, 7], [0, 1, 2, 3, 4, 5, 6, 7, 8], [0, 1, 2, 3, 4, 5, 6, 7, 8, 9]]
                        [[], [], [], [], [], [], [], [], [], [], []]
                        [[], [10], [], [], [], [], [], [], [], [], []]
                        [none, none, none, none, none, none, none, none, none, none, some 8] (by decide) [(10, .slice (some al) n2 c2), (13, .int .i64 (k : Int)), (14, .pointer (some ⟨g, 0, none⟩))]
                        (by kernel_rfl) rfl (by decide) (by rfl) rfl (by decide +kernel) (by decide +kernel) (by rfl) rfl rfl (by decide) (by simp) (by rfl) (H) ?hstep ?hend
                      case hstep =>
                        refine ⟨?_, ⟨?_, ⟨?_, ⟨?_, ⟨?_, ⟨?_, ⟨?_, ⟨?_, ⟨?_, ⟨?_, ⟨?_, trivial⟩⟩⟩⟩⟩⟩⟩⟩⟩⟩⟩
                        · intro x wx A rest hN hS hE H K hK0
                          have e14 : A.tmps[14]?.getD undef = .pointer (some ⟨g, 0, none⟩) := hN (14, .pointer (some ⟨g, 0, none⟩)) (by simp)
                          replace H : Sp w0 (rest) wx := H
                          have hK : Hid (∀ (v : Value) (w' : World), v = .pointer (some ⟨g, 1, none⟩) → Sp w0 (rest) w' → K (A.put (some 118) v) w') := Lib.hid hK0
                          clear hK0 hN hS hE
                          change Oper.wp _ _ A wx K _
                          go_step
                          exact hK.out _ _ rfl (H)
                        · intro x wx A rest hN hS hE H K hK0
                          have e118 : A.tmps[118]?.getD undef = .pointer (some ⟨g, 1, none⟩) := ((hS 0 (by decide)).2 118 rfl).trans (hS 0 (by decide)).1
                          replace H : Sp w0 ((Bk g 109 [.int .i64 (cc2 : Int), .slice V1 an c1]) :: rest) wx := H
                          have hK : Hid (∀ (v : Value) (w' : World), v = .slice V1 an c1 → Sp w0 ((Bk g 109 [.int .i64 (cc2 : Int), .slice V1 an c1]) :: rest) w' → K (A.put (some 119) v) w') := Lib.hid hK0
                          clear hK0 hN hS hE
                          have c1x : wx.cell? ⟨g, 1, none⟩ = some (.slice V1 an c1) := H.cell 0 rfl 1
                          change Oper.wp _ _ A wx K _
                          go_step
                          exact hK.out _ _ rfl (H)
                        · intro x wx A rest hN hS hE H K hK0
                          have e10 : A.tmps[10]?.getD undef = .slice (some al) n2 c2 := hN (10, .slice (some al) n2 c2) (by simp)
                          replace H : Sp w0 (rest) wx := H
                          have hK : Hid (∀ (v : Value) (w' : World), v = .slice (some al) n2 c2 → Sp w0 (rest) w' → K (A.put (some 120) v) w') := Lib.hid hK0
                          clear hK0 hN hS hE
                          change Oper.wp _ _ A wx K _
                          go_step
                          exact hK.out _ _ rfl (H)
                        · intro x wx A rest hN hS hE H K hK0
                          have e13 : A.tmps[13]?.getD undef = .int .i64 (k : Int) := hN (13, .int .i64 (k : Int)) (by simp)
                          replace H : Sp w0 (rest) wx := H
                          have hK : Hid (∀ (v : Value) (w' : World), v = .int .i64 (k : Int) → Sp w0 (rest) w' → K (A.put (some 121) v) w') := Lib.hid hK0
                          clear hK0 hN hS hE
                          change Oper.wp _ _ A wx K _
                          go_step
                          exact hK.out _ _ rfl (H)
                        · intro x wx A rest hN hS hE H K hK0
                          have e121 : A.tmps[121]?.getD undef = .int .i64 (k : Int) := ((hS 3 (by decide)).2 121 rfl).trans (hS 3 (by decide)).1
                          replace H : Sp w0 (rest) wx := H
                          have hK : Hid (∀ (v : Value) (w' : World), v = .int .i64 (k9 : Int) → Sp w0 (rest) w' → K (A.put (some 122) v) w') := Lib.hid hK0
                          clear hK0 hN hS hE
                          change Oper.wp _ _ A wx K _
                          go_step
                          exact hK.out _ _ rfl (H)
                        · intro x wx A rest hN hS hE H K hK0
                          have e120 : A.tmps[120]?.getD undef = .slice (some al) n2 c2 := ((hS 2 (by decide)).2 120 rfl).trans (hS 2 (by decide)).1
                          have e122 : A.tmps[122]?.getD undef = .int .i64 (k9 : Int) := ((hS 4 (by decide)).2 122 rfl).trans (hS 4 (by decide)).1
                          replace H : Sp w0 (rest) wx := H
                          have hK : Hid (∀ (v : Value) (w' : World), v = .pointer (some (al.add (k9 * 2))) → Sp w0 (rest) w' → K (A.put (some 123) v) w') := Lib.hid hK0
                          clear hK0 hN hS hE
                          change Oper.wp _ _ A wx K _
                          go_step
                          exact hK.out _ _ rfl (H)
                        · intro x wx A rest hN hS hE H K hK0
                          have e123 : A.tmps[123]?.getD undef = .pointer (some (al.add (k9 * 2))) := ((hS 5 (by decide)).2 123 rfl).trans (hS 5 (by decide)).1
                          replace H : Sp w0 (rest) wx := H
                          have hK : Hid (∀ (v : Value) (w' : World), v = .pointer (some ⟨(al.add (k9 * 2)).block, (al.add (k9 * 2)).off + 1, none⟩) → Sp w0 (rest) w' → K (A.put (some 124) v) w') := Lib.hid hK0
                          clear hK0 hN hS hE
                          change Oper.wp _ _ A wx K _
                          go_step
                          exact hK.out _ _ rfl (H)
                        · intro x wx A rest hN hS hE H K hK0
                          have e124 : A.tmps[124]?.getD undef = .pointer (some ⟨(al.add (k9 * 2)).block, (al.add (k9 * 2)).off + 1, none⟩) := ((hS 6 (by decide)).2 124 rfl).trans (hS 6 (by decide)).1
                          replace H : Sp w0 (rest) wx := H
                          have hK : Hid (∀ (v : Value) (w' : World), v = .slice bA bn bc → Sp w0 (rest) w' → K (A.put (some 125) v) w') := Lib.hid hK0
                          clear hK0 hN hS
                          obtain ⟨d0, d1⟩ := hE _ (Ent.cons _ (Ent.cons _ (HEB.out))) _ _ H
                          change Oper.wp _ _ A wx K _
                          go_step
                          exact hK.out _ _ rfl (H)
                        · intro x wx A rest hN hS hE H K hK0
                          have e119 : A.tmps[119]?.getD undef = .slice V1 an c1 := ((hS 1 (by decide)).2 119 rfl).trans (hS 1 (by decide)).1
                          have e125 : A.tmps[125]?.getD undef = .slice bA bn bc := ((hS 7 (by decide)).2 125 rfl).trans (hS 7 (by decide)).1
                          replace H : Sp w0 ((Row 3 1 (.slice V1 an c1) an (cellsN sa)) :: rest) wx := H
                          have hK : Hid (∀ (v : Value) (w' : World), (fun v => ∃ V c, v = .slice V (an + bn) c) v → Sp w0 ((Row 3 1 v (an + bn) (cellsN (sa ++ sb))) :: rest) w' → K (A.put (some 126) v) w') := Lib.hid hK0
                          clear hK0 hN hS
                          have hrd := hE _ HRB.out _ _ H.tail
                          change Oper.wp _ _ A wx K _
                          refine wp_append_sp _ _ 52 rfl 3 i1 (.int .i64 0) 1 8 Try.underlying52 hj hj0 hj1 hj2 rfl (by decide) (.slice V1 an c1) an (cellsN sa) (ev e119) H bA bn bc (cellsN sb) (ev e125) (by rw [show (cellsN sb).length = sb.length by simp [cellsN]]; have := HSA.out; omega) hrd (by intro u hu; obtain ⟨x9, _, rfl⟩ := List.mem_map.1 hu; rfl) (by simp only [maxLen]; omega) (by omega) ?_
                          intro v1 w2 H2 _
                          rw [← cellsN_append] at H2
                          obtain ⟨V9, c9, hv9, _, _⟩ := Row.form H2 0 rfl
                          exact hK.out _ _ ⟨V9, c9, hv9⟩ H2
                        · intro x wx A rest hN hS hE H K hK0
                          have e14 : A.tmps[14]?.getD undef = .pointer (some ⟨g, 0, none⟩) := hN (14, .pointer (some ⟨g, 0, none⟩)) (by simp)
                          replace H : Sp w0 (rest) wx := H
                          have hK : Hid (∀ (v : Value) (w' : World), v = .pointer (some ⟨g, 1, none⟩) → Sp w0 (rest) w' → K (A.put (some 127) v) w') := Lib.hid hK0
                          clear hK0 hN hS hE
                          change Oper.wp _ _ A wx K _
                          go_step
                          exact hK.out _ _ rfl (H)
                        · intro x wx A rest hN hS hE H K hK0
                          have e127 : A.tmps[127]?.getD undef = .pointer (some ⟨g, 1, none⟩) := ((hS 9 (by decide)).2 127 rfl).trans (hS 9 (by decide)).1
                          have q126 := (hS 8 (by decide)).1
                          have e126 : A.tmps[126]?.getD undef = x 8 := (hS 8 (by decide)).2 126 rfl
                          replace H : Sp w0 ((Bk g 109 [.int .i64 (cc2 : Int), .slice V1 an c1]) :: rest) wx := H
                          have hK : Hid (∀ (v : Value) (w' : World), True → Sp w0 ((Bk g 109 [.int .i64 (cc2 : Int), (x 8)]) :: rest) w' → K (A.put none v) w') := Lib.hid hK0
                          clear hK0 hN hS hE
                          obtain ⟨V9, c9, e9⟩ := q126
                          rw [e9] at e126
                          have z0 : wx.frozen? ⟨g, 1, none⟩ = false := H.frozen 0 rfl 1
                          have z1 : wx.cell? ⟨g, 1, none⟩ = some (.slice V1 an c1) := H.cell 0 rfl 1
                          change Oper.wp _ _ A wx K _
                          go_step
                          refine hK.out (x 8) _ trivial ?_
                          rw [e9]
                          exact H.set 1 _
                      case hend =>
                        intro x wx A hA hS H
                        replace H : Sp w0 ((Row 3 1 (x 8) (an + bn) (cellsN (sa ++ sb))) :: (Bk g 109 [.int .i64 (cc2 : Int), (x 8)]) :: RPool F3 :: Row 3 1 (.slice (some ad) i i) i (cntR i []) :: (R3 ++ L)) wx := H
                        have y8 : ∃ V c, (x 8) = .slice V (an + bn) c := hS 8 (by decide)
                        clear hS
                        simp only [putAll, Act.put, List.setIfInBounds_toArray, List.set_cons_succ, List.set_cons_zero, Nat.reduceAdd] at hA
                        subst hA
                        obtain ⟨V2, c4, hv2, _, _⟩ := Row.form H 0 rfl
                        rw [hv2] at H
                        clear y8 hv2
                        have d0 := H.cell 1 rfl 0
                        have d1 := H.cell 1 rfl 1
                        simp only [List.getElem?_cons_zero, List.getElem?_cons_succ] at d0 d1
                        have hsl : an + bn = (sa ++ sb).length := by rw [List.length_append, ← HSA.out.1, ← HSA.out.2]
                        have H2 : Sp w0 (RPool (((V2, c4), sa ++ sb) :: F3) :: Row 3 1 (.slice (some ad) i i) i (cntR i []) :: (R3 ++ L)) wx := by
                          have h := H.pick 3 [0, 2]
                          rw [hsl] at h
                          exact RPool.cons h
                        have hpt := rput_ok A3 n3 c3 zs ⟨(cc2 : Int), V2, an + bn, c4⟩ H2 HJ.out.2.1.symm (Ent.cons _ (Ent.cons _ HJ.out.2.2.2.2.2.1)) hn3c (by omega)
                        have henc : EncRL (((V2, c4), sa ++ sb) :: F3) (SS.mrg PL.keyP it (PL.pairsTo (PL.lst it q) (j + 1))) (SS.put keyR zs ⟨(cc2 : Int), V2, an + bn, c4⟩) := by
                          rw [HNX.out]
                          exact (HJ.out.2.2.2.1.mono fun _ h => List.mem_cons_of_mem _ h).put ⟨rfl, List.mem_cons_self .., hsl⟩
                        have hlen : (SS.put keyR zs ⟨(cc2 : Int), V2, an + bn, c4⟩).length = n3 + 1 := by rw [SS.len_put, HJ.out.2.1]
                        obtain ⟨Y, hY⟩ : ∃ Y, SS.put keyR zs ⟨(cc2 : Int), V2, an + bn, c4⟩ = Y := ⟨_, rfl⟩
                        rw [hY] at hpt henc hlen
                        unfold RK.val at hpt
                        have HPT := Lib.hid hpt
                        have HENC := Lib.hid henc
                        have HLEN := Lib.hid hlen
                        clear hpt henc hlen hY H H2 hsl HRA HRB HEA HEB
                        go_wp2_with fail
                        refine HPT.out.mono ?_
                        rintro _ w9 ⟨v9, rfl, H11⟩
                        clear HPT d0 d1
                        obtain ⟨V9, c9, hv9, hc9, _⟩ := Row.form H11 0 rfl
                        subst hv9
                        have hrd : Ent (([Row 109 2 (.slice V9 (n3 + 1) c9) (n3 + 1) (cellsR Y)] ++ R3) ++ L) (fun w => Rd w V9 (cellsR Y)) := fun _ _ H => by
                          obtain ⟨A9, c9, e9, hr9, _, _⟩ := H.row_rd 0 rfl
                          injection e9 with e9
                          rw [e9]; exact hr9
                        have HRD := Lib.hid hrd
                        have H12 : Sp w0 (RPool (((V2, c4), sa ++ sb) :: F3) :: Row 3 1 (.slice (some ad) i i) i (cntR i []) :: (([Row 109 2 (.slice V9 (n3 + 1) c9) (n3 + 1) (cellsR Y)] ++ R3) ++ L)) w9 := H11.pick 3 [1, 2, 0]
                        clear hrd H11
                        go_wp2_with fail
                        go_roundw
                        case rel => exact ⟨k + 2, j + 1, n3 + 1, c9, V9, _, Y, [Row 109 2 (.slice V9 (n3 + 1) c9) (n3 + 1) (cellsR Y)] ++ R3, by go_num, rfl, hk9b, hc9, by have := HJ.out.1; have := HJ.out.2.2.1; have := HIT.out; omega, Lib.hid ⟨by have := HJ.out.1; omega, HLEN.out, by have := HJ.out.2.2.1; omega, HENC.out, fun e he => List.mem_cons_of_mem _ (HJ.out.2.2.2.2.1 e he), HRD.out, HJ.out.2.2.2.2.2.2.1.cons _, HJ.out.2.2.2.2.2.2.2.cons _⟩, H12⟩
                        case measure => first | (simp [intOf]; omega) | simp [intOf]
                · have k6 : ¬ (k : Int) + 1 < (n2 : Int) := by omega
                  have hpe : EncRL F3 (PL.lst it (q + 1)) zs := by
                    have h := HJ.out.2.2.2.1
                    show EncRL F3 (PL.nxt it (PL.lst it q)) zs
                    rw [HNXT.out]
                    unfold PL.pairs
                    rw [HNL.out, show n2 / 2 = j by have := HJ.out.1; omega]
                    exact h
                  have HPE := Lib.hid hpe
                  clear hpe
                  go_wp2_with fail
                  go_roundw
                  case rel => exact ⟨q + 1, n3, c3, A3, F3, zs, R3, by first | (go_num; done) | exact congrArg (Value.int .i64) (by omega), rfl, by omega, hn3c, Lib.hid ⟨HJ.out.2.1, HPE.out, HY.out.2.2.1.mono HJ.out.2.2.2.2.1, HJ.out.2.2.2.2.2.1, HJ.out.2.2.2.2.2.2.2⟩, H⟩
                  case measure => first | (simp [intOf]; omega) | simp [intOf]
            · have k5 : ¬ (q : Int) + 1 < (lm : Int) := by omega
              obtain ⟨t, ht⟩ : ∃ t, 2 * nn = t + 2 := ⟨2 * nn - 2, by omega⟩
              obtain ⟨t2, ht2⟩ : ∃ t2, 2 * nn = t2 := ⟨_, rfl⟩
              have y5 : (2 : Int) * (nn : Int) = (t2 : Int) := by omega
              have y6 : (t2 : Int) - 2 = (t : Int) := by omega
              have htn : t ≤ n2 := by
                have := HEN.out
                rw [show lm - 1 = q by omega, hnl, HIT.out] at this
                omega
              have hTT : T = ((PL.lst it q).take t).flatMap Prod.snd := by
                rw [HT2.out, show lm - 1 = q by omega, show 2 * nn - 2 = t by omega]
              have HTT := Lib.hid hTT
              have HNL := Lib.hid hnl
              have ht2b : t2 ≤ 1000000 := by omega
              clear ht ht2 hTT hnl HT2 HEN
              go_wp2_with fail
              go_loopw [15] (fun iv wr => ∃ (r : Nat), iv = .int .i64 (r : Int) ∧ r ≤ t ∧ Sp w0 (RPool F2 :: Row 3 1 (.slice (some ad) i i) i (cntR i (((PL.lst it q).take r).flatMap Prod.snd)) :: (R2 ++ L)) wr) (fun iv _ => t - (intOf iv).toNat)
              case atStart => exact ⟨0, rfl, Nat.zero_le _, H⟩
              case round =>
                clear H
                obtain ⟨r, rfl, hrt, H⟩ := hrel
                by_cases hr : r < t
                · have k8 : (r : Int) < (t : Int) := by omega
                  have k9 : (r : Int) < (n2 : Int) := by omega
                  obtain ⟨px, hpx⟩ : ∃ px, ys.getD r rk0 = px := ⟨_, rfl⟩
                  obtain ⟨tx, htx⟩ : ∃ tx, (PL.lst it q).getD r PL.pk0 = tx := ⟨_, rfl⟩
                  have hrx : r < ys.length := by rw [HY.out.1]; omega
                  have hex : EncR F2 tx px := by
                    rw [← htx, ← hpx]
                    exact HY.out.2.1.get PL.pk0 rk0 r (by rw [HNL.out]; omega)
                  obtain ⟨xc, xA, xn, xp⟩ := px
                  obtain ⟨he1, he2, he3⟩ := hex
                  simp only at he1 he2 he3
                  obtain ⟨s, hs⟩ : ∃ s, tx.2 = s := ⟨_, rfl⟩
                  rw [hs] at he2 he3
                  obtain ⟨al, hal2, _, _⟩ := rdR (HY.out.2.2.2.1 _ _ H.tail2) (i := r) hrx
                  have hea2 : Ent (R2 ++ L) (fun w => w.cell? (al.add (r * 2)) = some (.int .i64 xc) ∧ w.cell? ⟨(al.add (r * 2)).block, (al.add (r * 2)).off + 1, none⟩ = some (.slice xA xn xp)) := fun _ _ H => by
                    obtain ⟨a9, e9, d0, d1⟩ := rdR (HY.out.2.2.2.1 _ _ H) (i := r) hrx
                    rw [hal2] at e9
                    injection e9 with e9
                    rw [hpx] at d0 d1
                    rw [e9]; exact ⟨d0, d1⟩
                  have hra : Ent (RPool F2 :: (R2 ++ L)) (fun w => Rd w xA (cellsN s)) := fun _ _ H => (RPool.rd H he2).1
                  obtain ⟨acc, hacc⟩ : ∃ acc, ((PL.lst it q).take r).flatMap Prod.snd = acc := ⟨_, rfl⟩
                  have hnext : ((PL.lst it q).take (r + 1)).flatMap Prod.snd = acc ++ s := by
                    have hrl : r < (PL.lst it q).length := by rw [HNL.out]; omega
                    have e9 : (PL.lst it q)[r] = tx := by rw [← htx, List.getD_eq_getElem?_getD, List.getElem?_eq_getElem hrl]; rfl
                    rw [List.take_succ_eq_append_getElem hrl, List.flatMap_append, hacc, e9, ← hs]; simp
                  rw [hacc] at H
                  have hlenf : ∀ l : List PL.Pk, (l.flatMap Prod.snd).length = PL.wt (fun p => p.2.length) l := by
                    intro l
                    induction l with
                    | nil => rfl
                    | cons p l ih => rw [List.flatMap_cons, List.length_append, ih]; rfl
                  have hal3 : acc.length + s.length ≤ 1000000000 := by
                    rw [← List.length_append, ← hnext, hlenf]
                    have g1 := PL.wt_take (fun p => p.2.length) (PL.lst it q) (r + 1)
                    have g2 := PL.wt_lst (fun p => p.2.length) (fun _ _ => List.length_append) it q
                    have g3 : PL.wt (fun p => p.2.length) it ≤ it.length := by
                      have : ∀ l : List PL.Pk, (∀ p ∈ l, p.2.length = 1) → PL.wt (fun p => p.2.length) l ≤ l.length := by
                        intro l
                        induction l with
                        | nil => intro _; exact Nat.le_refl _
                        | cons p l ih =>
                          intro hp
                          have h1 := hp p (List.mem_cons_self ..)
                          have h2 := ih fun q hq => hp q (List.mem_cons_of_mem _ hq)
                          show p.2.length + PL.wt _ l ≤ l.length + 1
                          omega
                      exact this it fun p hp => (HME.out p hp).2.1
                    rw [HIT.out] at g3
                    have g4 : (q + 1) * PL.wt (fun p => p.2.length) it ≤ 2000 * 2000 := Nat.mul_le_mul (by omega) (by omega)
                    omega
                  have hsy : ∀ z ∈ s, z < i := by
                    have := PL.lst_mem (fun p => ∀ z ∈ p.2, z < i) (fun a b ha hb z hz => by
                      rcases List.mem_append.1 hz with hz | hz
                      · exact ha z hz
                      · exact hb z hz) it (fun p hp => (HME.out p hp).2.2) q tx (by
                        rw [← htx, List.getD_eq_getElem?_getD, List.getElem?_eq_getElem (by rw [HNL.out]; omega)]; exact List.getElem_mem _)
                    rw [hs] at this
                    exact this
                  have HSY := Lib.hid hsy
                  have HNXX := Lib.hid hnext
                  have HEA := Lib.hid hea2
                  have HRA := Lib.hid hra
                  have hxn : xn ≤ 1000000000 := by omega
                  have HXN := Lib.hid he3
                  have HAL3 := Lib.hid hal3
                  subst hal2
                  clear hpx htx hrx he1 he2 he3 hs hea2 hra hacc hnext hlenf hal3 hsy
                  go_wp2_with fail
                  go_loopw [16] (fun jv wr => ∃ (j : Nat), jv = .int .i64 (j : Int) ∧ j ≤ xn ∧ Sp w0 (RPool F2 :: Row 3 1 (.slice (some ad) i i) i (cntR i (acc ++ s.take j)) :: (R2 ++ L)) wr) (fun jv _ => xn - (intOf jv).toNat)
                  case atStart => exact ⟨0, rfl, Nat.zero_le _, by rw [List.take_zero, List.append_nil]; exact H⟩
                  case round =>
                    clear H
                    obtain ⟨j, rfl, hjx, H⟩ := hrel
                    obtain ⟨d0, d1⟩ := HEA.out _ _ H.tail2
                    by_cases hjn : j < xn
                    · have q1 : (j : Int) < (xn : Int) := by omega
                      have hjs : j < s.length := by rw [← HXN.out]; exact hjn
                      have hrx2 := HRA.out _ _ (H.pick 2 [0])
                      obtain ⟨xa, hxa, hxc⟩ := hrx2.at_ (k := j) (by simpa [cellsN] using hjs)
                      obtain ⟨z, hz⟩ : ∃ z, s[j] = z := ⟨_, rfl⟩
                      replace hxc : wr.cell? (xa.add j) = some (.int .i64 (z : Int)) := by
                        rw [hxc]
                        simp [cellsN, hz]
                      subst hxa
                      have hzi : z < i := HSY.out z (by rw [← hz]; exact List.getElem_mem hjs)
                      have q2 : (z : Int) < (i : Int) := by omega
                      obtain ⟨ad2, c5, ev, _, hcx, hzf, hset⟩ := (H.swap).rowSet hzi
                      injection ev with ev ev2 ev3
                      injection ev with ev
                      subst ev
                      clear ev2 ev3
                      rw [cntR_get _ _ _ hzi] at hcx
                      obtain ⟨u, hu⟩ : ∃ u, (acc ++ s.take j).count z = u := ⟨_, rfl⟩
                      have hul : u ≤ 1000000000 := by
                        rw [← hu]
                        refine Nat.le_trans List.count_le_length ?_
                        rw [List.length_append, List.length_take]
                        have := HAL3.out; omega
                      rw [hu] at hcx
                      have hst := hset (.int .i64 ((u : Int) + 1))
                      rw [cntR_set i z _ _ (by rw [hu]), List.append_assoc, show s.take j ++ [z] = s.take (j + 1) by rw [List.take_succ_eq_append_getElem hjs, hz]] at hst
                      have HST := Lib.hid hst.swap
                      clear hset hst hu hz hrx2
                      go_wp2_with fail
                      go_roundw
                      case rel => exact ⟨j + 1, by go_num, by omega, HST.out⟩
                      case measure => first | (simp [intOf]; omega) | simp [intOf]
                    · have q1 : ¬ (j : Int) < (xn : Int) := by omega
                      obtain rfl : j = xn := by omega
                      rw [List.take_of_length_le (by rw [← HXN.out]; exact Nat.le_refl _)] at H
                      go_wp2_with fail
                      go_roundw
                      case rel => exact ⟨r + 1, by go_num, by omega, by rw [HNXX.out]; exact H⟩
                      case measure => first | (simp [intOf]; omega) | simp [intOf]
                · have k8 : ¬ (r : Int) < (t : Int) := by omega
                  obtain rfl : r = t := by omega
                  rw [← HTT.out] at H
                  go_wp2_with fail
                  go_ret2
                  exact ⟨_, rfl, Sp.dropMid 1 [_] rfl H.swap⟩
end Go.Proofs.Ytdlbhoedmaifpaa
