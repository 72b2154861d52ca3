/- MatchR: the document's best match. -/
import Derived.Test.YtdlbhoedmaifpaaMatchW
namespace Go.Proofs.Ytdlbhoedmaifpaa
open Go.RowKit Go.MapKept
namespace PM
theorem go_far (B : List UInt8) (q : Nat) (ps : List Nat) (d : Nat) (b : Nat × Nat) (h : ∀ p ∈ ps, 32768 < q - p) : go B q ps d b = b := by
  cases ps with
  | nil => rfl
  | cons p ps =>
    rw [go]
    split
    · rfl
    · rw [if_pos (h p (List.mem_cons_self ..))]
/-- How far the document's search has come. -/
def SInv (B : List UInt8) (q d j t : Nat) (b : Nat × Nat) : Prop := 1 ≤ j ∧ j ≤ q + 1 ∧ t ≤ j ∧ b.1 ≤ 258 ∧ go B q (places B (q + 1 - j) (at3 B q)).reverse (d - t) b = best B q d
theorem SInv.start {B : List UInt8} {q d : Nat} (hq : q + 3 ≤ B.length) : SInv B q d 1 0 (0, 0) := by
  refine ⟨Nat.le_refl _, by omega, by omega, Nat.zero_le _, ?_⟩
  unfold best
  rw [if_pos hq]
  rfl
theorem SInv.skip {B : List UInt8} {q d j t : Nat} {b : Nat × Nat} (h : SInv B q d j t b) (hq : q + 3 ≤ B.length) (hj : j ≤ q) (hm : mlen B (q - j) q < 3) : SInv B q d (j + 1) t b := by
  obtain ⟨h1, h2, h3, h5, h4⟩ := h
  refine ⟨by omega, by omega, by omega, h5, ?_⟩
  rw [← h4]
  have e : q + 1 - j = (q - j) + 1 := by omega
  rw [e, places_succ, if_neg (fun he => by have := (mlen_three hq).2 he; omega), show q + 1 - (j + 1) = q - j by omega]
theorem SInv.take {B : List UInt8} {q d j t m : Nat} {b : Nat × Nat} (h : SInv B q d j t b) (hq : q + 3 ≤ B.length) (hj : j ≤ q) (hf : j ≤ 32768) (ht : t < d) (hm : mlen B (q - j) q = m) (h3 : ¬ m < 3) :
    SInv B q d (j + 1) (t + 1) (if b.1 < m then (m, j) else b) := by
  obtain ⟨h1, h2, h3', h5, h4⟩ := h
  have hm2 := mlen_le B (q - j) q
  refine ⟨by omega, by omega, by omega, by split <;> first | exact h5 | (show m ≤ 258; omega), ?_⟩
  rw [← h4]
  have e : q + 1 - j = (q - j) + 1 := by omega
  rw [e, places_succ, if_pos ((mlen_three hq).1 (by omega)), show q + 1 - (j + 1) = q - j by omega, List.reverse_append, List.reverse_singleton, List.singleton_append, go, if_neg (show ¬ (d - t = 0) by omega), show q - (q - j) = j by omega, if_neg (show ¬ (32768 < j) by omega), hm, Nat.sub_sub]
theorem SInv.done {B : List UInt8} {q d j t : Nat} {b : Nat × Nat} (h : SInv B q d j t b) (he : 32768 < j ∨ q < j ∨ d ≤ t) : b = best B q d := by
  obtain ⟨h1, h2, h3, h5, h4⟩ := h
  rw [← h4]
  rcases he with he | he | he
  · rw [go_far]
    intro p hp
    rw [List.mem_reverse, places_mem] at hp
    omega
  · rw [show q + 1 - j = 0 by omega]; rfl
  · rw [show d - t = 0 by omega, go_zero]
end PM
set_option maxRecDepth 100000 in
set_option maxHeartbeats 4000000 in
theorem rbest_ok (l q : Nat) (d : Int) (A0 : Option Addr) (ca : Nat) (B : List UInt8) {w0 w : World} {L : List Pr} (H : Sp w0 L w) (hl : l = B.length) (hb : Ent L (fun w => Byt w (.slice A0 l ca) B)) (hq : q ≤ l) (hlm : l ≤ 1000000) :
    Calls Try.prog 19 #[.slice A0 l ca, .int .i64 (q : Int), .int .i64 d] w fun e w' => e = .returned (.tuple #[stV ((PM.best B q d.toNat).1, (PM.best B q d.toNat).2, 0), .bool (decide (0 < (PM.best B q d.toNat).1))]) ∧ Sp w0 L w' := by
  have HL := Lib.hid hl
  have HB := Lib.hid hb
  clear hl hb
  have H1 := (H.newBk [.int .i64 0, .int .i64 0, .int .u8 0] 38).newBk [.int .i64 0, .int .i64 0, .int .u8 0] 38
  have es : (w.alloc (.cells #[.int .i64 0, .int .i64 0, .int .u8 0] 38)).heap.size = w.heap.size + 1 := Array.size_push _
  rw [es] at H1
  have H2 := H1
  clear es H1
  go_enter Try.func19, Try.ntmps19
  go_wp2_with fail
  generalize w.heap.size + 1 = s at H2 ⊢
  generalize w.heap.size = r at H2 ⊢
  generalize (w.alloc _).alloc _ = w1 at H2 ⊢
  go_loopw [9, 10] (fun tv fv wr => ∃ (j t : Nat) (b : Nat × Nat), tv = .int .i64 (t : Int) ∧ fv = .int .i64 (j : Int) ∧ (if q + 3 ≤ l then PM.SInv B q d.toNat j t b else (b = (0, 0) ∧ j = 1 ∧ t = 0)) ∧ Sp w0 (Bk s 38 [.int .i64 (b.1 : Int), .int .i64 (b.2 : Int), .int .u8 0] :: Bk r 38 [.int .i64 0, .int .i64 0, .int .u8 0] :: L) wr) (fun _ fv _ => q + 1 - (intOf fv).toNat)
  case atStart =>
    refine ⟨1, 0, (0, 0), rfl, rfl, ?_, H2⟩
    split
    · rename_i h; exact PM.SInv.start (by rw [← HL.out]; exact h)
    · exact ⟨rfl, rfl, rfl⟩
  case round =>
    obtain ⟨j, t, b, rfl, rfl, hinv, H⟩ := hrel
    obtain ⟨b1, b2⟩ := b
    have t0 : wr.cell? ⟨s, 0, none⟩ = some (.int .i64 (b1 : Int)) := H.cell 0 rfl 0
    have hfin : (q + 3 ≤ l → (32768 < j ∨ q < j ∨ d ≤ (t : Int))) → (b1, b2) = PM.best B q d.toNat := fun h => by
      by_cases h3 : q + 3 ≤ l
      · rw [if_pos h3] at hinv
        refine hinv.done ?_
        rcases h h3 with h | h | h
        · exact .inl h
        · exact .inr (.inl h)
        · exact .inr (.inr (by omega))
      · rw [if_neg h3] at hinv
        rw [PM.best_short B q _ (by rw [← HL.out]; omega)]
        exact hinv.1
    have HFIN := Lib.hid hfin
    have HINV := Lib.hid hinv
    clear hfin
    by_cases h3 : q + 3 ≤ l
    · have k1 : (q : Int) + 3 ≤ (l : Int) := by omega
      have hi := hinv
      rw [if_pos h3] at hi
      obtain ⟨i1, i2, i3, i4, _⟩ := hi
      replace i4 : b1 ≤ 258 := i4
      clear hinv
      by_cases hf : j ≤ 32768
      · have k2 : (j : Int) ≤ 32768 := by omega
        by_cases hjq : j ≤ q
        · have k3 : (j : Int) ≤ (q : Int) := by omega
          by_cases htd : (t : Int) < d
          · go_wp2_with fail
            clear t0 k1 k2 k3
            go_loopw [11] (fun nv wz => ∃ i : Nat, nv = .int .i64 (i : Int) ∧ i ≤ 258 ∧ (∀ t, t < i → q + t < B.length ∧ B.getD (q - j + t) 0 = B.getD (q + t) 0) ∧ Sp w0 (Bk s 38 [.int .i64 (b1 : Int), .int .i64 (b2 : Int), .int .u8 0] :: Bk r 38 [.int .i64 0, .int .i64 0, .int .u8 0] :: L) wz) (fun nv _ => 258 - (intOf nv).toNat)
            case atStart => exact ⟨0, rfl, by omega, fun t ht => absurd ht (Nat.not_lt_zero _), H⟩
            case round =>
              obtain ⟨i, rfl, hi, hsame, H2⟩ := hrel
              have HS := Lib.hid hsame
              clear hsame
              obtain ⟨qi, hqi⟩ : ∃ qi, q + i = qi := ⟨_, rfl⟩
              obtain ⟨pi, hpi⟩ : ∃ pi, q - j + i = pi := ⟨_, rfl⟩
              have x1 : (q : Int) + (i : Int) = (qi : Int) := by omega
              have x2 : (q : Int) - (j : Int) + (i : Int) = (pi : Int) := by omega
              have hqi2 : qi ≤ 10000000 := by omega
              have hpq : pi ≤ qi := by omega
              have HQI := Lib.hid hqi
              have HPI := Lib.hid hpi
              have hfin : (i = 258 ∨ ¬ (q + i < B.length ∧ B.getD (q - j + i) 0 = B.getD (q + i) 0)) → PM.mlen B (q - j) q = i := fun h => PM.mlen_of B (q - j) q i hi HS.out h
              have HFIN := Lib.hid hfin
              clear hqi hpi hfin
              by_cases hend : qi < l
              · have k2 : (qi : Int) < (l : Int) := by omega
                by_cases h258 : i < 258
                · have k3 : (i : Int) < 258 := by omega
                  have hqB : qi < B.length := by rw [← HL.out]; exact hend
                  have hpB : pi < B.length := by omega
                  have k4 : (pi : Int) < (l : Int) := by omega
                  obtain ⟨ad, rfl⟩ : ∃ ad, A0 = some ad := by
                    obtain ⟨_, _, e, hr, _, _⟩ := HB.out _ _ (H2.pick 2 [])
                    obtain ⟨ad, e2, _⟩ := hr.at8 hqB
                    injection e with e
                    exact ⟨ad, e.trans e2⟩
                  have hcell : ∀ t (h : t < B.length), wr.cell? (ad.add t) = some (.int .u8 ((B[t]).toNat : Int)) := fun t h => by
                    obtain ⟨_, _, e, hr, _, _⟩ := HB.out _ _ (H2.pick 2 [])
                    obtain ⟨ad2, e2, hc⟩ := hr.at8 h
                    injection e with e
                    rw [← e] at e2
                    injection e2 with e2
                    rw [e2]; exact hc
                  obtain ⟨xb, hxb⟩ : ∃ xb, (B[pi]).toNat = xb := ⟨_, rfl⟩
                  obtain ⟨yb, hyb⟩ : ∃ yb, (B[qi]).toNat = yb := ⟨_, rfl⟩
                  have hbe : B.getD (q - j + i) 0 = B.getD (q + i) 0 ↔ xb = yb := by
                    rw [HPI.out, HQI.out, List.getD_eq_getElem?_getD, List.getD_eq_getElem?_getD, List.getElem?_eq_getElem hpB, List.getElem?_eq_getElem hqB, ← hxb, ← hyb]
                    exact UInt8.toNat_inj.symm
                  have z1 := hcell pi hpB
                  have z2 := hcell qi hqB
                  rw [hxb] at z1
                  rw [hyb] at z2
                  have HBE := Lib.hid hbe
                  clear hcell hbe hxb hyb
                  by_cases hxy : xb = yb
                  · have k5 : ((xb : Int) == (yb : Int)) = true := by rw [beq_iff_eq]; omega
                    have HXY := Lib.hid hxy
                    clear hxy
                    go_wp2_with fail
                    go_quiet (fail)
                    go_wp2
                    go_roundw
                    case rel =>
                      refine ⟨i + 1, by go_num, by omega, fun t ht => ?_, H2.drewN _⟩
                      by_cases e : t = i
                      · subst e
                        exact ⟨by rw [HQI.out]; exact hqB, HBE.out.2 HXY.out⟩
                      · exact HS.out t (by omega)
                    case measure => first | (simp [intOf]; omega) | simp [intOf]
                  · have k5 : ((xb : Int) == (yb : Int)) = false := by rw [beq_eq_false_iff_ne]; omega
                    have hm : PM.mlen B (q - j) q = i := HFIN.out (.inr fun h => hxy (HBE.out.1 h.2))
                    have HM := Lib.hid hm
                    clear hm hxy
                    go_wp2_with fail
                    go_quiet (fail)
                    have t0 : ∀ z, (wr.drewN z).cell? ⟨s, 0, none⟩ = some (.int .i64 (b1 : Int)) := fun z => (H2.drewN z).cell 0 rfl 0
                    have y1 : ∀ z, (wr.drewN z).cell? ⟨s, 1, none⟩ = some (.int .i64 (b2 : Int)) := fun z => (H2.drewN z).cell 0 rfl 1
                    have y2 : ∀ z, (wr.drewN z).cell? ⟨s, 2, none⟩ = some (.int .u8 0) := fun z => (H2.drewN z).cell 0 rfl 2
                    have z0 : ∀ z, (wr.drewN z).frozen? ⟨s, 0, none⟩ = false := fun z => (H2.drewN z).frozen 0 rfl 0
                    have z1 : ∀ z, (wr.drewN z).frozen? ⟨s, 1, none⟩ = false := fun z => (H2.drewN z).frozen 0 rfl 1
                    have z2 : ∀ z, (wr.drewN z).frozen? ⟨s, 2, none⟩ = false := fun z => (H2.drewN z).frozen 0 rfl 2
                    have hiv := HINV.out
                    rw [if_pos h3] at hiv
                    have HIV := Lib.hid hiv
                    clear hiv
                    by_cases hm3 : i < 3
                    · have k7 : (i : Int) < 3 := by omega
                      have hsk := HIV.out.skip (by rw [← HL.out]; exact h3) hjq (by rw [HM.out]; exact hm3)
                      have HSK := Lib.hid hsk
                      clear hsk hm3
                      go_wp2_with fail
                      go_roundw
                      case rel => exact ⟨j + 1, t, (b1, b2), by go_num, by go_num, by rw [if_pos h3]; exact HSK.out, H2.drewN _⟩
                      case measure => first | (simp [intOf]; omega) | simp [intOf]
                    · have k7 : ¬ (i : Int) < 3 := by omega
                      have htk := HIV.out.take (by rw [← HL.out]; exact h3) hjq hf (by omega) HM.out hm3
                      have HTK := Lib.hid htk
                      clear htk hm3
                      by_cases hbi : b1 < i
                      · have k8 : (b1 : Int) < (i : Int) := by omega
                        have e9 : (if (b1, b2).1 < i then (i, j) else (b1, b2)) = (i, j) := if_pos hbi
                        have HE9 := Lib.hid e9
                        clear e9
                        go_wp2_with fail
                        go_roundw
                        case rel => exact ⟨j + 1, t + 1, (i, j), by go_num, by go_num, by rw [if_pos h3, ← HE9.out]; exact HTK.out, (((H2.drewN _).set 0 _).set 1 _).set 2 _⟩
                        case measure => first | (simp [intOf]; omega) | simp [intOf]
                      · have k8 : ¬ (b1 : Int) < (i : Int) := by omega
                        have e9 : (if (b1, b2).1 < i then (i, j) else (b1, b2)) = (b1, b2) := if_neg hbi
                        have HE9 := Lib.hid e9
                        clear e9
                        go_wp2_with fail
                        go_roundw
                        case rel => exact ⟨j + 1, t + 1, (b1, b2), by go_num, by go_num, by rw [if_pos h3, ← HE9.out]; exact HTK.out, H2.drewN _⟩
                        case measure => first | (simp [intOf]; omega) | simp [intOf]
                · obtain rfl : i = 258 := by omega
                  have x1 : (q : Int) + 258 = (qi : Int) := by omega
                  have x2 : (q : Int) - (j : Int) + 258 = (pi : Int) := by omega
                  have hm : PM.mlen B (q - j) q = 258 := HFIN.out (.inl rfl)
                  have HM := Lib.hid hm
                  clear hm
                  go_wp2_with fail
                  go_quiet (fail)
                  have t0 : ∀ z, (wr.drewN z).cell? ⟨s, 0, none⟩ = some (.int .i64 (b1 : Int)) := fun z => (H2.drewN z).cell 0 rfl 0
                  have y1 : ∀ z, (wr.drewN z).cell? ⟨s, 1, none⟩ = some (.int .i64 (b2 : Int)) := fun z => (H2.drewN z).cell 0 rfl 1
                  have y2 : ∀ z, (wr.drewN z).cell? ⟨s, 2, none⟩ = some (.int .u8 0) := fun z => (H2.drewN z).cell 0 rfl 2
                  have z0 : ∀ z, (wr.drewN z).frozen? ⟨s, 0, none⟩ = false := fun z => (H2.drewN z).frozen 0 rfl 0
                  have z1 : ∀ z, (wr.drewN z).frozen? ⟨s, 1, none⟩ = false := fun z => (H2.drewN z).frozen 0 rfl 1
                  have z2 : ∀ z, (wr.drewN z).frozen? ⟨s, 2, none⟩ = false := fun z => (H2.drewN z).frozen 0 rfl 2
                  have hiv := HINV.out
                  rw [if_pos h3] at hiv
                  have HIV := Lib.hid hiv
                  clear hiv
                  by_cases hm3 : 258 < 3
                  · have k7 : (258 : Int) < 3 := by omega
                    have hsk := HIV.out.skip (by rw [← HL.out]; exact h3) hjq (by rw [HM.out]; exact hm3)
                    have HSK := Lib.hid hsk
                    clear hsk hm3
                    go_wp2_with fail
                    go_roundw
                    case rel => exact ⟨j + 1, t, (b1, b2), by go_num, by go_num, by rw [if_pos h3]; exact HSK.out, H2.drewN _⟩
                    case measure => first | (simp [intOf]; omega) | simp [intOf]
                  · have k7 : ¬ (258 : Int) < 3 := by omega
                    have htk := HIV.out.take (by rw [← HL.out]; exact h3) hjq hf (by omega) HM.out hm3
                    have HTK := Lib.hid htk
                    clear htk hm3
                    by_cases hbi : b1 < 258
                    · have k8 : (b1 : Int) < (258 : Int) := by omega
                      have e9 : (if (b1, b2).1 < 258 then (258, j) else (b1, b2)) = (258, j) := if_pos hbi
                      have HE9 := Lib.hid e9
                      clear e9
                      go_wp2_with fail
                      go_roundw
                      case rel => exact ⟨j + 1, t + 1, (258, j), by go_num, by go_num, by rw [if_pos h3, ← HE9.out]; exact HTK.out, (((H2.drewN _).set 0 _).set 1 _).set 2 _⟩
                      case measure => first | (simp [intOf]; omega) | simp [intOf]
                    · have k8 : ¬ (b1 : Int) < (258 : Int) := by omega
                      have e9 : (if (b1, b2).1 < 258 then (258, j) else (b1, b2)) = (b1, b2) := if_neg hbi
                      have HE9 := Lib.hid e9
                      clear e9
                      go_wp2_with fail
                      go_roundw
                      case rel => exact ⟨j + 1, t + 1, (b1, b2), by go_num, by go_num, by rw [if_pos h3, ← HE9.out]; exact HTK.out, H2.drewN _⟩
                      case measure => first | (simp [intOf]; omega) | simp [intOf]
              · have k2 : ¬ (qi : Int) < (l : Int) := by omega
                by_cases h258 : i < 258
                · have k3 : (i : Int) < 258 := by omega
                  have hm : PM.mlen B (q - j) q = i := HFIN.out (.inr fun h => hend (by rw [← HQI.out, HL.out]; exact h.1))
                  have HM := Lib.hid hm
                  clear hm
                  go_wp2_with fail
                  go_quiet (fail)
                  have t0 : ∀ z, (wr.drewN z).cell? ⟨s, 0, none⟩ = some (.int .i64 (b1 : Int)) := fun z => (H2.drewN z).cell 0 rfl 0
                  have y1 : ∀ z, (wr.drewN z).cell? ⟨s, 1, none⟩ = some (.int .i64 (b2 : Int)) := fun z => (H2.drewN z).cell 0 rfl 1
                  have y2 : ∀ z, (wr.drewN z).cell? ⟨s, 2, none⟩ = some (.int .u8 0) := fun z => (H2.drewN z).cell 0 rfl 2
                  have z0 : ∀ z, (wr.drewN z).frozen? ⟨s, 0, none⟩ = false := fun z => (H2.drewN z).frozen 0 rfl 0
                  have z1 : ∀ z, (wr.drewN z).frozen? ⟨s, 1, none⟩ = false := fun z => (H2.drewN z).frozen 0 rfl 1
                  have z2 : ∀ z, (wr.drewN z).frozen? ⟨s, 2, none⟩ = false := fun z => (H2.drewN z).frozen 0 rfl 2
                  have hiv := HINV.out
                  rw [if_pos h3] at hiv
                  have HIV := Lib.hid hiv
                  clear hiv
                  by_cases hm3 : i < 3
                  · have k7 : (i : Int) < 3 := by omega
                    have hsk := HIV.out.skip (by rw [← HL.out]; exact h3) hjq (by rw [HM.out]; exact hm3)
                    have HSK := Lib.hid hsk
                    clear hsk hm3
                    go_wp2_with fail
                    go_roundw
                    case rel => exact ⟨j + 1, t, (b1, b2), by go_num, by go_num, by rw [if_pos h3]; exact HSK.out, H2.drewN _⟩
                    case measure => first | (simp [intOf]; omega) | simp [intOf]
                  · have k7 : ¬ (i : Int) < 3 := by omega
                    have htk := HIV.out.take (by rw [← HL.out]; exact h3) hjq hf (by omega) HM.out hm3
                    have HTK := Lib.hid htk
                    clear htk hm3
                    by_cases hbi : b1 < i
                    · have k8 : (b1 : Int) < (i : Int) := by omega
                      have e9 : (if (b1, b2).1 < i then (i, j) else (b1, b2)) = (i, j) := if_pos hbi
                      have HE9 := Lib.hid e9
                      clear e9
                      go_wp2_with fail
                      go_roundw
                      case rel => exact ⟨j + 1, t + 1, (i, j), by go_num, by go_num, by rw [if_pos h3, ← HE9.out]; exact HTK.out, (((H2.drewN _).set 0 _).set 1 _).set 2 _⟩
                      case measure => first | (simp [intOf]; omega) | simp [intOf]
                    · have k8 : ¬ (b1 : Int) < (i : Int) := by omega
                      have e9 : (if (b1, b2).1 < i then (i, j) else (b1, b2)) = (b1, b2) := if_neg hbi
                      have HE9 := Lib.hid e9
                      clear e9
                      go_wp2_with fail
                      go_roundw
                      case rel => exact ⟨j + 1, t + 1, (b1, b2), by go_num, by go_num, by rw [if_pos h3, ← HE9.out]; exact HTK.out, H2.drewN _⟩
                      case measure => first | (simp [intOf]; omega) | simp [intOf]
                · obtain rfl : i = 258 := by omega
                  have x1 : (q : Int) + 258 = (qi : Int) := by omega
                  have x2 : (q : Int) - (j : Int) + 258 = (pi : Int) := by omega
                  have hm : PM.mlen B (q - j) q = 258 := HFIN.out (.inl rfl)
                  have HM := Lib.hid hm
                  clear hm
                  go_wp2_with fail
                  go_quiet (fail)
                  have t0 : ∀ z, (wr.drewN z).cell? ⟨s, 0, none⟩ = some (.int .i64 (b1 : Int)) := fun z => (H2.drewN z).cell 0 rfl 0
                  have y1 : ∀ z, (wr.drewN z).cell? ⟨s, 1, none⟩ = some (.int .i64 (b2 : Int)) := fun z => (H2.drewN z).cell 0 rfl 1
                  have y2 : ∀ z, (wr.drewN z).cell? ⟨s, 2, none⟩ = some (.int .u8 0) := fun z => (H2.drewN z).cell 0 rfl 2
                  have z0 : ∀ z, (wr.drewN z).frozen? ⟨s, 0, none⟩ = false := fun z => (H2.drewN z).frozen 0 rfl 0
                  have z1 : ∀ z, (wr.drewN z).frozen? ⟨s, 1, none⟩ = false := fun z => (H2.drewN z).frozen 0 rfl 1
                  have z2 : ∀ z, (wr.drewN z).frozen? ⟨s, 2, none⟩ = false := fun z => (H2.drewN z).frozen 0 rfl 2
                  have hiv := HINV.out
                  rw [if_pos h3] at hiv
                  have HIV := Lib.hid hiv
                  clear hiv
                  by_cases hm3 : 258 < 3
                  · have k7 : (258 : Int) < 3 := by omega
                    have hsk := HIV.out.skip (by rw [← HL.out]; exact h3) hjq (by rw [HM.out]; exact hm3)
                    have HSK := Lib.hid hsk
                    clear hsk hm3
                    go_wp2_with fail
                    go_roundw
                    case rel => exact ⟨j + 1, t, (b1, b2), by go_num, by go_num, by rw [if_pos h3]; exact HSK.out, H2.drewN _⟩
                    case measure => first | (simp [intOf]; omega) | simp [intOf]
                  · have k7 : ¬ (258 : Int) < 3 := by omega
                    have htk := HIV.out.take (by rw [← HL.out]; exact h3) hjq hf (by omega) HM.out hm3
                    have HTK := Lib.hid htk
                    clear htk hm3
                    by_cases hbi : b1 < 258
                    · have k8 : (b1 : Int) < (258 : Int) := by omega
                      have e9 : (if (b1, b2).1 < 258 then (258, j) else (b1, b2)) = (258, j) := if_pos hbi
                      have HE9 := Lib.hid e9
                      clear e9
                      go_wp2_with fail
                      go_roundw
                      case rel => exact ⟨j + 1, t + 1, (258, j), by go_num, by go_num, by rw [if_pos h3, ← HE9.out]; exact HTK.out, (((H2.drewN _).set 0 _).set 1 _).set 2 _⟩
                      case measure => first | (simp [intOf]; omega) | simp [intOf]
                    · have k8 : ¬ (b1 : Int) < (258 : Int) := by omega
                      have e9 : (if (b1, b2).1 < 258 then (258, j) else (b1, b2)) = (b1, b2) := if_neg hbi
                      have HE9 := Lib.hid e9
                      clear e9
                      go_wp2_with fail
                      go_roundw
                      case rel => exact ⟨j + 1, t + 1, (b1, b2), by go_num, by go_num, by rw [if_pos h3, ← HE9.out]; exact HTK.out, H2.drewN _⟩
                      case measure => first | (simp [intOf]; omega) | simp [intOf]
          · have HF := Lib.hid (HFIN.out fun _ => .inr (.inr (by omega)))
            go_wp2_with fail
            obtain ⟨bz, hbz⟩ : ∃ bz, decide (0 < b1) = bz := ⟨_, rfl⟩
            refine wp_region_sp (L := Bk s 38 [.int .i64 (b1 : Int), .int .i64 (b2 : Int), .int .u8 0] :: L) (fun ix vx => ([(· = .agg #[.int .i64 (b1 : Int), .int .i64 (b2 : Int), .int .u8 0]), (· = .pointer (some ⟨s, 0, none⟩)), (· = .int .i64 (b1 : Int)), (· = .bool bz), (fun _ => True), (· = .bool bz)] : List (Value → Prop)).getD ix (fun _ => True) vx)
              (fun ix vx => ([fun _ => [], fun _ => [], fun _ => [], fun _ => [], fun _ => [Bk r 38 [.int .i64 (b1 : Int), .int .i64 (b2 : Int), .int .u8 0]], fun _ => []] : List (Value → List Pr)).getD ix (fun _ => []) vx) (fun ix => ([[], [], [], [], [Bk r 38 [.int .i64 0, .int .i64 0, .int .u8 0]], []] : List (List Pr)).getD ix []) 6 78
              [some 74, some 75, some 76, some 77, none, some 7]
              [[], [], [1], [2], [0, 0], [3, 4, 0, 1, 2, 3, 4]]
              [[], [], [1], [1, 2], [0], [0, 1, 2, 3, 4]]
              [[], [], [], [], [], []]
              [[], [], [], [], [], []]
              [(6, .pointer (some ⟨r, 0, none⟩)), (8, .pointer (some ⟨s, 0, none⟩))]
              (by kernel_rfl) rfl (by decide) (by rfl) rfl (by decide +kernel) (by decide +kernel) (by rfl) rfl rfl (by decide) (by simp) (by rfl) (H.swap) ?hstep ?hend
            case hstep =>
              refine ⟨?_, ⟨?_, ⟨?_, ⟨?_, ⟨?_, ⟨?_, trivial⟩⟩⟩⟩⟩⟩
              · intro x wx A rest hN hS hE H K hK0
                have e8 : A.tmps[8]?.getD undef = .pointer (some ⟨s, 0, none⟩) := hN (8, .pointer (some ⟨s, 0, none⟩)) (by simp)
                replace H : Sp w0 (rest) wx := H
                have hK : Hid (∀ (v : Value) (w' : World), v = .agg #[.int .i64 (b1 : Int), .int .i64 (b2 : Int), .int .u8 0] → Sp w0 (rest) w' → K (A.put (some 74) v) w') := Lib.hid hK0
                clear hK0 hN hS
                have b0 : wx.cell? ⟨s, 0, none⟩ = some (.int .i64 (b1 : Int)) := hE (fun w => w.cell? ⟨s, 0, none⟩ = some (.int .i64 (b1 : Int))) (fun _ _ H => H.cell 0 rfl 0) _ _ H
                have b1 : wx.cell? ⟨s, 1, none⟩ = some (.int .i64 (b2 : Int)) := hE (fun w => w.cell? ⟨s, 1, none⟩ = some (.int .i64 (b2 : Int))) (fun _ _ H => H.cell 0 rfl 1) _ _ H
                have b2 : wx.cell? ⟨s, 2, none⟩ = some (.int .u8 0) := hE (fun w => w.cell? ⟨s, 2, none⟩ = some (.int .u8 0)) (fun _ _ H => H.cell 0 rfl 2) _ _ H
                change Oper.wp _ _ A wx K _
                go_step
                exact hK.out _ _ rfl (H)
              · intro x wx A rest hN hS hE H K hK0
                have e8 : A.tmps[8]?.getD undef = .pointer (some ⟨s, 0, none⟩) := hN (8, .pointer (some ⟨s, 0, none⟩)) (by simp)
                replace H : Sp w0 (rest) wx := H
                have hK : Hid (∀ (v : Value) (w' : World), v = .pointer (some ⟨s, 0, none⟩) → Sp w0 (rest) w' → K (A.put (some 75) v) w') := Lib.hid hK0
                clear hK0 hN hS hE
                change Oper.wp _ _ A wx K _
                go_step
                exact hK.out _ _ rfl (H)
              · intro x wx A rest hN hS hE H K hK0
                have e75 : A.tmps[75]?.getD undef = .pointer (some ⟨s, 0, none⟩) := ((hS 1 (by decide)).2 75 rfl).trans (hS 1 (by decide)).1
                replace H : Sp w0 (rest) wx := H
                have hK : Hid (∀ (v : Value) (w' : World), v = .int .i64 (b1 : Int) → Sp w0 (rest) w' → K (A.put (some 76) v) w') := Lib.hid hK0
                clear hK0 hN hS
                have b0 : wx.cell? ⟨s, 0, none⟩ = some (.int .i64 (b1 : Int)) := hE (fun w => w.cell? ⟨s, 0, none⟩ = some (.int .i64 (b1 : Int))) (fun _ _ H => H.cell 0 rfl 0) _ _ H
                change Oper.wp _ _ A wx K _
                go_step
                exact hK.out _ _ rfl (H)
              · intro x wx A rest hN hS hE H K hK0
                have e76 : A.tmps[76]?.getD undef = .int .i64 (b1 : Int) := ((hS 2 (by decide)).2 76 rfl).trans (hS 2 (by decide)).1
                replace H : Sp w0 (rest) wx := H
                have hK : Hid (∀ (v : Value) (w' : World), v = .bool bz → Sp w0 (rest) w' → K (A.put (some 77) v) w') := Lib.hid hK0
                clear hK0 hN hS hE
                change Oper.wp _ _ A wx K _
                go_step
                exact hK.out _ _ rfl (H)
              · intro x wx A rest hN hS hE H K hK0
                have e6 : A.tmps[6]?.getD undef = .pointer (some ⟨r, 0, none⟩) := hN (6, .pointer (some ⟨r, 0, none⟩)) (by simp)
                have e74 : A.tmps[74]?.getD undef = .agg #[.int .i64 (b1 : Int), .int .i64 (b2 : Int), .int .u8 0] := ((hS 0 (by decide)).2 74 rfl).trans (hS 0 (by decide)).1
                replace H : Sp w0 ((Bk r 38 [.int .i64 0, .int .i64 0, .int .u8 0]) :: rest) wx := H
                have hK : Hid (∀ (v : Value) (w' : World), True → Sp w0 ((Bk r 38 [.int .i64 (b1 : Int), .int .i64 (b2 : Int), .int .u8 0]) :: rest) w' → K (A.put none v) w') := Lib.hid hK0
                clear hK0 hN hS hE
                have z0 : wx.frozen? ⟨r, 0, none⟩ = false := H.frozen 0 rfl 0
                have z1 : wx.frozen? ⟨r, 1, none⟩ = false := H.frozen 0 rfl 1
                have z2 : wx.frozen? ⟨r, 2, none⟩ = false := H.frozen 0 rfl 2
                have z3 : wx.cell? ⟨r, 0, none⟩ = some (.int .i64 0) := H.cell 0 rfl 0
                have z4 : wx.cell? ⟨r, 1, none⟩ = some (.int .i64 0) := H.cell 0 rfl 1
                have z5 : wx.cell? ⟨r, 2, none⟩ = some (.int .u8 0) := H.cell 0 rfl 2
                change Oper.wp _ _ A wx K _
                go_step
                exact hK.out undef _ trivial (((H.set 0 _).set 1 _).set 2 _)
              · intro x wx A rest hN hS hE H K hK0
                have e77 : A.tmps[77]?.getD undef = .bool bz := ((hS 3 (by decide)).2 77 rfl).trans (hS 3 (by decide)).1
                replace H : Sp w0 (rest) wx := H
                have hK : Hid (∀ (v : Value) (w' : World), v = .bool bz → Sp w0 (rest) w' → K (A.put (some 7) v) w') := Lib.hid hK0
                clear hK0 hN hS hE
                change Oper.wp _ _ A wx K _
                go_step
                exact hK.out _ _ rfl (H)
            case hend =>
              intro x wx A hA hS H
              replace H : Sp w0 ((Bk r 38 [.int .i64 (b1 : Int), .int .i64 (b2 : Int), .int .u8 0]) :: Bk s 38 [.int .i64 (b1 : Int), .int .i64 (b2 : Int), .int .u8 0] :: L) wx := H
              have y5 : x 5 = .bool bz := hS 5 (by decide)
              clear hS
              simp only [putAll, Act.put, List.setIfInBounds_toArray, List.set_cons_succ, List.set_cons_zero, Nat.reduceAdd] at hA
              subst hA
              rw [y5]
              clear y5
              have f0 : wx.cell? ⟨r, 0, none⟩ = some (.int .i64 (b1 : Int)) := H.cell 0 rfl 0
              have f1 : wx.cell? ⟨r, 1, none⟩ = some (.int .i64 (b2 : Int)) := H.cell 0 rfl 1
              have f2 : wx.cell? ⟨r, 2, none⟩ = some (.int .u8 0) := H.cell 0 rfl 2
              go_wp2
              refine bodyPost_ret (v := .tuple #[.agg #[.int .i64 (b1 : Int), .int .i64 (b2 : Int), .int .u8 0], .bool bz]) (by simp [results, Try.results19, go_sem, f0, f1, f2]) rfl ?_
              have he := HF.out
              rw [← he, ← hbz]
              exact ⟨rfl, H.pick 2 []⟩
        · have k3 : ¬ (j : Int) ≤ (q : Int) := by omega
          have HF := Lib.hid (HFIN.out fun _ => .inr (.inl (by omega)))
          go_wp2_with fail
          obtain ⟨bz, hbz⟩ : ∃ bz, decide (0 < b1) = bz := ⟨_, rfl⟩
          refine wp_region_sp (L := Bk s 38 [.int .i64 (b1 : Int), .int .i64 (b2 : Int), .int .u8 0] :: L) (fun ix vx => ([(· = .agg #[.int .i64 (b1 : Int), .int .i64 (b2 : Int), .int .u8 0]), (· = .pointer (some ⟨s, 0, none⟩)), (· = .int .i64 (b1 : Int)), (· = .bool bz), (fun _ => True), (· = .bool bz)] : List (Value → Prop)).getD ix (fun _ => True) vx)
            (fun ix vx => ([fun _ => [], fun _ => [], fun _ => [], fun _ => [], fun _ => [Bk r 38 [.int .i64 (b1 : Int), .int .i64 (b2 : Int), .int .u8 0]], fun _ => []] : List (Value → List Pr)).getD ix (fun _ => []) vx) (fun ix => ([[], [], [], [], [Bk r 38 [.int .i64 0, .int .i64 0, .int .u8 0]], []] : List (List Pr)).getD ix []) 6 78
            [some 74, some 75, some 76, some 77, none, some 7]
            [[], [], [1], [2], [0, 0], [3, 4, 0, 1, 2, 3, 4]]
            [[], [], [1], [1, 2], [0], [0, 1, 2, 3, 4]]
            [[], [], [], [], [], []]
            [[], [], [], [], [], []]
            [(6, .pointer (some ⟨r, 0, none⟩)), (8, .pointer (some ⟨s, 0, none⟩))]
            (by kernel_rfl) rfl (by decide) (by rfl) rfl (by decide +kernel) (by decide +kernel) (by rfl) rfl rfl (by decide) (by simp) (by rfl) (H.swap) ?hstep ?hend
          case hstep =>
            refine ⟨?_, ⟨?_, ⟨?_, ⟨?_, ⟨?_, ⟨?_, trivial⟩⟩⟩⟩⟩⟩
            · intro x wx A rest hN hS hE H K hK0
              have e8 : A.tmps[8]?.getD undef = .pointer (some ⟨s, 0, none⟩) := hN (8, .pointer (some ⟨s, 0, none⟩)) (by simp)
              replace H : Sp w0 (rest) wx := H
              have hK : Hid (∀ (v : Value) (w' : World), v = .agg #[.int .i64 (b1 : Int), .int .i64 (b2 : Int), .int .u8 0] → Sp w0 (rest) w' → K (A.put (some 74) v) w') := Lib.hid hK0
              clear hK0 hN hS
              have b0 : wx.cell? ⟨s, 0, none⟩ = some (.int .i64 (b1 : Int)) := hE (fun w => w.cell? ⟨s, 0, none⟩ = some (.int .i64 (b1 : Int))) (fun _ _ H => H.cell 0 rfl 0) _ _ H
              have b1 : wx.cell? ⟨s, 1, none⟩ = some (.int .i64 (b2 : Int)) := hE (fun w => w.cell? ⟨s, 1, none⟩ = some (.int .i64 (b2 : Int))) (fun _ _ H => H.cell 0 rfl 1) _ _ H
              have b2 : wx.cell? ⟨s, 2, none⟩ = some (.int .u8 0) := hE (fun w => w.cell? ⟨s, 2, none⟩ = some (.int .u8 0)) (fun _ _ H => H.cell 0 rfl 2) _ _ H
              change Oper.wp _ _ A wx K _
              go_step
              exact hK.out _ _ rfl (H)
            · intro x wx A rest hN hS hE H K hK0
              have e8 : A.tmps[8]?.getD undef = .pointer (some ⟨s, 0, none⟩) := hN (8, .pointer (some ⟨s, 0, none⟩)) (by simp)
              replace H : Sp w0 (rest) wx := H
              have hK : Hid (∀ (v : Value) (w' : World), v = .pointer (some ⟨s, 0, none⟩) → Sp w0 (rest) w' → K (A.put (some 75) v) w') := Lib.hid hK0
              clear hK0 hN hS hE
              change Oper.wp _ _ A wx K _
              go_step
              exact hK.out _ _ rfl (H)
            · intro x wx A rest hN hS hE H K hK0
              have e75 : A.tmps[75]?.getD undef = .pointer (some ⟨s, 0, none⟩) := ((hS 1 (by decide)).2 75 rfl).trans (hS 1 (by decide)).1
              replace H : Sp w0 (rest) wx := H
              have hK : Hid (∀ (v : Value) (w' : World), v = .int .i64 (b1 : Int) → Sp w0 (rest) w' → K (A.put (some 76) v) w') := Lib.hid hK0
              clear hK0 hN hS
              have b0 : wx.cell? ⟨s, 0, none⟩ = some (.int .i64 (b1 : Int)) := hE (fun w => w.cell? ⟨s, 0, none⟩ = some (.int .i64 (b1 : Int))) (fun _ _ H => H.cell 0 rfl 0) _ _ H
              change Oper.wp _ _ A wx K _
              go_step
              exact hK.out _ _ rfl (H)
            · intro x wx A rest hN hS hE H K hK0
              have e76 : A.tmps[76]?.getD undef = .int .i64 (b1 : Int) := ((hS 2 (by decide)).2 76 rfl).trans (hS 2 (by decide)).1
              replace H : Sp w0 (rest) wx := H
              have hK : Hid (∀ (v : Value) (w' : World), v = .bool bz → Sp w0 (rest) w' → K (A.put (some 77) v) w') := Lib.hid hK0
              clear hK0 hN hS hE
              change Oper.wp _ _ A wx K _
              go_step
              exact hK.out _ _ rfl (H)
            · intro x wx A rest hN hS hE H K hK0
              have e6 : A.tmps[6]?.getD undef = .pointer (some ⟨r, 0, none⟩) := hN (6, .pointer (some ⟨r, 0, none⟩)) (by simp)
              have e74 : A.tmps[74]?.getD undef = .agg #[.int .i64 (b1 : Int), .int .i64 (b2 : Int), .int .u8 0] := ((hS 0 (by decide)).2 74 rfl).trans (hS 0 (by decide)).1
              replace H : Sp w0 ((Bk r 38 [.int .i64 0, .int .i64 0, .int .u8 0]) :: rest) wx := H
              have hK : Hid (∀ (v : Value) (w' : World), True → Sp w0 ((Bk r 38 [.int .i64 (b1 : Int), .int .i64 (b2 : Int), .int .u8 0]) :: rest) w' → K (A.put none v) w') := Lib.hid hK0
              clear hK0 hN hS hE
              have z0 : wx.frozen? ⟨r, 0, none⟩ = false := H.frozen 0 rfl 0
              have z1 : wx.frozen? ⟨r, 1, none⟩ = false := H.frozen 0 rfl 1
              have z2 : wx.frozen? ⟨r, 2, none⟩ = false := H.frozen 0 rfl 2
              have z3 : wx.cell? ⟨r, 0, none⟩ = some (.int .i64 0) := H.cell 0 rfl 0
              have z4 : wx.cell? ⟨r, 1, none⟩ = some (.int .i64 0) := H.cell 0 rfl 1
              have z5 : wx.cell? ⟨r, 2, none⟩ = some (.int .u8 0) := H.cell 0 rfl 2
              change Oper.wp _ _ A wx K _
              go_step
              exact hK.out undef _ trivial (((H.set 0 _).set 1 _).set 2 _)
            · intro x wx A rest hN hS hE H K hK0
              have e77 : A.tmps[77]?.getD undef = .bool bz := ((hS 3 (by decide)).2 77 rfl).trans (hS 3 (by decide)).1
              replace H : Sp w0 (rest) wx := H
              have hK : Hid (∀ (v : Value) (w' : World), v = .bool bz → Sp w0 (rest) w' → K (A.put (some 7) v) w') := Lib.hid hK0
              clear hK0 hN hS hE
              change Oper.wp _ _ A wx K _
              go_step
              exact hK.out _ _ rfl (H)
          case hend =>
            intro x wx A hA hS H
            replace H : Sp w0 ((Bk r 38 [.int .i64 (b1 : Int), .int .i64 (b2 : Int), .int .u8 0]) :: Bk s 38 [.int .i64 (b1 : Int), .int .i64 (b2 : Int), .int .u8 0] :: L) wx := H
            have y5 : x 5 = .bool bz := hS 5 (by decide)
            clear hS
            simp only [putAll, Act.put, List.setIfInBounds_toArray, List.set_cons_succ, List.set_cons_zero, Nat.reduceAdd] at hA
            subst hA
            rw [y5]
            clear y5
            have f0 : wx.cell? ⟨r, 0, none⟩ = some (.int .i64 (b1 : Int)) := H.cell 0 rfl 0
            have f1 : wx.cell? ⟨r, 1, none⟩ = some (.int .i64 (b2 : Int)) := H.cell 0 rfl 1
            have f2 : wx.cell? ⟨r, 2, none⟩ = some (.int .u8 0) := H.cell 0 rfl 2
            go_wp2
            refine bodyPost_ret (v := .tuple #[.agg #[.int .i64 (b1 : Int), .int .i64 (b2 : Int), .int .u8 0], .bool bz]) (by simp [results, Try.results19, go_sem, f0, f1, f2]) rfl ?_
            have he := HF.out
            rw [← he, ← hbz]
            exact ⟨rfl, H.pick 2 []⟩
      · have k2 : ¬ (j : Int) ≤ 32768 := by omega
        have HF := Lib.hid (HFIN.out fun _ => .inl (by omega))
        go_wp2_with fail
        obtain ⟨bz, hbz⟩ : ∃ bz, decide (0 < b1) = bz := ⟨_, rfl⟩
        refine wp_region_sp (L := Bk s 38 [.int .i64 (b1 : Int), .int .i64 (b2 : Int), .int .u8 0] :: L) (fun ix vx => ([(· = .agg #[.int .i64 (b1 : Int), .int .i64 (b2 : Int), .int .u8 0]), (· = .pointer (some ⟨s, 0, none⟩)), (· = .int .i64 (b1 : Int)), (· = .bool bz), (fun _ => True), (· = .bool bz)] : List (Value → Prop)).getD ix (fun _ => True) vx)
          (fun ix vx => ([fun _ => [], fun _ => [], fun _ => [], fun _ => [], fun _ => [Bk r 38 [.int .i64 (b1 : Int), .int .i64 (b2 : Int), .int .u8 0]], fun _ => []] : List (Value → List Pr)).getD ix (fun _ => []) vx) (fun ix => ([[], [], [], [], [Bk r 38 [.int .i64 0, .int .i64 0, .int .u8 0]], []] : List (List Pr)).getD ix []) 6 78
          [some 74, some 75, some 76, some 77, none, some 7]
          [[], [], [1], [2], [0, 0], [3, 4, 0, 1, 2, 3, 4]]
          [[], [], [1], [1, 2], [0], [0, 1, 2, 3, 4]]
          [[], [], [], [], [], []]
          [[], [], [], [], [], []]
          [(6, .pointer (some ⟨r, 0, none⟩)), (8, .pointer (some ⟨s, 0, none⟩))]
          (by kernel_rfl) rfl (by decide) (by rfl) rfl (by decide +kernel) (by decide +kernel) (by rfl) rfl rfl (by decide) (by simp) (by rfl) (H.swap) ?hstep ?hend
        case hstep =>
          refine ⟨?_, ⟨?_, ⟨?_, ⟨?_, ⟨?_, ⟨?_, trivial⟩⟩⟩⟩⟩⟩
          · intro x wx A rest hN hS hE H K hK0
            have e8 : A.tmps[8]?.getD undef = .pointer (some ⟨s, 0, none⟩) := hN (8, .pointer (some ⟨s, 0, none⟩)) (by simp)
            replace H : Sp w0 (rest) wx := H
            have hK : Hid (∀ (v : Value) (w' : World), v = .agg #[.int .i64 (b1 : Int), .int .i64 (b2 : Int), .int .u8 0] → Sp w0 (rest) w' → K (A.put (some 74) v) w') := Lib.hid hK0
            clear hK0 hN hS
            have b0 : wx.cell? ⟨s, 0, none⟩ = some (.int .i64 (b1 : Int)) := hE (fun w => w.cell? ⟨s, 0, none⟩ = some (.int .i64 (b1 : Int))) (fun _ _ H => H.cell 0 rfl 0) _ _ H
            have b1 : wx.cell? ⟨s, 1, none⟩ = some (.int .i64 (b2 : Int)) := hE (fun w => w.cell? ⟨s, 1, none⟩ = some (.int .i64 (b2 : Int))) (fun _ _ H => H.cell 0 rfl 1) _ _ H
            have b2 : wx.cell? ⟨s, 2, none⟩ = some (.int .u8 0) := hE (fun w => w.cell? ⟨s, 2, none⟩ = some (.int .u8 0)) (fun _ _ H => H.cell 0 rfl 2) _ _ H
            change Oper.wp _ _ A wx K _
            go_step
            exact hK.out _ _ rfl (H)
          · intro x wx A rest hN hS hE H K hK0
            have e8 : A.tmps[8]?.getD undef = .pointer (some ⟨s, 0, none⟩) := hN (8, .pointer (some ⟨s, 0, none⟩)) (by simp)
            replace H : Sp w0 (rest) wx := H
            have hK : Hid (∀ (v : Value) (w' : World), v = .pointer (some ⟨s, 0, none⟩) → Sp w0 (rest) w' → K (A.put (some 75) v) w') := Lib.hid hK0
            clear hK0 hN hS hE
            change Oper.wp _ _ A wx K _
            go_step
            exact hK.out _ _ rfl (H)
          · intro x wx A rest hN hS hE H K hK0
            have e75 : A.tmps[75]?.getD undef = .pointer (some ⟨s, 0, none⟩) := ((hS 1 (by decide)).2 75 rfl).trans (hS 1 (by decide)).1
            replace H : Sp w0 (rest) wx := H
            have hK : Hid (∀ (v : Value) (w' : World), v = .int .i64 (b1 : Int) → Sp w0 (rest) w' → K (A.put (some 76) v) w') := Lib.hid hK0
            clear hK0 hN hS
            have b0 : wx.cell? ⟨s, 0, none⟩ = some (.int .i64 (b1 : Int)) := hE (fun w => w.cell? ⟨s, 0, none⟩ = some (.int .i64 (b1 : Int))) (fun _ _ H => H.cell 0 rfl 0) _ _ H
            change Oper.wp _ _ A wx K _
            go_step
            exact hK.out _ _ rfl (H)
          · intro x wx A rest hN hS hE H K hK0
            have e76 : A.tmps[76]?.getD undef = .int .i64 (b1 : Int) := ((hS 2 (by decide)).2 76 rfl).trans (hS 2 (by decide)).1
            replace H : Sp w0 (rest) wx := H
            have hK : Hid (∀ (v : Value) (w' : World), v = .bool bz → Sp w0 (rest) w' → K (A.put (some 77) v) w') := Lib.hid hK0
            clear hK0 hN hS hE
            change Oper.wp _ _ A wx K _
            go_step
            exact hK.out _ _ rfl (H)
          · intro x wx A rest hN hS hE H K hK0
            have e6 : A.tmps[6]?.getD undef = .pointer (some ⟨r, 0, none⟩) := hN (6, .pointer (some ⟨r, 0, none⟩)) (by simp)
            have e74 : A.tmps[74]?.getD undef = .agg #[.int .i64 (b1 : Int), .int .i64 (b2 : Int), .int .u8 0] := ((hS 0 (by decide)).2 74 rfl).trans (hS 0 (by decide)).1
            replace H : Sp w0 ((Bk r 38 [.int .i64 0, .int .i64 0, .int .u8 0]) :: rest) wx := H
            have hK : Hid (∀ (v : Value) (w' : World), True → Sp w0 ((Bk r 38 [.int .i64 (b1 : Int), .int .i64 (b2 : Int), .int .u8 0]) :: rest) w' → K (A.put none v) w') := Lib.hid hK0
            clear hK0 hN hS hE
            have z0 : wx.frozen? ⟨r, 0, none⟩ = false := H.frozen 0 rfl 0
            have z1 : wx.frozen? ⟨r, 1, none⟩ = false := H.frozen 0 rfl 1
            have z2 : wx.frozen? ⟨r, 2, none⟩ = false := H.frozen 0 rfl 2
            have z3 : wx.cell? ⟨r, 0, none⟩ = some (.int .i64 0) := H.cell 0 rfl 0
            have z4 : wx.cell? ⟨r, 1, none⟩ = some (.int .i64 0) := H.cell 0 rfl 1
            have z5 : wx.cell? ⟨r, 2, none⟩ = some (.int .u8 0) := H.cell 0 rfl 2
            change Oper.wp _ _ A wx K _
            go_step
            exact hK.out undef _ trivial (((H.set 0 _).set 1 _).set 2 _)
          · intro x wx A rest hN hS hE H K hK0
            have e77 : A.tmps[77]?.getD undef = .bool bz := ((hS 3 (by decide)).2 77 rfl).trans (hS 3 (by decide)).1
            replace H : Sp w0 (rest) wx := H
            have hK : Hid (∀ (v : Value) (w' : World), v = .bool bz → Sp w0 (rest) w' → K (A.put (some 7) v) w') := Lib.hid hK0
            clear hK0 hN hS hE
            change Oper.wp _ _ A wx K _
            go_step
            exact hK.out _ _ rfl (H)
        case hend =>
          intro x wx A hA hS H
          replace H : Sp w0 ((Bk r 38 [.int .i64 (b1 : Int), .int .i64 (b2 : Int), .int .u8 0]) :: Bk s 38 [.int .i64 (b1 : Int), .int .i64 (b2 : Int), .int .u8 0] :: L) wx := H
          have y5 : x 5 = .bool bz := hS 5 (by decide)
          clear hS
          simp only [putAll, Act.put, List.setIfInBounds_toArray, List.set_cons_succ, List.set_cons_zero, Nat.reduceAdd] at hA
          subst hA
          rw [y5]
          clear y5
          have f0 : wx.cell? ⟨r, 0, none⟩ = some (.int .i64 (b1 : Int)) := H.cell 0 rfl 0
          have f1 : wx.cell? ⟨r, 1, none⟩ = some (.int .i64 (b2 : Int)) := H.cell 0 rfl 1
          have f2 : wx.cell? ⟨r, 2, none⟩ = some (.int .u8 0) := H.cell 0 rfl 2
          go_wp2
          refine bodyPost_ret (v := .tuple #[.agg #[.int .i64 (b1 : Int), .int .i64 (b2 : Int), .int .u8 0], .bool bz]) (by simp [results, Try.results19, go_sem, f0, f1, f2]) rfl ?_
          have he := HF.out
          rw [← he, ← hbz]
          exact ⟨rfl, H.pick 2 []⟩
    · have k1 : ¬ (q : Int) + 3 ≤ (l : Int) := by omega
      rw [if_neg h3] at hinv
      obtain ⟨_, rfl, rfl⟩ := hinv
      have HF := Lib.hid (HFIN.out fun h => absurd h h3)
      by_cases hq1 : 1 ≤ q
      · have k2 : (1 : Int) ≤ (q : Int) := by omega
        go_wp2_with fail
        obtain ⟨bz, hbz⟩ : ∃ bz, decide (0 < b1) = bz := ⟨_, rfl⟩
        refine wp_region_sp (L := Bk s 38 [.int .i64 (b1 : Int), .int .i64 (b2 : Int), .int .u8 0] :: L) (fun ix vx => ([(· = .agg #[.int .i64 (b1 : Int), .int .i64 (b2 : Int), .int .u8 0]), (· = .pointer (some ⟨s, 0, none⟩)), (· = .int .i64 (b1 : Int)), (· = .bool bz), (fun _ => True), (· = .bool bz)] : List (Value → Prop)).getD ix (fun _ => True) vx)
          (fun ix vx => ([fun _ => [], fun _ => [], fun _ => [], fun _ => [], fun _ => [Bk r 38 [.int .i64 (b1 : Int), .int .i64 (b2 : Int), .int .u8 0]], fun _ => []] : List (Value → List Pr)).getD ix (fun _ => []) vx) (fun ix => ([[], [], [], [], [Bk r 38 [.int .i64 0, .int .i64 0, .int .u8 0]], []] : List (List Pr)).getD ix []) 6 78
          [some 74, some 75, some 76, some 77, none, some 7]
          [[], [], [1], [2], [0, 0], [3, 4, 0, 1, 2, 3, 4]]
          [[], [], [1], [1, 2], [0], [0, 1, 2, 3, 4]]
          [[], [], [], [], [], []]
          [[], [], [], [], [], []]
          [(6, .pointer (some ⟨r, 0, none⟩)), (8, .pointer (some ⟨s, 0, none⟩))]
          (by kernel_rfl) rfl (by decide) (by rfl) rfl (by decide +kernel) (by decide +kernel) (by rfl) rfl rfl (by decide) (by simp) (by rfl) (H.swap) ?hstep ?hend
        case hstep =>
          refine ⟨?_, ⟨?_, ⟨?_, ⟨?_, ⟨?_, ⟨?_, trivial⟩⟩⟩⟩⟩⟩
          · intro x wx A rest hN hS hE H K hK0
            have e8 : A.tmps[8]?.getD undef = .pointer (some ⟨s, 0, none⟩) := hN (8, .pointer (some ⟨s, 0, none⟩)) (by simp)
            replace H : Sp w0 (rest) wx := H
            have hK : Hid (∀ (v : Value) (w' : World), v = .agg #[.int .i64 (b1 : Int), .int .i64 (b2 : Int), .int .u8 0] → Sp w0 (rest) w' → K (A.put (some 74) v) w') := Lib.hid hK0
            clear hK0 hN hS
            have b0 : wx.cell? ⟨s, 0, none⟩ = some (.int .i64 (b1 : Int)) := hE (fun w => w.cell? ⟨s, 0, none⟩ = some (.int .i64 (b1 : Int))) (fun _ _ H => H.cell 0 rfl 0) _ _ H
            have b1 : wx.cell? ⟨s, 1, none⟩ = some (.int .i64 (b2 : Int)) := hE (fun w => w.cell? ⟨s, 1, none⟩ = some (.int .i64 (b2 : Int))) (fun _ _ H => H.cell 0 rfl 1) _ _ H
            have b2 : wx.cell? ⟨s, 2, none⟩ = some (.int .u8 0) := hE (fun w => w.cell? ⟨s, 2, none⟩ = some (.int .u8 0)) (fun _ _ H => H.cell 0 rfl 2) _ _ H
            change Oper.wp _ _ A wx K _
            go_step
            exact hK.out _ _ rfl (H)
          · intro x wx A rest hN hS hE H K hK0
            have e8 : A.tmps[8]?.getD undef = .pointer (some ⟨s, 0, none⟩) := hN (8, .pointer (some ⟨s, 0, none⟩)) (by simp)
            replace H : Sp w0 (rest) wx := H
            have hK : Hid (∀ (v : Value) (w' : World), v = .pointer (some ⟨s, 0, none⟩) → Sp w0 (rest) w' → K (A.put (some 75) v) w') := Lib.hid hK0
            clear hK0 hN hS hE
            change Oper.wp _ _ A wx K _
            go_step
            exact hK.out _ _ rfl (H)
          · intro x wx A rest hN hS hE H K hK0
            have e75 : A.tmps[75]?.getD undef = .pointer (some ⟨s, 0, none⟩) := ((hS 1 (by decide)).2 75 rfl).trans (hS 1 (by decide)).1
            replace H : Sp w0 (rest) wx := H
            have hK : Hid (∀ (v : Value) (w' : World), v = .int .i64 (b1 : Int) → Sp w0 (rest) w' → K (A.put (some 76) v) w') := Lib.hid hK0
            clear hK0 hN hS
            have b0 : wx.cell? ⟨s, 0, none⟩ = some (.int .i64 (b1 : Int)) := hE (fun w => w.cell? ⟨s, 0, none⟩ = some (.int .i64 (b1 : Int))) (fun _ _ H => H.cell 0 rfl 0) _ _ H
            change Oper.wp _ _ A wx K _
            go_step
            exact hK.out _ _ rfl (H)
          · intro x wx A rest hN hS hE H K hK0
            have e76 : A.tmps[76]?.getD undef = .int .i64 (b1 : Int) := ((hS 2 (by decide)).2 76 rfl).trans (hS 2 (by decide)).1
            replace H : Sp w0 (rest) wx := H
            have hK : Hid (∀ (v : Value) (w' : World), v = .bool bz → Sp w0 (rest) w' → K (A.put (some 77) v) w') := Lib.hid hK0
            clear hK0 hN hS hE
            change Oper.wp _ _ A wx K _
            go_step
            exact hK.out _ _ rfl (H)
          · intro x wx A rest hN hS hE H K hK0
            have e6 : A.tmps[6]?.getD undef = .pointer (some ⟨r, 0, none⟩) := hN (6, .pointer (some ⟨r, 0, none⟩)) (by simp)
            have e74 : A.tmps[74]?.getD undef = .agg #[.int .i64 (b1 : Int), .int .i64 (b2 : Int), .int .u8 0] := ((hS 0 (by decide)).2 74 rfl).trans (hS 0 (by decide)).1
            replace H : Sp w0 ((Bk r 38 [.int .i64 0, .int .i64 0, .int .u8 0]) :: rest) wx := H
            have hK : Hid (∀ (v : Value) (w' : World), True → Sp w0 ((Bk r 38 [.int .i64 (b1 : Int), .int .i64 (b2 : Int), .int .u8 0]) :: rest) w' → K (A.put none v) w') := Lib.hid hK0
            clear hK0 hN hS hE
            have z0 : wx.frozen? ⟨r, 0, none⟩ = false := H.frozen 0 rfl 0
            have z1 : wx.frozen? ⟨r, 1, none⟩ = false := H.frozen 0 rfl 1
            have z2 : wx.frozen? ⟨r, 2, none⟩ = false := H.frozen 0 rfl 2
            have z3 : wx.cell? ⟨r, 0, none⟩ = some (.int .i64 0) := H.cell 0 rfl 0
            have z4 : wx.cell? ⟨r, 1, none⟩ = some (.int .i64 0) := H.cell 0 rfl 1
            have z5 : wx.cell? ⟨r, 2, none⟩ = some (.int .u8 0) := H.cell 0 rfl 2
            change Oper.wp _ _ A wx K _
            go_step
            exact hK.out undef _ trivial (((H.set 0 _).set 1 _).set 2 _)
          · intro x wx A rest hN hS hE H K hK0
            have e77 : A.tmps[77]?.getD undef = .bool bz := ((hS 3 (by decide)).2 77 rfl).trans (hS 3 (by decide)).1
            replace H : Sp w0 (rest) wx := H
            have hK : Hid (∀ (v : Value) (w' : World), v = .bool bz → Sp w0 (rest) w' → K (A.put (some 7) v) w') := Lib.hid hK0
            clear hK0 hN hS hE
            change Oper.wp _ _ A wx K _
            go_step
            exact hK.out _ _ rfl (H)
        case hend =>
          intro x wx A hA hS H
          replace H : Sp w0 ((Bk r 38 [.int .i64 (b1 : Int), .int .i64 (b2 : Int), .int .u8 0]) :: Bk s 38 [.int .i64 (b1 : Int), .int .i64 (b2 : Int), .int .u8 0] :: L) wx := H
          have y5 : x 5 = .bool bz := hS 5 (by decide)
          clear hS
          simp only [putAll, Act.put, List.setIfInBounds_toArray, List.set_cons_succ, List.set_cons_zero, Nat.reduceAdd] at hA
          subst hA
          rw [y5]
          clear y5
          have f0 : wx.cell? ⟨r, 0, none⟩ = some (.int .i64 (b1 : Int)) := H.cell 0 rfl 0
          have f1 : wx.cell? ⟨r, 1, none⟩ = some (.int .i64 (b2 : Int)) := H.cell 0 rfl 1
          have f2 : wx.cell? ⟨r, 2, none⟩ = some (.int .u8 0) := H.cell 0 rfl 2
          go_wp2
          refine bodyPost_ret (v := .tuple #[.agg #[.int .i64 (b1 : Int), .int .i64 (b2 : Int), .int .u8 0], .bool bz]) (by simp [results, Try.results19, go_sem, f0, f1, f2]) rfl ?_
          have he := HF.out
          rw [← he, ← hbz]
          exact ⟨rfl, H.pick 2 []⟩
      · have k2 : ¬ (1 : Int) ≤ (q : Int) := by omega
        go_wp2_with fail
        obtain ⟨bz, hbz⟩ : ∃ bz, decide (0 < b1) = bz := ⟨_, rfl⟩
        refine wp_region_sp (L := Bk s 38 [.int .i64 (b1 : Int), .int .i64 (b2 : Int), .int .u8 0] :: L) (fun ix vx => ([(· = .agg #[.int .i64 (b1 : Int), .int .i64 (b2 : Int), .int .u8 0]), (· = .pointer (some ⟨s, 0, none⟩)), (· = .int .i64 (b1 : Int)), (· = .bool bz), (fun _ => True), (· = .bool bz)] : List (Value → Prop)).getD ix (fun _ => True) vx)
          (fun ix vx => ([fun _ => [], fun _ => [], fun _ => [], fun _ => [], fun _ => [Bk r 38 [.int .i64 (b1 : Int), .int .i64 (b2 : Int), .int .u8 0]], fun _ => []] : List (Value → List Pr)).getD ix (fun _ => []) vx) (fun ix => ([[], [], [], [], [Bk r 38 [.int .i64 0, .int .i64 0, .int .u8 0]], []] : List (List Pr)).getD ix []) 6 78
          [some 74, some 75, some 76, some 77, none, some 7]
          [[], [], [1], [2], [0, 0], [3, 4, 0, 1, 2, 3, 4]]
          [[], [], [1], [1, 2], [0], [0, 1, 2, 3, 4]]
          [[], [], [], [], [], []]
          [[], [], [], [], [], []]
          [(6, .pointer (some ⟨r, 0, none⟩)), (8, .pointer (some ⟨s, 0, none⟩))]
          (by kernel_rfl) rfl (by decide) (by rfl) rfl (by decide +kernel) (by decide +kernel) (by rfl) rfl rfl (by decide) (by simp) (by rfl) (H.swap) ?hstep ?hend
        case hstep =>
          refine ⟨?_, ⟨?_, ⟨?_, ⟨?_, ⟨?_, ⟨?_, trivial⟩⟩⟩⟩⟩⟩
          · intro x wx A rest hN hS hE H K hK0
            have e8 : A.tmps[8]?.getD undef = .pointer (some ⟨s, 0, none⟩) := hN (8, .pointer (some ⟨s, 0, none⟩)) (by simp)
            replace H : Sp w0 (rest) wx := H
            have hK : Hid (∀ (v : Value) (w' : World), v = .agg #[.int .i64 (b1 : Int), .int .i64 (b2 : Int), .int .u8 0] → Sp w0 (rest) w' → K (A.put (some 74) v) w') := Lib.hid hK0
            clear hK0 hN hS
            have b0 : wx.cell? ⟨s, 0, none⟩ = some (.int .i64 (b1 : Int)) := hE (fun w => w.cell? ⟨s, 0, none⟩ = some (.int .i64 (b1 : Int))) (fun _ _ H => H.cell 0 rfl 0) _ _ H
            have b1 : wx.cell? ⟨s, 1, none⟩ = some (.int .i64 (b2 : Int)) := hE (fun w => w.cell? ⟨s, 1, none⟩ = some (.int .i64 (b2 : Int))) (fun _ _ H => H.cell 0 rfl 1) _ _ H
            have b2 : wx.cell? ⟨s, 2, none⟩ = some (.int .u8 0) := hE (fun w => w.cell? ⟨s, 2, none⟩ = some (.int .u8 0)) (fun _ _ H => H.cell 0 rfl 2) _ _ H
            change Oper.wp _ _ A wx K _
            go_step
            exact hK.out _ _ rfl (H)
          · intro x wx A rest hN hS hE H K hK0
            have e8 : A.tmps[8]?.getD undef = .pointer (some ⟨s, 0, none⟩) := hN (8, .pointer (some ⟨s, 0, none⟩)) (by simp)
            replace H : Sp w0 (rest) wx := H
            have hK : Hid (∀ (v : Value) (w' : World), v = .pointer (some ⟨s, 0, none⟩) → Sp w0 (rest) w' → K (A.put (some 75) v) w') := Lib.hid hK0
            clear hK0 hN hS hE
            change Oper.wp _ _ A wx K _
            go_step
            exact hK.out _ _ rfl (H)
          · intro x wx A rest hN hS hE H K hK0
            have e75 : A.tmps[75]?.getD undef = .pointer (some ⟨s, 0, none⟩) := ((hS 1 (by decide)).2 75 rfl).trans (hS 1 (by decide)).1
            replace H : Sp w0 (rest) wx := H
            have hK : Hid (∀ (v : Value) (w' : World), v = .int .i64 (b1 : Int) → Sp w0 (rest) w' → K (A.put (some 76) v) w') := Lib.hid hK0
            clear hK0 hN hS
            have b0 : wx.cell? ⟨s, 0, none⟩ = some (.int .i64 (b1 : Int)) := hE (fun w => w.cell? ⟨s, 0, none⟩ = some (.int .i64 (b1 : Int))) (fun _ _ H => H.cell 0 rfl 0) _ _ H
            change Oper.wp _ _ A wx K _
            go_step
            exact hK.out _ _ rfl (H)
          · intro x wx A rest hN hS hE H K hK0
            have e76 : A.tmps[76]?.getD undef = .int .i64 (b1 : Int) := ((hS 2 (by decide)).2 76 rfl).trans (hS 2 (by decide)).1
            replace H : Sp w0 (rest) wx := H
            have hK : Hid (∀ (v : Value) (w' : World), v = .bool bz → Sp w0 (rest) w' → K (A.put (some 77) v) w') := Lib.hid hK0
            clear hK0 hN hS hE
            change Oper.wp _ _ A wx K _
            go_step
            exact hK.out _ _ rfl (H)
          · intro x wx A rest hN hS hE H K hK0
            have e6 : A.tmps[6]?.getD undef = .pointer (some ⟨r, 0, none⟩) := hN (6, .pointer (some ⟨r, 0, none⟩)) (by simp)
            have e74 : A.tmps[74]?.getD undef = .agg #[.int .i64 (b1 : Int), .int .i64 (b2 : Int), .int .u8 0] := ((hS 0 (by decide)).2 74 rfl).trans (hS 0 (by decide)).1
            replace H : Sp w0 ((Bk r 38 [.int .i64 0, .int .i64 0, .int .u8 0]) :: rest) wx := H
            have hK : Hid (∀ (v : Value) (w' : World), True → Sp w0 ((Bk r 38 [.int .i64 (b1 : Int), .int .i64 (b2 : Int), .int .u8 0]) :: rest) w' → K (A.put none v) w') := Lib.hid hK0
            clear hK0 hN hS hE
            have z0 : wx.frozen? ⟨r, 0, none⟩ = false := H.frozen 0 rfl 0
            have z1 : wx.frozen? ⟨r, 1, none⟩ = false := H.frozen 0 rfl 1
            have z2 : wx.frozen? ⟨r, 2, none⟩ = false := H.frozen 0 rfl 2
            have z3 : wx.cell? ⟨r, 0, none⟩ = some (.int .i64 0) := H.cell 0 rfl 0
            have z4 : wx.cell? ⟨r, 1, none⟩ = some (.int .i64 0) := H.cell 0 rfl 1
            have z5 : wx.cell? ⟨r, 2, none⟩ = some (.int .u8 0) := H.cell 0 rfl 2
            change Oper.wp _ _ A wx K _
            go_step
            exact hK.out undef _ trivial (((H.set 0 _).set 1 _).set 2 _)
          · intro x wx A rest hN hS hE H K hK0
            have e77 : A.tmps[77]?.getD undef = .bool bz := ((hS 3 (by decide)).2 77 rfl).trans (hS 3 (by decide)).1
            replace H : Sp w0 (rest) wx := H
            have hK : Hid (∀ (v : Value) (w' : World), v = .bool bz → Sp w0 (rest) w' → K (A.put (some 7) v) w') := Lib.hid hK0
            clear hK0 hN hS hE
            change Oper.wp _ _ A wx K _
            go_step
            exact hK.out _ _ rfl (H)
        case hend =>
          intro x wx A hA hS H
          replace H : Sp w0 ((Bk r 38 [.int .i64 (b1 : Int), .int .i64 (b2 : Int), .int .u8 0]) :: Bk s 38 [.int .i64 (b1 : Int), .int .i64 (b2 : Int), .int .u8 0] :: L) wx := H
          have y5 : x 5 = .bool bz := hS 5 (by decide)
          clear hS
          simp only [putAll, Act.put, List.setIfInBounds_toArray, List.set_cons_succ, List.set_cons_zero, Nat.reduceAdd] at hA
          subst hA
          rw [y5]
          clear y5
          have f0 : wx.cell? ⟨r, 0, none⟩ = some (.int .i64 (b1 : Int)) := H.cell 0 rfl 0
          have f1 : wx.cell? ⟨r, 1, none⟩ = some (.int .i64 (b2 : Int)) := H.cell 0 rfl 1
          have f2 : wx.cell? ⟨r, 2, none⟩ = some (.int .u8 0) := H.cell 0 rfl 2
          go_wp2
          refine bodyPost_ret (v := .tuple #[.agg #[.int .i64 (b1 : Int), .int .i64 (b2 : Int), .int .u8 0], .bool bz]) (by simp [results, Try.results19, go_sem, f0, f1, f2]) rfl ?_
          have he := HF.out
          rw [← he, ← hbz]
          exact ⟨rfl, H.pick 2 []⟩
end Go.Proofs.Ytdlbhoedmaifpaa
